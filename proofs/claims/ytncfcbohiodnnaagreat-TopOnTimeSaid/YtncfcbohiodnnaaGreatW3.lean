/- Parts of this seat's claims. -/
import Derived.Test.YtncfcbohiodnnaaGreatW2
import Derived.Deep.DeepCutAuto
import Derived.Test.YtncfcbohiodnnaaGreatChecked
set_option maxRecDepth 100000
set_option maxHeartbeats 6400000
namespace Go.Proofs.YtncfcbohiodnnaaGreat
open Go.RowKit
variable{w w' W wa wo W':World}{c n pt r B j b m mb q base cap id B0:Nat}{A:Option Addr}{a code what:Int}{cs:Array Value}
section
open Go.ChangeShapes Go.WideShapes Go.ChangeAt Go.RowKit Go.Joins
theorem quk{e:TypeId}{sz:Nat}{v:Value}{xs:List Value}(h:w.ownsRow base e sz v n xs)(k:Nat)(hk:v.ownBlock=some k):base<=k:=by rcases h.2 with⟨rfl,_⟩|⟨g,cap,cur,rfl,hb,_⟩;{cases hk};{cases hk;exact hb}
theorem qlp{e:TypeId}{sz:Nat}{v:Value}{xs:List Value}(hB:bW wo w)(h:w.ownsRow wo.heap.size e sz v n xs)(hf:Fr (λk=>v.ownBlock=some k) w w'):bW wo w' :=
 hB.trans (hf.below (λk hk h'=>by have:=quk h k h';omega) hB.size)
structure Hd(α:Type) where
 A:Option Addr
 c:Nat
 l:List α
abbrev Hd.hq{α:Type}(h:Hd α):Value := .slice h.A h.l.length h.c
def Hd.v{α:Type}(h:Hd α):Value := .slice h.A h.l.length h.c
structure Rd(P:Program)(t:TypeId)(α:Type) where
 sz:Nat
 f:α->List Value
 ok:World->α->Prop
 len:∀x,(f x).length=sz
 keep:∀ {W W':World} {x:α},ok W x->bW W W'->ok W' x
 trod:∀ {H:Type} {enc:TypeId×Value->H} {W:World} {fuel:Nat} {cs:List Value} {x:DataW H×List MemPlace},cs.length=sz->DataW.trod enc P W 0 (λ_=>true) true fuel t cs=some x->∃a,cs=f a/\ok W a
theorem q79:Tryz.prog.underlying 3=some (.int .i64):=zk
theorem qlq:Tryz.prog.underlying 29=some (.slice 3):=zk
theorem z02:Tryz.prog.cellsOf 3=1:=zk
def q08:Rd Tryz.prog 3 Int where
 sz:=1
 f z:=[ii z]
 ok _ z:=i64 z
 len _:=rfl
 keep h _:=h
 trod hl h:=by
  rename_i cs _
  match cs,hl with
  |[v],_=>
   obtain⟨n,rfl,wn⟩:=qe6 q79 h;exact⟨n,rfl,qe5 wn⟩
def q7a:Rd Tryz.prog 4 Bool where
 sz:=1
 f b:=[.bool b]
 ok _ _:=True
 len _:=rfl
 keep h _:=h
 trod hl h:=by
  rename_i cs _
  match cs,hl with
  |[v],_=>
   obtain⟨b,e,_⟩:=DataW.trod_bool Tryz.u_bool h;exact⟨b,e,trivial⟩
def Hd.okI(W:World)(h:Hd Int):Prop:=zI W h.A h.l.length h.c h.l
def q1f:Rd Tryz.prog 29 (Hd Int) where
 sz:=1
 f h:=[h.v]
 ok W h:=h.okI W
 len _:=rfl
 keep h hb:=zI.keep h hb
 trod hl h:=by
  rename_i cs _
  match cs,hl with
  |[v],_=>
   obtain⟨A,n,c,l,rfl,hs⟩:=qq4 qlq q79 z02 h;have:=hs.2.1;subst this;exact⟨⟨A,c,l⟩,rfl,hs⟩
def Hd.ok{P:Program}{α:Type}{e:TypeId}(r:Rd P e α)(W:World)(h:Hd α):Prop:=zx W h.A h.l.length h.c r.sz r.f h.l/\∀x∈h.l,r.ok W x
theorem Hd.ok.keep{P:Program}{α:Type}{e:TypeId}{r:Rd P e α}{h:Hd α}(H:h.ok r W)(hb:bW W W'):h.ok r W':=⟨H.1.keep hb,λx hx=>r.keep (H.2 x hx) hb⟩
def qgb{P:Program}{α:Type}{e:TypeId}(t:TypeId)(r:Rd P e α)(ht:P.underlying t=some (.slice e))(hC:P.cellsOf e=r.sz)(hs:0<r.sz):Rd P t (Hd α) where
 sz:=1
 f h:=[h.v]
 ok W h:=h.ok r W
 len _:=rfl
 keep H hb:=H.keep hb
 trod hl h:=by
  rename_i cs _
  match cs,hl with
  |[v],_=>
   obtain⟨A,n,c,l,rfl,hsl,hok⟩:=qq6 (f:=r.f) (ok:=r.ok _) ht hC hs (λfuel cs x hl h=>r.trod hl h) h;have:=hsl.2.1;subst this;exact⟨⟨A,c,l⟩,rfl,hsl,hok⟩
theorem qtm{P:Program}{t:TypeId}{α:Type}(R:Rd P t α){fs:Array Field}(hu:P.underlying t=some (.struct fs))(hC:P.cellsOf t=R.sz){H:Type}{enc:TypeId×Value->H}{W:World}{r:Reach}{base:Nat}{v:Value}{d:DataW H}{p:List MemPlace}
 (hv:Value.okWide P W r base t v)(h:DataW.Trod enc P W 0 (λ_=>true) true t v d p):∃x,v=.agg (R.f x).toArray/\R.ok W x:=by obtain⟨cs,rfl,h0⟩:=okWide_struct hu hv;obtain⟨fuel,hf⟩:=h;obtain⟨x,h1,h2⟩:=R.trod (cs:=cs.toList) (by simpa[hC] using h0) hf;exact⟨x,by rw[<- h1],h2⟩
noncomputable def fieldsOf(t:TypeId):Array Field:=match Tryz.prog.underlying t with|some (.struct fs)=>fs|_=>#[]
structure Rg where
 base:Int
 size:Int
 wr:Bool
abbrev Rg.lw(x:Rg):Array Value:=#[.int .i64 x.base,.int .i64 x.size,.bool x.wr]
def Rg.f(x:Rg):List Value:=[ii x.base,ii x.size,.bool x.wr]
def qd:Rg:=⟨0,0,false⟩
def Rg.ok(W:World)(x:Rg):Prop:=q08.ok W x.base/\q08.ok W x.size/\q7a.ok W x.wr
theorem z03:Tryz.prog.underlying 125=some (.struct (fieldsOf 125)):=zk
noncomputable def z23:Rd Tryz.prog 125 Rg where
 sz:=3
 f:=Rg.f
 ok:=Rg.ok
 len _:=rfl
 keep H hb:=⟨q08.keep H.1 hb,q08.keep H.2.1 hb,q7a.keep H.2.2 hb⟩
 trod hl h:=by
  rename_i cs _
  match cs,hl with
  |[v0,v1,v2],_=>
   obtain⟨_,_,g0⟩:=q00 z03 h 0 3 0 1 zk zk;obtain⟨x0,e0,o0⟩:=q08.trod rfl g0;obtain⟨_,_,g1⟩:=q00 z03 h 1 3 1 1 zk zk;obtain⟨x1,e1,o1⟩:=q08.trod rfl g1;obtain⟨_,_,g2⟩:=q00 z03 h 2 4 2 1 zk zk;obtain⟨x2,e2,o2⟩:=q7a.trod rfl g2;cases e0;cases e1;cases e2;exact⟨⟨x0,x1,x2⟩,rfl,o0,o1,o2⟩
structure Pc where
 prio:Int
 per:Int
 cost:Int
abbrev Pc.lw(x:Pc):Array Value:=#[.int .i64 x.prio,.int .i64 x.per,.int .i64 x.cost]
def Pc.f(x:Pc):List Value:=[ii x.prio,ii x.per,ii x.cost]
def zC:Pc:=⟨0,0,0⟩
def Pc.ok(W:World)(x:Pc):Prop:=q08.ok W x.prio/\q08.ok W x.per/\q08.ok W x.cost
theorem z04:Tryz.prog.underlying 89=some (.struct (fieldsOf 89)):=zk
noncomputable def z05:Rd Tryz.prog 89 Pc where
 sz:=3
 f:=Pc.f
 ok:=Pc.ok
 len _:=rfl
 keep H hb:=⟨q08.keep H.1 hb,q08.keep H.2.1 hb,q08.keep H.2.2 hb⟩
 trod hl h:=by
  rename_i cs _
  match cs,hl with
  |[v0,v1,v2],_=>
   obtain⟨_,_,g0⟩:=q00 z04 h 0 3 0 1 zk zk;obtain⟨x0,e0,o0⟩:=q08.trod rfl g0;obtain⟨_,_,g1⟩:=q00 z04 h 1 3 1 1 zk zk;obtain⟨x1,e1,o1⟩:=q08.trod rfl g1;obtain⟨_,_,g2⟩:=q00 z04 h 2 3 2 1 zk zk;obtain⟨x2,e2,o2⟩:=q08.trod rfl g2;cases e0;cases e1;cases e2;exact⟨⟨x0,x1,x2⟩,rfl,o0,o1,o2⟩
structure Po where
 q:Bool
 inn:Bool
 size:Int
 depth:Int
abbrev Po.lw(x:Po):Array Value:=#[.bool x.q,.bool x.inn,.int .i64 x.size,.int .i64 x.depth]
def Po.f(x:Po):List Value:=[.bool x.q,.bool x.inn,ii x.size,ii x.depth]
def zS:Po:=⟨false,false,0,0⟩
def Po.ok(W:World)(x:Po):Prop:=q7a.ok W x.q/\q7a.ok W x.inn/\q08.ok W x.size/\q08.ok W x.depth
theorem qzr:Tryz.prog.underlying 199=some (.struct (fieldsOf 199)):=zk
noncomputable def qzs:Rd Tryz.prog 199 Po where
 sz:=4
 f:=Po.f
 ok:=Po.ok
 len _:=rfl
 keep H hb:=⟨q7a.keep H.1 hb,q7a.keep H.2.1 hb,q08.keep H.2.2.1 hb,q08.keep H.2.2.2 hb⟩
 trod hl h:=by
  rename_i cs _
  match cs,hl with
  |[v0,v1,v2,v3],_=>
   obtain⟨_,_,g0⟩:=q00 qzr h 0 4 0 1 zk zk;obtain⟨x0,e0,o0⟩:=q7a.trod rfl g0;obtain⟨_,_,g1⟩:=q00 qzr h 1 4 1 1 zk zk;obtain⟨x1,e1,o1⟩:=q7a.trod rfl g1;obtain⟨_,_,g2⟩:=q00 qzr h 2 3 2 1 zk zk;obtain⟨x2,e2,o2⟩:=q08.trod rfl g2;obtain⟨_,_,g3⟩:=q00 qzr h 3 3 3 1 zk zk;obtain⟨x3,e3,o3⟩:=q08.trod rfl g3;cases e0;cases e1;cases e2;cases e3;exact⟨⟨x0,x1,x2,x3⟩,rfl,o0,o1,o2,o3⟩
structure Sm where
 first:Int
 most:Int
abbrev Sm.lw(x:Sm):Array Value:=#[.int .i64 x.first,.int .i64 x.most]
def Sm.f(x:Sm):List Value:=[ii x.first,ii x.most]
def qE:Sm:=⟨0,0⟩
def Sm.ok(W:World)(x:Sm):Prop:=q08.ok W x.first/\q08.ok W x.most
theorem z1m:Tryz.prog.underlying 203=some (.struct (fieldsOf 203)):=zk
noncomputable def z06:Rd Tryz.prog 203 Sm where
 sz:=2
 f:=Sm.f
 ok:=Sm.ok
 len _:=rfl
 keep H hb:=⟨q08.keep H.1 hb,q08.keep H.2 hb⟩
 trod hl h:=by
  rename_i cs _
  match cs,hl with
  |[v0,v1],_=>
   obtain⟨_,_,g0⟩:=q00 z1m h 0 3 0 1 zk zk;obtain⟨x0,e0,o0⟩:=q08.trod rfl g0;obtain⟨_,_,g1⟩:=q00 z1m h 1 3 1 1 zk zk;obtain⟨x1,e1,o1⟩:=q08.trod rfl g1;cases e0;cases e1;exact⟨⟨x0,x1⟩,rfl,o0,o1⟩
structure Pl where
 size:Int
 depth:Int
abbrev Pl.lw(x:Pl):Array Value:=#[.int .i64 x.size,.int .i64 x.depth]
def Pl.f(x:Pl):List Value:=[ii x.size,ii x.depth]
def qD:Pl:=⟨0,0⟩
def Pl.ok(W:World)(x:Pl):Prop:=q08.ok W x.size/\q08.ok W x.depth
theorem z1n:Tryz.prog.underlying 207=some (.struct (fieldsOf 207)):=zk
noncomputable def z07:Rd Tryz.prog 207 Pl where
 sz:=2
 f:=Pl.f
 ok:=Pl.ok
 len _:=rfl
 keep H hb:=⟨q08.keep H.1 hb,q08.keep H.2 hb⟩
 trod hl h:=by
  rename_i cs _
  match cs,hl with
  |[v0,v1],_=>
   obtain⟨_,_,g0⟩:=q00 z1n h 0 3 0 1 zk zk;obtain⟨x0,e0,o0⟩:=q08.trod rfl g0;obtain⟨_,_,g1⟩:=q00 z1n h 1 3 1 1 zk zk;obtain⟨x1,e1,o1⟩:=q08.trod rfl g1;cases e0;cases e1;exact⟨⟨x0,x1⟩,rfl,o0,o1⟩
noncomputable def q8x:Rd Tryz.prog 45 (Hd Rg):=qgb 45 z23 zk zk zd
noncomputable def q8y:Rd Tryz.prog 46 (Hd Pc):=qgb 46 z05 zk zk zd
noncomputable def qb6:Rd Tryz.prog 47 (Hd Po):=qgb 47 qzs zk zk zd
noncomputable def qb7:Rd Tryz.prog 48 (Hd Sm):=qgb 48 z06 zk zk zd
noncomputable def qb8:Rd Tryz.prog 49 (Hd Pl):=qgb 49 z07 zk zk zd
structure Pt where
 regs:Hd Rg
 procs:Hd Pc
 ports:Hd Po
 sems:Hd Sm
 flags:Int
 pools:Hd Pl
 slates:Hd Int
 cap:Int
 bud:Int
 lad:Int
 acts:Hd Int
abbrev Pt.lw(x:Pt):Array Value:=#[.slice x.regs.A x.regs.l.length x.regs.c,.slice x.procs.A x.procs.l.length x.procs.c,.slice x.ports.A x.ports.l.length x.ports.c,.slice x.sems.A x.sems.l.length x.sems.c,.int .i64 x.flags,.slice x.pools.A x.pools.l.length x.pools.c,.slice x.slates.A x.slates.l.length x.slates.c,.int .i64 x.cap,.int .i64 x.bud,.int .i64 x.lad,.slice x.acts.A x.acts.l.length x.acts.c]
def Pt.f(x:Pt):List Value:=[x.regs.v,x.procs.v,x.ports.v,x.sems.v,ii x.flags,x.pools.v,x.slates.v,ii x.cap,ii x.bud,ii x.lad,x.acts.v]
def ze:Pt:=⟨⟨none,0,[]⟩,⟨none,0,[]⟩,⟨none,0,[]⟩,⟨none,0,[]⟩,0,⟨none,0,[]⟩,⟨none,0,[]⟩,0,0,0,⟨none,0,[]⟩⟩
def Pt.ok(W:World)(x:Pt):Prop:=q8x.ok W x.regs/\q8y.ok W x.procs/\qb6.ok W x.ports/\qb7.ok W x.sems/\q08.ok W x.flags/\qb8.ok W x.pools/\q1f.ok W x.slates/\q08.ok W x.cap/\q08.ok W x.bud/\q08.ok W x.lad/\q1f.ok W x.acts
theorem qlr:Tryz.prog.underlying 51=some (.struct (fieldsOf 51)):=zk
noncomputable def qcu:Rd Tryz.prog 51 Pt where
 sz:=11
 f:=Pt.f
 ok:=Pt.ok
 len _:=rfl
 keep H hb:=⟨q8x.keep H.1 hb,q8y.keep H.2.1 hb,qb6.keep H.2.2.1 hb,qb7.keep H.2.2.2.1 hb,q08.keep H.2.2.2.2.1 hb,qb8.keep H.2.2.2.2.2.1 hb,q1f.keep H.2.2.2.2.2.2.1 hb,q08.keep H.2.2.2.2.2.2.2.1 hb,q08.keep H.2.2.2.2.2.2.2.2.1 hb,q08.keep H.2.2.2.2.2.2.2.2.2.1 hb,q1f.keep H.2.2.2.2.2.2.2.2.2.2 hb⟩
 trod hl h:=by
  rename_i cs _
  match cs,hl with
  |[v0,v1,v2,v3,v4,v5,v6,v7,v8,v9,v10],_=>
   obtain⟨_,_,g0⟩:=q00 qlr h 0 45 0 1 zk zk;obtain⟨x0,e0,o0⟩:=q8x.trod rfl g0;obtain⟨_,_,g1⟩:=q00 qlr h 1 46 1 1 zk zk;obtain⟨x1,e1,o1⟩:=q8y.trod rfl g1;obtain⟨_,_,g2⟩:=q00 qlr h 2 47 2 1 zk zk;obtain⟨x2,e2,o2⟩:=qb6.trod rfl g2;obtain⟨_,_,g3⟩:=q00 qlr h 3 48 3 1 zk zk;obtain⟨x3,e3,o3⟩:=qb7.trod rfl g3;obtain⟨_,_,g4⟩:=q00 qlr h 4 3 4 1 zk zk;obtain⟨x4,e4,o4⟩:=q08.trod rfl g4;obtain⟨_,_,g5⟩:=q00 qlr h 5 49 5 1 zk zk;obtain⟨x5,e5,o5⟩:=qb8.trod rfl g5;obtain⟨_,_,g6⟩:=q00 qlr h 6 29 6 1 zk zk;obtain⟨x6,e6,o6⟩:=q1f.trod rfl g6;obtain⟨_,_,g7⟩:=q00 qlr h 7 3 7 1 zk zk;obtain⟨x7,e7,o7⟩:=q08.trod rfl g7;obtain⟨_,_,g8⟩:=q00 qlr h 8 3 8 1 zk zk;obtain⟨x8,e8,o8⟩:=q08.trod rfl g8;obtain⟨_,_,g9⟩:=q00 qlr h 9 3 9 1 zk zk;obtain⟨x9,e9,o9⟩:=q08.trod rfl g9;obtain⟨_,_,g10⟩:=q00 qlr h 10 29 10 1 zk zk;obtain⟨x10,e10,o10⟩:=q1f.trod rfl g10;cases e0;cases e1;cases e2;cases e3;cases e4;cases e5;cases e6;cases e7;cases e8;cases e9;cases e10;exact⟨⟨x0,x1,x2,x3,x4,x5,x6,x7,x8,x9,x10⟩,rfl,o0,o1,o2,o3,o4,o5,o6,o7,o8,o9,o10⟩
structure En where
 part:Int
 port:Int
abbrev En.lw(x:En):Array Value:=#[.int .i64 x.part,.int .i64 x.port]
def En.f(x:En):List Value:=[ii x.part,ii x.port]
def yM:En:=⟨0,0⟩
def En.ok(W:World)(x:En):Prop:=q08.ok W x.part/\q08.ok W x.port
theorem z1o:Tryz.prog.underlying 139=some (.struct (fieldsOf 139)):=zk
noncomputable def qx0:Rd Tryz.prog 139 En where
 sz:=2
 f:=En.f
 ok:=En.ok
 len _:=rfl
 keep H hb:=⟨q08.keep H.1 hb,q08.keep H.2 hb⟩
 trod hl h:=by
  rename_i cs _
  match cs,hl with
  |[v0,v1],_=>
   obtain⟨_,_,g0⟩:=q00 z1o h 0 3 0 1 zk zk;obtain⟨x0,e0,o0⟩:=q08.trod rfl g0;obtain⟨_,_,g1⟩:=q00 z1o h 1 3 1 1 zk zk;obtain⟨x1,e1,o1⟩:=q08.trod rfl g1;cases e0;cases e1;exact⟨⟨x0,x1⟩,rfl,o0,o1⟩
structure Ch where
 fr:En
 «to» : En
def Ch.f(x:Ch):List Value:=[ii x.fr.part,ii x.fr.port,ii x.to.part,ii x.to.port]
def zu:Ch:=⟨yM,yM⟩
def Ch.ok(W:World)(x:Ch):Prop:=qx0.ok W x.fr/\qx0.ok W x.to
theorem z1p:Tryz.prog.underlying 141=some (.struct (fieldsOf 141)):=zk
noncomputable def qzt:Rd Tryz.prog 141 Ch where
 sz:=4
 f:=Ch.f
 ok:=Ch.ok
 len _:=rfl
 keep H hb:=⟨qx0.keep H.1 hb,qx0.keep H.2 hb⟩
 trod hl h:=by
  rename_i cs _
  match cs,hl with
  |[v0,v1,v2,v3],_=>
   obtain⟨_,_,g0⟩:=q00 z1p h 0 139 0 2 zk zk;obtain⟨x0,e0,o0⟩:=qx0.trod rfl g0;obtain⟨_,_,g1⟩:=q00 z1p h 1 139 2 2 zk zk;obtain⟨x1,e1,o1⟩:=qx0.trod rfl g1;cases e0;cases e1;exact⟨⟨x0,x1⟩,rfl,o0,o1⟩
structure Wn where
 part:Int
 start:Int
 len:Int
abbrev Wn.lw(x:Wn):Array Value:=#[.int .i64 x.part,.int .i64 x.start,.int .i64 x.len]
def Wn.f(x:Wn):List Value:=[ii x.part,ii x.start,ii x.len]
def zF:Wn:=⟨0,0,0⟩
def Wn.ok(W:World)(x:Wn):Prop:=q08.ok W x.part/\q08.ok W x.start/\q08.ok W x.len
theorem z08:Tryz.prog.underlying 96=some (.struct (fieldsOf 96)):=zk
noncomputable def z24:Rd Tryz.prog 96 Wn where
 sz:=3
 f:=Wn.f
 ok:=Wn.ok
 len _:=rfl
 keep H hb:=⟨q08.keep H.1 hb,q08.keep H.2.1 hb,q08.keep H.2.2 hb⟩
 trod hl h:=by
  rename_i cs _
  match cs,hl with
  |[v0,v1,v2],_=>
   obtain⟨_,_,g0⟩:=q00 z08 h 0 3 0 1 zk zk;obtain⟨x0,e0,o0⟩:=q08.trod rfl g0;obtain⟨_,_,g1⟩:=q00 z08 h 1 3 1 1 zk zk;obtain⟨x1,e1,o1⟩:=q08.trod rfl g1;obtain⟨_,_,g2⟩:=q00 z08 h 2 3 2 1 zk zk;obtain⟨x2,e2,o2⟩:=q08.trod rfl g2;cases e0;cases e1;cases e2;exact⟨⟨x0,x1,x2⟩,rfl,o0,o1,o2⟩
noncomputable def qe7:Rd Tryz.prog 92 (Hd Wn):=qgb 92 z24 zk zk zd
structure Md where
 frame:Int
 wins:Hd Wn
abbrev Md.lw(x:Md):Array Value:=#[.int .i64 x.frame,.slice x.wins.A x.wins.l.length x.wins.c]
def Md.f(x:Md):List Value:=[ii x.frame,x.wins.v]
def zq:Md:=⟨0,⟨none,0,[]⟩⟩
def Md.ok(W:World)(x:Md):Prop:=q08.ok W x.frame/\qe7.ok W x.wins
theorem z1q:Tryz.prog.underlying 94=some (.struct (fieldsOf 94)):=zk
noncomputable def z09:Rd Tryz.prog 94 Md where
 sz:=2
 f:=Md.f
 ok:=Md.ok
 len _:=rfl
 keep H hb:=⟨q08.keep H.1 hb,qe7.keep H.2 hb⟩
 trod hl h:=by
  rename_i cs _
  match cs,hl with
  |[v0,v1],_=>
   obtain⟨_,_,g0⟩:=q00 z1q h 0 3 0 1 zk zk;obtain⟨x0,e0,o0⟩:=q08.trod rfl g0;obtain⟨_,_,g1⟩:=q00 z1q h 1 92 1 1 zk zk;obtain⟨x1,e1,o1⟩:=qe7.trod rfl g1;cases e0;cases e1;exact⟨⟨x0,x1⟩,rfl,o0,o1⟩
structure Lv where
 freq:Int
 power:Int
abbrev Lv.lw(x:Lv):Array Value:=#[.int .i64 x.freq,.int .i64 x.power]
def Lv.f(x:Lv):List Value:=[ii x.freq,ii x.power]
def zw:Lv:=⟨0,0⟩
def Lv.ok(W:World)(x:Lv):Prop:=q08.ok W x.freq/\q08.ok W x.power
theorem z1r:Tryz.prog.underlying 127=some (.struct (fieldsOf 127)):=zk
noncomputable def qxk:Rd Tryz.prog 127 Lv where
 sz:=2
 f:=Lv.f
 ok:=Lv.ok
 len _:=rfl
 keep H hb:=⟨q08.keep H.1 hb,q08.keep H.2 hb⟩
 trod hl h:=by
  rename_i cs _
  match cs,hl with
  |[v0,v1],_=>
   obtain⟨_,_,g0⟩:=q00 z1r h 0 3 0 1 zk zk;obtain⟨x0,e0,o0⟩:=q08.trod rfl g0;obtain⟨_,_,g1⟩:=q00 z1r h 1 3 1 1 zk zk;obtain⟨x1,e1,o1⟩:=q08.trod rfl g1;cases e0;cases e1;exact⟨⟨x0,x1⟩,rfl,o0,o1⟩
structure Np where
 power:Int
 enter:Int
 wake:Int
abbrev Np.lw(x:Np):Array Value:=#[.int .i64 x.power,.int .i64 x.enter,.int .i64 x.wake]
def Np.f(x:Np):List Value:=[ii x.power,ii x.enter,ii x.wake]
def zL:Np:=⟨0,0,0⟩
def Np.ok(W:World)(x:Np):Prop:=q08.ok W x.power/\q08.ok W x.enter/\q08.ok W x.wake
theorem z0a:Tryz.prog.underlying 219=some (.struct (fieldsOf 219)):=zk
noncomputable def z1s:Rd Tryz.prog 219 Np where
 sz:=3
 f:=Np.f
 ok:=Np.ok
 len _:=rfl
 keep H hb:=⟨q08.keep H.1 hb,q08.keep H.2.1 hb,q08.keep H.2.2 hb⟩
 trod hl h:=by
  rename_i cs _
  match cs,hl with
  |[v0,v1,v2],_=>
   obtain⟨_,_,g0⟩:=q00 z0a h 0 3 0 1 zk zk;obtain⟨x0,e0,o0⟩:=q08.trod rfl g0;obtain⟨_,_,g1⟩:=q00 z0a h 1 3 1 1 zk zk;obtain⟨x1,e1,o1⟩:=q08.trod rfl g1;obtain⟨_,_,g2⟩:=q00 z0a h 2 3 2 1 zk zk;obtain⟨x2,e2,o2⟩:=q08.trod rfl g2;cases e0;cases e1;cases e2;exact⟨⟨x0,x1,x2⟩,rfl,o0,o1,o2⟩
noncomputable def qb9:Rd Tryz.prog 25 (Hd Lv):=qgb 25 qxk zk zk zd
noncomputable def qe8:Rd Tryz.prog 26 (Hd Np):=qgb 26 z1s zk zk zd
structure Pw where
 levels:Hd Lv
 naps:Hd Np
 sw:Int
 idle:Int
 change:Int
 quant:Int
 slow:Int
 ppm:Int
abbrev Pw.lw(x:Pw):Array Value:=#[.slice x.levels.A x.levels.l.length x.levels.c,.slice x.naps.A x.naps.l.length x.naps.c,.int .i64 x.sw,.int .i64 x.idle,.int .i64 x.change,.int .i64 x.quant,.int .i64 x.slow,.int .i64 x.ppm]
def Pw.f(x:Pw):List Value:=[x.levels.v,x.naps.v,ii x.sw,ii x.idle,ii x.change,ii x.quant,ii x.slow,ii x.ppm]
def Pw.ok(W:World)(x:Pw):Prop:=qb9.ok W x.levels/\qe8.ok W x.naps/\q08.ok W x.sw/\q08.ok W x.idle/\q08.ok W x.change/\q08.ok W x.quant/\q08.ok W x.slow/\q08.ok W x.ppm
theorem qtn:Tryz.prog.underlying 28=some (.struct (fieldsOf 28)):=zk
noncomputable def q1y:Rd Tryz.prog 28 Pw where
 sz:=8
 f:=Pw.f
 ok:=Pw.ok
 len _:=rfl
 keep H hb:=⟨qb9.keep H.1 hb,qe8.keep H.2.1 hb,q08.keep H.2.2.1 hb,q08.keep H.2.2.2.1 hb,q08.keep H.2.2.2.2.1 hb,q08.keep H.2.2.2.2.2.1 hb,q08.keep H.2.2.2.2.2.2.1 hb,q08.keep H.2.2.2.2.2.2.2 hb⟩
 trod hl h:=by
  rename_i cs _
  match cs,hl with
  |[v0,v1,v2,v3,v4,v5,v6,v7],_=>
   obtain⟨_,_,g0⟩:=q00 qtn h 0 25 0 1 zk zk;obtain⟨x0,e0,o0⟩:=qb9.trod rfl g0;obtain⟨_,_,g1⟩:=q00 qtn h 1 26 1 1 zk zk;obtain⟨x1,e1,o1⟩:=qe8.trod rfl g1;obtain⟨_,_,g2⟩:=q00 qtn h 2 3 2 1 zk zk;obtain⟨x2,e2,o2⟩:=q08.trod rfl g2;obtain⟨_,_,g3⟩:=q00 qtn h 3 3 3 1 zk zk;obtain⟨x3,e3,o3⟩:=q08.trod rfl g3;obtain⟨_,_,g4⟩:=q00 qtn h 4 3 4 1 zk zk;obtain⟨x4,e4,o4⟩:=q08.trod rfl g4;obtain⟨_,_,g5⟩:=q00 qtn h 5 3 5 1 zk zk;obtain⟨x5,e5,o5⟩:=q08.trod rfl g5;obtain⟨_,_,g6⟩:=q00 qtn h 6 3 6 1 zk zk;obtain⟨x6,e6,o6⟩:=q08.trod rfl g6;obtain⟨_,_,g7⟩:=q00 qtn h 7 3 7 1 zk zk;obtain⟨x7,e7,o7⟩:=q08.trod rfl g7;cases e0;cases e1;cases e2;cases e3;cases e4;cases e5;cases e6;cases e7;exact⟨⟨x0,x1,x2,x3,x4,x5,x6,x7⟩,rfl,o0,o1,o2,o3,o4,o5,o6,o7⟩
structure Sd where
 down:Hd Int
 up:Hd Int
abbrev Sd.lw(x:Sd):Array Value:=#[.slice x.down.A x.down.l.length x.down.c,.slice x.up.A x.up.l.length x.up.c]
def Sd.f(x:Sd):List Value:=[x.down.v,x.up.v]
def Sd.ok(W:World)(x:Sd):Prop:=q1f.ok W x.down/\q1f.ok W x.up
theorem z1t:Tryz.prog.underlying 31=some (.struct (fieldsOf 31)):=zk
noncomputable def qjb:Rd Tryz.prog 31 Sd where
 sz:=2
 f:=Sd.f
 ok:=Sd.ok
 len _:=rfl
 keep H hb:=⟨q1f.keep H.1 hb,q1f.keep H.2 hb⟩
 trod hl h:=by
  rename_i cs _
  match cs,hl with
  |[v0,v1],_=>
   obtain⟨_,_,g0⟩:=q00 z1t h 0 29 0 1 zk zk;obtain⟨x0,e0,o0⟩:=q1f.trod rfl g0;obtain⟨_,_,g1⟩:=q00 z1t h 1 29 1 1 zk zk;obtain⟨x1,e1,o1⟩:=q1f.trod rfl g1;cases e0;cases e1;exact⟨⟨x0,x1⟩,rfl,o0,o1⟩
noncomputable def q53:Rd Tryz.prog 22 (Hd Pt):=qgb 22 qcu zk zk zd
noncomputable def q54:Rd Tryz.prog 23 (Hd Ch):=qgb 23 qzt zk zk zd
noncomputable def qe9:Rd Tryz.prog 24 (Hd Md):=qgb 24 z09 zk zk zd
structure Cf where
 parts:Hd Pt
 chans:Hd Ch
 modes:Hd Md
 pw:Pw
 shed:Sd
abbrev Cf.lw(x:Cf):Array Value:=#[.slice x.parts.A x.parts.l.length x.parts.c,.slice x.chans.A x.chans.l.length x.chans.c,.slice x.modes.A x.modes.l.length x.modes.c,.slice x.pw.levels.A x.pw.levels.l.length x.pw.levels.c,.slice x.pw.naps.A x.pw.naps.l.length x.pw.naps.c,.int .i64 x.pw.sw,.int .i64 x.pw.idle,.int .i64 x.pw.change,.int .i64 x.pw.quant,.int .i64 x.pw.slow,.int .i64 x.pw.ppm,.slice x.shed.down.A x.shed.down.l.length x.shed.down.c,.slice x.shed.up.A x.shed.up.l.length x.shed.up.c]
def Cf.f(x:Cf):List Value:=[x.parts.v,x.chans.v,x.modes.v,x.pw.levels.v,x.pw.naps.v,ii x.pw.sw,ii x.pw.idle,ii x.pw.change,ii x.pw.quant,ii x.pw.slow,ii x.pw.ppm,x.shed.down.v,x.shed.up.v]
def Cf.ok(W:World)(x:Cf):Prop:=q53.ok W x.parts/\q54.ok W x.chans/\qe9.ok W x.modes/\q1y.ok W x.pw/\qjb.ok W x.shed
theorem qx1:Tryz.prog.underlying 33=some (.struct (fieldsOf 33)):=zk
noncomputable def q1k:Rd Tryz.prog 33 Cf where
 sz:=13
 f:=Cf.f
 ok:=Cf.ok
 len _:=rfl
 keep H hb:=⟨q53.keep H.1 hb,q54.keep H.2.1 hb,qe9.keep H.2.2.1 hb,q1y.keep H.2.2.2.1 hb,qjb.keep H.2.2.2.2 hb⟩
 trod hl h:=by
  rename_i cs _
  match cs,hl with
  |[v0,v1,v2,v3,v4,v5,v6,v7,v8,v9,v10,v11,v12],_=>
   obtain⟨_,_,g0⟩:=q00 qx1 h 0 22 0 1 zk zk;obtain⟨x0,e0,o0⟩:=q53.trod rfl g0;obtain⟨_,_,g1⟩:=q00 qx1 h 1 23 1 1 zk zk;obtain⟨x1,e1,o1⟩:=q54.trod rfl g1;obtain⟨_,_,g2⟩:=q00 qx1 h 2 24 2 1 zk zk;obtain⟨x2,e2,o2⟩:=qe9.trod rfl g2;obtain⟨_,_,g3⟩:=q00 qx1 h 3 28 3 8 zk zk;obtain⟨x3,e3,o3⟩:=q1y.trod rfl g3;obtain⟨_,_,g4⟩:=q00 qx1 h 4 31 11 2 zk zk;obtain⟨x4,e4,o4⟩:=qjb.trod rfl g4;cases e0;cases e1;cases e2;cases e3;cases e4;exact⟨⟨x0,x1,x2,x3,x4⟩,rfl,o0,o1,o2,o3,o4⟩
end
structure Tn{X:Type}(t sz:Nat)(cl:X->Array Value)(ls:X->List Value)(zc:Array Value)(z:X):Type where
abbrev Tn.t{X:Type}{t sz:Nat}{cl:X->Array Value}{ls:X->List Value}{zc:Array Value}{z:X}(_:Tn t sz cl ls zc z):TypeId:=t
abbrev Tn.sz{X:Type}{t sz:Nat}{cl:X->Array Value}{ls:X->List Value}{zc:Array Value}{z:X}(_:Tn t sz cl ls zc z):Nat:=sz
abbrev Tn.cl{X:Type}{t sz:Nat}{cl:X->Array Value}{ls:X->List Value}{zc:Array Value}{z:X}(_:Tn t sz cl ls zc z):X->Array Value:=cl
abbrev Tn.ls{X:Type}{t sz:Nat}{cl:X->Array Value}{ls:X->List Value}{zc:Array Value}{z:X}(_:Tn t sz cl ls zc z):X->List Value:=ls
abbrev Tn.zc{X:Type}{t sz:Nat}{cl:X->Array Value}{ls:X->List Value}{zc:Array Value}{z:X}(_:Tn t sz cl ls zc z):Array Value:=zc
abbrev Tn.z{X:Type}{t sz:Nat}{cl:X->Array Value}{ls:X->List Value}{zc:Array Value}{z:X}(_:Tn t sz cl ls zc z):X:=z
section
open Go.ChangeShapes Go.WideShapes Go.ChangeAt Go.RowKit Go.Joins
structure Fm where
 reading:Int
 mode:Int
 drift:Int
 choice:Int
abbrev Fm.lw(x:Fm):Array Value:=#[.int .i64 x.reading,.int .i64 x.mode,.int .i64 x.drift,.int .i64 x.choice]
def Fm.f(x:Fm):List Value:=[ii x.reading,ii x.mode,ii x.drift,ii x.choice]
def qt:Fm:=⟨0,0,0,0⟩
def Fm.ok(W:World)(x:Fm):Prop:=q08.ok W x.reading/\q08.ok W x.mode/\q08.ok W x.drift/\q08.ok W x.choice
theorem qzw:Tryz.prog.underlying 78=some (.struct (fieldsOf 78)):=zk
noncomputable def z0l:Rd Tryz.prog 78 Fm where
 sz:=4
 f:=Fm.f
 ok:=Fm.ok
 len _:=rfl
 keep H hb:=⟨q08.keep H.1 hb,q08.keep H.2.1 hb,q08.keep H.2.2.1 hb,q08.keep H.2.2.2 hb⟩
 trod hl h:=by
  rename_i cs _
  match cs,hl with
  |[v0,v1,v2,v3],_=>
   obtain⟨_,_,g0⟩:=q00 qzw h 0 3 0 1 zk zk;obtain⟨x0,e0,o0⟩:=q08.trod rfl g0;obtain⟨_,_,g1⟩:=q00 qzw h 1 3 1 1 zk zk;obtain⟨x1,e1,o1⟩:=q08.trod rfl g1;obtain⟨_,_,g2⟩:=q00 qzw h 2 3 2 1 zk zk;obtain⟨x2,e2,o2⟩:=q08.trod rfl g2;obtain⟨_,_,g3⟩:=q00 qzw h 3 3 3 1 zk zk;obtain⟨x3,e3,o3⟩:=q08.trod rfl g3;cases e0;cases e1;cases e2;cases e3;exact⟨⟨x0,x1,x2,x3⟩,rfl,o0,o1,o2,o3⟩
noncomputable def q91:Rd Tryz.prog 35 (Hd Fm):=qgb 35 z0l zk zk zd
end
namespace Ca
structure Pg where
 at_:Int
 end_:Int
 mode:Int
 level:Int
def Pg.f(p:Pg):List Value:=[ii p.at_,ii p.end_,ii p.mode,ii p.level]
def Pg.v(p:Pg):Value := .agg #[ii p.at_,ii p.end_,ii p.mode,ii p.level]
def Pg0:Pg:=⟨0,0,0,0⟩
def turnS(n:Nat)(mode want:Int):Int:=if 0<=want/\want<n then want else mode
def stepS(x:Cf)(p:Pg)(f:Fm):Option Pg :=
 let m:=turnS x.modes.l.length p.mode f.mode
 if m<0\/(x.modes.l.length:Int)<=m then none else
 let long:=(z6 zq x.modes.l m.toNat).frame
 if long<1\/1152921504606846976-p.end_<long then none else
 some ⟨p.end_,p.end_+long,m,q46 x.shed.down.l x.shed.up.l p.level f.reading⟩
def pagesS(x:Cf):Pg->List Fm->List Pg
 |_,[]=>[]
 |p,f::fs=>match stepS x p f with
  |none=>[]
  |some q=>q::pagesS x q fs
structure PgOk(x:Cf)(p:Pg):Prop where
 e:0<=p.end_/\p.end_<=1152921504606846976
 a:0<=p.at_/\p.at_<=1152921504606846976
 m:0<=p.mode/\i64 p.mode
 l:i64 p.level
theorem qyi(x:Cf):PgOk x Pg0:=⟨by simp[Pg0],by simp[Pg0],by simp[Pg0,i64],by simp[Pg0,i64]⟩
theorem qk1{x:Cf}{p q:Pg}{f:Fm}(h:stepS x p f=some q) :
  q.at_=p.end_/\q.end_=p.end_+(z6 zq x.modes.l q.mode.toNat).frame/\q.mode=turnS x.modes.l.length p.mode f.mode/\q.level=q46 x.shed.down.l x.shed.up.l p.level f.reading /\
  0<=q.mode/\q.mode<x.modes.l.length/\1<=(z6 zq x.modes.l q.mode.toNat).frame/\(z6 zq x.modes.l q.mode.toNat).frame<=1152921504606846976-p.end_:=by unfold stepS at h;simp only at h;split at h;{cases h};{split at h;{cases h};{cases h;refine⟨rfl,rfl,rfl,rfl,?_,?_,?_,?_⟩ <;> simp only[] <;> omega}}
theorem qrd{x:Cf}{p q:Pg}{f:Fm}(hp:PgOk x p)(hd:x.shed.down.l.length<=9223372036854775807)(hm:x.modes.l.length<=9223372036854775807)(h:stepS x p f=some q):PgOk x q:=by obtain⟨h1,h2,h3,h4,h5,h6,h7,h8⟩:=qk1 h;obtain⟨e,a,m,l⟩:=hp;refine⟨zo,zo,⟨h5,by unfold i64;omega⟩,?_⟩;rw[h4];exact qez _ _ _ _ hd l
structure St where
 part:Int
 fr:Int
 «to» : Int
def St.f(s:St):List Value:=[ii s.part,ii s.fr,ii s.to]
def St.v(s:St):Value := .agg #[ii s.part,ii s.fr,ii s.to]
def St0:St:=⟨0,0,0⟩
def slotS(at_:Int)(w:Wn):St:=⟨w.part,wrap64 (at_+w.start),wrap64 (wrap64 (at_+w.start)+w.len)⟩
def slotsS(m:Md)(at_:Int):List St:=m.wins.l.map (slotS at_)
structure Bd where
 due:Int
 at_:Int
 part:Int
def Bd.f(b:Bd):List Value:=[ii b.due,ii b.at_,ii b.part]
end Ca
namespace Me
structure Sg where
 (ba sz:Int) (wr:Bool)
def Sg.ok(s:Sg):Prop:=i64 s.ba/\i64 s.sz
def zM:Sg:=⟨0,0,false⟩
def qmt(s:Sg)(len:Nat)(a n:Int):Bool:=decide (0<=n)&&decide (s.ba<=a)&&decide (a-s.ba<=len)&&decide (n<=len-(a-s.ba))
def qQ(s:Sg)(len:Nat)(a n:Int)(w:Bool):Bool:=qmt s len a n&&(s.wr || !w)
theorem qd3{s:Sg}{len:Nat}{n:Int}:qmt s len a n=true↔0<=n/\s.ba<=a/\a-s.ba<=len/\n<=len-(a-s.ba):=by unfold qmt;simp[and_assoc]
theorem qv5{s:Sg}{len:Nat}{n:Int}(h:¬(0<=n/\s.ba<=a/\a-s.ba<=len/\n<=len-(a-s.ba))):qmt s len a n=false:=by cases hh:qmt s len a n with|false=>{rfl}|true=>exact absurd (qd3.1 hh) h
theorem qv6{p:Nat}{s:Sg}{len:Nat}(hb:Blk w p 315 #[ii s.ba,ii s.sz,.bool s.wr,.slice A len c])(hs:s.ok)(hl:len<=100000){a n:Int}(ha:i64 a)(hn:i64 n) :
  cP 398 #[pp p,ii a,ii n] w λe w'=>e=.returned (.bool (qmt s len a n))/\∃k,w'=w.drewN k:=by have HB:Hid (qmt s len a n=true↔0<=n/\s.ba<=a/\a-s.ba<=len/\n<=len-(a-s.ba)):=qd3;have HN:Hid (¬(0<=n/\s.ba<=a/\a-s.ba<=len/\n<=len-(a-s.ba))->qmt s len a n=false):=qv5;generalize qmt s len a n=R at HB HN⊢;obtain⟨ba,sz,wr⟩:=s;obtain⟨h7,h8⟩:=hs;simp only at h7 h8;unfold i64 at ha hn h7 h8;simp only[Hid]at HB HN;have c0:w.cell? ⟨p,0,none⟩=some (ii ba):=hb.cell 0;have c3:w.cell? ⟨p,3,none⟩=some (.slice A len c):=hb.cell 3;refine zi ?_;go_wp2_with fail;by_cases h0:0<=n;{have h9:decide ((0:Int)<=n)=true:=by{simpa using h0};by_cases h1:ba<=a;{have hc:decide (ba<=a)=true:=by{simpa using h1};by_cases h2:a-ba<=9223372036854775807;{have hw:IntKind.i64.wrap (a-ba)=a-ba:=Q4 _ zo;have h5:decide (0<=a-ba)=true:=aO;have h2'':(0:Int)<=a-ba:=zo;by_cases h3:a-ba<=(len:Int);{have h6:decide (a-ba<=(len:Int))=true:=by{simpa using h3};have hw2:IntKind.i64.wrap ((len:Int)-(a-ba))=(len:Int)-(a-ba):=Q4 _ zo;by_cases h4:n<=(len:Int)-(a-ba);{have hd:decide (n<=(len:Int)-(a-ba))=true:=by{simpa using h4};have hR:=HB.2 ⟨h0,h1,h3,h4⟩;subst hR;clear HB HN;go_wp2_with(go_quiet (fail));go_ret;exact⟨rfl,_,rfl⟩};{have hd:decide (n<=(len:Int)-(a-ba))=false:=aO;have hR:=HN (λh=>h4 h.2.2.2);subst hR;clear HB HN;go_wp2_with(go_quiet (fail));go_ret;exact⟨rfl,_,rfl⟩}};{have h6:decide (a-ba<=(len:Int))=false:=aO;have hR:=HN (λh=>h3 h.2.2.1);subst hR;clear HB HN;go_wp2_with(go_quiet (fail));go_ret;exact⟨rfl,_,rfl⟩}};{have hw:IntKind.i64.wrap (a-ba)<0:=by{rw[IntKind.wrap_i64];omega};have h5:decide (0<=IntKind.i64.wrap (a-ba))=false:=aO;have h6:decide (0<=wrap64 (a-ba))=false:=by{rw[<- IntWalk.i64_left];exact h5};clear hw;have hR:=HN (λh=>by omega);subst hR;clear HB HN;go_wp2_with(go_quiet (fail));go_ret;exact⟨rfl,_,rfl⟩}};{have hc:decide (ba<=a)=false:=aO;have hR:=HN (λh=>h1 h.2.1);subst hR;clear HB HN;go_wp2_with(go_quiet (fail));go_ret;exact⟨rfl,_,rfl⟩}};{have h9:decide ((0:Int)<=n)=false:=aO;have hR:=HN (λh=>h0 h.1);subst hR;clear HB HN;go_wp2_with(go_quiet (fail));go_ret;exact⟨rfl,_,rfl⟩}
end Me
namespace Me
def xN(x:Nat×Nat):List Value:=[pp x.1]
def qqw(w:World)(s:Sg)(x:Nat×Nat)(l:List UInt8):Prop :=
 Blk w x.1 315 #[ii s.ba,ii s.sz,.bool s.wr,.slice (some ⟨x.2,0,none⟩) l.length l.length]/\Blk w x.2 5 (l.map bv).toArray/\l.length<=256
def qZ(Bs:List (List UInt8))(i:Nat):Nat:=(z6 [] Bs i).length
def fdF(Ss:List Sg)(Bs:List (List UInt8))(a n:Int)(wr:Bool):Option Nat:=(List.range Ss.length).find? λj=>qQ (z6 zM Ss j) (qZ Bs j) a n wr
theorem qqx{Ss:List Sg}{Bs:List (List UInt8)}{n:Int}{wr:Bool}{k:Nat}(hk:k<Ss.length)(h:qQ (z6 zM Ss k) (qZ Bs k) a n wr=true)(hno:∀j,j<k->qQ (z6 zM Ss j) (qZ Bs j) a n wr=false):fdF Ss Bs a n wr=some k:=by unfold fdF;rw[List.find?_range_eq_some];exact⟨h,by simpa using hk,λj hj=>by rw[hno j hj];rfl⟩
theorem qqy{Ss:List Sg}{Bs:List (List UInt8)}{n:Int}{wr:Bool}(hno:∀j,j<Ss.length->qQ (z6 zM Ss j) (qZ Bs j) a n wr=false):fdF Ss Bs a n wr=none:=by unfold fdF;rw[List.find?_eq_none];intro j hj;rw[hno j (by simpa using hj)];exact ZC
theorem qtu{Ss:List Sg}{Bs:List (List UInt8)}{n:Int}{wr:Bool}{k:Nat}(h:fdF Ss Bs a n wr=some k):k<Ss.length/\qQ (z6 zM Ss k) (qZ Bs k) a n wr=true:=by unfold fdF at h;rw[List.find?_range_eq_some]at h;exact⟨by simpa using h.2.1,h.1⟩
def yA(x1 x2 x3:Nat):Value := .func (.func 397) #[] #[pp x1,pp x2,pp x3]
theorem qv7{s:Sg}{x:Nat×Nat}{l:List UInt8}(h:qqw w s x l)(hs:s.ok){x1 x2 x3:Nat}{a n:Int}{wr:Bool}(ha:i64 a)(hn:i64 n)
 (c1:w.cell? ⟨x1,0,none⟩=some (ii a))(c2:w.cell? ⟨x2,0,none⟩=some (ii n))(c3:w.cell? ⟨x3,0,none⟩=some (.bool wr)) :
  cP 397 #[pp x.1,pp x1,pp x2,pp x3] w λe w'=>e=.returned (.bool (qQ s l.length a n wr))/\∃k,w'=w.drewN k:=by obtain⟨h1,h2,h3⟩:=h;have HO:Hid (qQ s l.length a n wr=(qmt s l.length a n&&(s.wr || !wr))):=rfl;generalize qQ s l.length a n wr=R at HO⊢;refine zi ?_;go_wp2_with fail;refine(qv6 h1 hs zo ha hn).mono ?_;rintro e w2⟨rfl,k,rfl⟩;have q2:=h1.cell 2;generalize qmt s l.length a n=hh at HO⊢;generalize s.wr=sw at HO q2;cases hh;{have HR:Hid (R=false):=HO;clear HO;go_wp2;go_ret;exact⟨by rw[HR.out];rfl,_,rfl⟩};{cases sw;{cases wr;{have HR:Hid (R=true):=HO;clear HO;go_wp2;go_ret;exact⟨by rw[HR.out];rfl,_,rfl⟩};{have HR:Hid (R=false):=HO;clear HO;go_wp2;go_ret;exact⟨by rw[HR.out];rfl,_,rfl⟩}};{have HR:Hid (R=true):=HO;clear HO;go_wp2;go_ret;exact⟨by rw[HR.out];rfl,_,rfl⟩}}
def MemX(w:World)(g B:Nat)(A:Option Addr)(c:Nat)(PQ:List (Nat×Nat))(Ss:List Sg)(Bs:List (List UInt8)):Prop:=Blk w g 312 #[.slice A Ss.length c,.bool true]/\zx w A Ss.length c 1 xN PQ/\Bs.length=Ss.length/\B<=g/\B<=w.heap.size/\Ss.length<=4/\(∀s∈Ss,s.ok) /\
 (∀i,i<Ss.length->qqw w (z6 zM Ss i) (z6 (0,0) PQ i) (z6 [] Bs i)) /\
 (∀i,i<Ss.length->B<=(z6 (0,0) PQ i).2/\(z6 (0,0) PQ i).2≠g/\(∀b o,A=some ⟨b,o,none⟩->(z6 (0,0) PQ i).2≠b)/\∀j,j<Ss.length->(z6 (0,0) PQ i).2≠(z6 (0,0) PQ j).1/\(i≠j->(z6 (0,0) PQ i).2≠(z6 (0,0) PQ j).2))
def yq(w:World)(g B:Nat)(Ss:List Sg)(Bs:List (List UInt8)):Prop:=∃A c PQ,MemX w g B A c PQ Ss Bs
theorem z0e{Ss:List Sg}(h:∀s∈Ss,s.ok){i:Nat}(hi:i<Ss.length):(z6 zM Ss i).ok:=by have:z6 zM Ss i=Ss[i]:=q0s hi;rw[this];exact h _ (ZO hi)
theorem qqw.keep{s:Sg}{x:Nat×Nat}{l:List UInt8}(h:qqw w s x l)(hb:bW w w'):qqw w' s x l:=⟨h.1.keep hb,h.2.1.keep hb,h.2.2⟩
theorem MemX.keep{g:Nat}{PQ:List (Nat×Nat)}{Ss:List Sg}{Bs:List (List UInt8)}(h:MemX w g B A c PQ Ss Bs)(hb:bW w w'):MemX w' g B A c PQ Ss Bs:=by obtain⟨h1,h2,h3,h4,h5,h6,h7,h8,h9⟩:=h;exact⟨h1.keep hb,h2.keep hb,h3,h4,Zb h5 hb.size,h6,h7,λi hi=>(h8 i hi).keep hb,h9⟩
theorem yq.keep{g:Nat}{Ss:List Sg}{Bs:List (List UInt8)}(h:yq w g B Ss Bs)(hb:bW w w'):yq w' g B Ss Bs:=by obtain⟨A,c,PQ,h⟩:=h;exact⟨A,c,PQ,h.keep hb⟩
theorem qmu(w:World)(a b:Nat):(w.drewN a).drewN b=w.drewN (a+b):=by simp[World.drewN,Qh]
def yz(o:Option Nat):Int:=match o with
 |none=>-1
 |some k=>k
theorem qv8{Ss:List Sg}{Bs:List (List UInt8)}{PQ:List (Nat×Nat)}(hS:zx w A Ss.length c 1 xN PQ)(h4:Ss.length<=4)(hok:∀s∈Ss,s.ok)
 (hR:∀i,i<Ss.length->qqw w (z6 zM Ss i) (z6 (0,0) PQ i) (z6 [] Bs i)){x1 x2 x3:Nat}{a n:Int}{wr:Bool}(ha:i64 a)(hn:i64 n)
 (c1:w.cell? ⟨x1,0,none⟩=some (ii a))(c2:w.cell? ⟨x2,0,none⟩=some (ii n))(c3:w.cell? ⟨x3,0,none⟩=some (.bool wr)) :
  cP 405 #[.slice A Ss.length c,yA x1 x2 x3] w λe w'=>e=.returned (ii (yz (fdF Ss Bs a n wr)))/\∃k,w'=w.drewN k:=by have HS:Hid (∀k,k<Ss.length->qQ (z6 zM Ss k) (qZ Bs k) a n wr=true->(∀j,j<k->qQ (z6 zM Ss j) (qZ Bs j) a n wr=false)->fdF Ss Bs a n wr=some k):=λk h1 h2 h3=>qqx h1 h2 h3;have HN:Hid ((∀j,j<Ss.length->qQ (z6 zM Ss j) (qZ Bs j) a n wr=false)->fdF Ss Bs a n wr=none):=qqy;generalize fdF Ss Bs a n wr=R at HS HN⊢;unfold yA;refine zi ?_;go_wp2_with fail;obtain⟨wo,rfl⟩:=aU w;go_loopw[8] (λi wr'=>∃k m:Nat,k<=Ss.length/\i=.int .i64 (k:Int)/\Hid (∀j,j<k->qQ (z6 zM Ss j) (qZ Bs j) a n wr=false)/\wr'=wo.drewN m) (λi _=>Ss.length-(intOf i).toNat);(case atStart=>exact⟨0,0,zo,rfl,(λj hj=>by omega),rfl⟩);case round=>obtain⟨k,m,hk,rfl,HJ,rfl⟩:=hrel;by_cases h0:k<Ss.length;{have hlt':(k:Int)<(Ss.length:Int):=zo;have h8:=zx.fr (S:=λ_=>False) hS ((Fr.refl (λ_=>False) wo).drewN m) (λ_ _ _ _ h=>h);obtain⟨b,o,rfl,hb,hc⟩:=h8.at_ (0,0) h0;have e0:(wo.drewN m).cell? ⟨b,o+k,none⟩=some (.pointer (some ⟨(z6 (0,0) PQ k).1,0,none⟩)):=by{have:=hc 0 _ rfl;simpa using this};have h5:=(hR k h0).keep (((Fr.refl (λ_=>False) wo).drewN m).below (λ_ _ h=>h) nL);have h7:=z0e hok h0;generalize hx:z6 (0,0) PQ k=x at e0 h5;clear hx hc;go_wp2_with fail;refine(qv7 h5 h7 ha hn c1 c2 c3).mono ?_;rintro e w2⟨rfl,m2,rfl⟩;have e3:(wo.drewN m).drewN m2=wo.drewN (m+m2):=qmu wo m m2;rw[e3];cases hof:qQ (z6 zM Ss k) (z6 [] Bs k).length a n wr with|true=>{have HR:=zhd (HS.out k h0 hof HJ.out);clear HS HN hof;go_wp2;go_ret;exact⟨by rw[HR.out];rfl,_,rfl⟩}|false=>{have h6:Hid (∀j,j<k+1->qQ (z6 zM Ss j) (qZ Bs j) a n wr=false):=λj hj=>by{by_cases h:j=k;{subst h;exact hof};{exact HJ.out j zo}};clear HS HN hof HJ;go_wp2;exact⟨⟨k+1,m+m2,zo,by go_num,h6,rfl⟩,by simp[intOf];omega⟩}};{obtain rfl:k=Ss.length:=zo;have HR:=zhd (HN.out HJ.out);clear HS HN HJ h0 hk;go_wp2;go_ret;exact⟨by rw[HR.out];rfl,_,rfl⟩}
def xo(PQ:List (Nat×Nat))(o:Option Nat):Option Addr:=match o with
 |none=>none
 |some k=>some ⟨(z6 (0,0) PQ k).1,0,none⟩
theorem qqz{g:Nat}{PQ:List (Nat×Nat)}{Ss:List Sg}{Bs:List (List UInt8)}(h:MemX w g B A c PQ Ss Bs){x1 x2 x3:Nat}{a n:Int}{wr:Bool}(ha:i64 a)(hn:i64 n)
 (c1:w.cell? ⟨x1,0,none⟩=some (ii a))(c2:w.cell? ⟨x2,0,none⟩=some (ii n))(c3:w.cell? ⟨x3,0,none⟩=some (.bool wr)) :
  cP 396 #[pp g,yA x1 x2 x3] w λe w'=>e=.returned (.pointer (xo PQ (fdF Ss Bs a n wr)))/\∃k,w'=w.drewN k:=by obtain⟨h1,h2,h3,h4,h5,h6,h7,h8,h9⟩:=h;have g0:=h1.cell 0;have g1:=h1.cell 1;have h0:∀k,fdF Ss Bs a n wr=some k->k<Ss.length:=λk h=>(qtu h).1;obtain⟨R,hR⟩:=aU (fdF Ss Bs a n wr);rw[<- hR]at h0⊢;have HR:=zhd hR;clear hR;obtain⟨P,hP⟩:=aU (xo PQ R);rw[<- hP];have HP:=zhd hP;clear hP;refine zi ?_;go_wp2_with fail;refine(qv8 (Bs:=Bs) h2 h6 h7 h8 ha hn c1 c2 c3).mono ?_;rintro e w2⟨rfl,m,rfl⟩;rw[<- HR.out];clear HR;cases R with|none=>{have hI:yz none = -1:=rfl;rw[hI];go_wp2;go_ret;exact⟨by rw[HP.out];rfl,_,rfl⟩}|some k=>{have hk:=h0 k rfl;have hI:yz (some k)=(k:Int):=rfl;rw[hI];have he:=zx.fr (S:=λ_=>False) h2 ((Fr.refl (λ_=>False) w).drewN m) (λ_ _ _ _ h=>h);obtain⟨b,o,rfl,hb,hc⟩:=he.at_ (0,0) hk;have e0:(w.drewN m).cell? ⟨b,o+k,none⟩=some (.pointer (some ⟨(z6 (0,0) PQ k).1,0,none⟩)):=by{have:=hc 0 _ rfl;simpa using this};have hd:Hid (P=some ⟨(z6 (0,0) PQ k).1,0,none⟩):=HP.out;clear HP;generalize z6 (0,0) PQ k=x at e0 hd;clear hc hI h0;have hk':(k:Int)<(Ss.length:Int):=zo;go_wp2;go_ret;exact⟨by rw[hd.out];rfl,_,rfl⟩}
theorem q3l(w:World)(o:Obj):(w.alloc o).heap.size=w.heap.size+1:=by unfold World.alloc;exact Array.size_push _
theorem z26(w:World)(c1 c2 c3:Array Value)(t1 t2 t3:TypeId):Blk (((w.alloc (.cells c1 t1)).alloc (.cells c2 t2)).alloc (.cells c3 t3)) w.heap.size t1 c1/\Blk (((w.alloc (.cells c1 t1)).alloc (.cells c2 t2)).alloc (.cells c3 t3)) (w.heap.size+1) t2 c2/\Blk (((w.alloc (.cells c1 t1)).alloc (.cells c2 t2)).alloc (.cells c3 t3)) (w.heap.size+2) t3 c3/\bW w (((w.alloc (.cells c1 t1)).alloc (.cells c2 t2)).alloc (.cells c3 t3))/\(((w.alloc (.cells c1 t1)).alloc (.cells c2 t2)).alloc (.cells c3 t3)).heap.size=w.heap.size+3:=by have b1:=Blk.new w t1 c1;have s1:=q3l w (.cells c1 t1);have h1:=zA w (.cells c1 t1);generalize w.alloc (.cells c1 t1)=w1 at b1 s1 h1⊢;have b2:=Blk.new w1 t2 c2;have s2:=q3l w1 (.cells c2 t2);have h2:=zA w1 (.cells c2 t2);generalize w1.alloc (.cells c2 t2)=w2 at b2 s2 h2⊢;have b3:=Blk.new w2 t3 c3;have s3:=q3l w2 (.cells c3 t3);have h0:=zA w2 (.cells c3 t3);generalize w2.alloc (.cells c3 t3)=w3 at b3 s3 h0⊢;have e1:w1.heap.size=w.heap.size+1:=s1;have e2:w2.heap.size=w.heap.size+2:=zo;rw[e1]at b2;rw[e2]at b3;exact⟨(b1.keep h2).keep h0,b2.keep h0,b3,(h1.trans (h2.mono h1.size)).trans (h0.mono zo),zo⟩
theorem of_any{g:Nat}{PQ:List (Nat×Nat)}{Ss:List Sg}{Bs:List (List UInt8)}(h:MemX w g B A c PQ Ss Bs){a n:Int}{wr:Bool}(ha:i64 a)(hn:i64 n) :
  cR 381 #[pp g,ii a,ii n,.bool wr] w (.pointer (xo PQ (fdF Ss Bs a n wr))):=by obtain⟨b1,b2,b3,kb,ks⟩:=z26 w #[ii a] #[ii n] #[.bool wr] 3 3 4;refine zi ?_;go_upto_region 1 with fail;generalize((w.alloc (.cells #[ii a] 3)).alloc (.cells #[ii n] 3)).alloc (.cells #[.bool wr] 4)=w3 at b1 b2 b3 kb ks⊢;go_wp2_with fail;refine(qqz (h.keep kb) (x1:=w.heap.size) (x2:=w.heap.size+1) (x3:=w.heap.size+2) ha hn (b1.cell 0) (b2.cell 0) (b3.cell 0)).mono ?_;rintro e w4⟨rfl,m,rfl⟩;go_wp2;go_ret;exact⟨rfl,((fO kb (λ_=>False)).drewN m).below (λ_ _ h=>h) nL⟩
end Me
end Go.Proofs.YtncfcbohiodnnaaGreat
