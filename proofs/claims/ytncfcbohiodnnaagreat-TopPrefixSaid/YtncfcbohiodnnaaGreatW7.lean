/- Parts of this seat's claims. -/
import Derived.Test.YtncfcbohiodnnaaGreatW6
import Derived.WalkMore
set_option maxRecDepth 100000
set_option maxHeartbeats 6400000
namespace Go.Proofs.YtncfcbohiodnnaaGreat
open Go.RowKit
variable{w w' W wa wo W':World} {c n pt r B j b m mb q base cap id B0:Nat} {A:Option Addr} {a code what:Int} {cs:Array Value}
structure Stt(wa W:World) (g m:Nat) (bs:List (Nat×TypeId×Array Value)):Prop where
 ex:∃ T l,WrC W wa.heap.size g T l false/\m<=l.length/\l.length<=11 * m/\∀ q ∈ bs,Blk W q.1 q.2.1 q.2.2/\¬ T q.1
 b:bW wa W
def qla(wa:World) (g m:Nat) (bs:List (Nat×TypeId×Array Value)) (e:Ending) (W:World):Prop:=e = .returned (.tuple #[])/\Stt wa W g m bs
section
variable{wa W:World} {g m:Nat} {bs:List (Nat×TypeId×Array Value)}
theorem Stt.sub(S:Stt wa W g m bs) {cs:List (Nat×TypeId×Array Value)} (h:∀ q ∈ cs,q ∈ bs):Stt wa W g m cs :=
 let ⟨T,l,a,b,c,d⟩:=S.ex;⟨⟨T,l,a,b,c,λq hq=>d q (h q hq)⟩,S.b⟩
theorem Stt.eq(S:Stt wa W g m bs) {n:Nat} (h:m=n):Stt wa W g n bs:=h ▸ S
theorem Stt.keep(S:Stt wa W g m bs) (hb:bW W W'):Stt wa W' g m bs :=
 let ⟨T,l,a,b,c,d⟩:=S.ex;⟨⟨T,l,a.keep hb,b,c,λq hq=>⟨(d q hq).1.keep hb,(d q hq).2⟩⟩,S.b.trans (hb.mono S.b.size)⟩
theorem Stt.pop{q:Nat×TypeId×Array Value} (S:Stt wa W g m (q :: bs)):Stt wa W g m bs:=S.sub λ_ h => .tail _ h
theorem Stt.box(S:Stt wa W g m bs) (cs:Array Value) (t:TypeId):Stt wa (W.alloc (.cells cs t)) g m ((W.heap.size,t,cs) :: bs):=by
 obtain⟨T,l,a,b,c,d⟩:=S.ex;have hb:=zA W (.cells cs t);refine⟨⟨T,l,a.keep hb,b,c,λq hq=>?_⟩,S.b.alloc S.b.size _⟩;rcases List.mem_cons.1 hq with rfl | hq
 .exact⟨Blk.new W t cs,λh=>Nat.lt_irrefl _ (a.bnd _ h)⟩
 .exact⟨(d q hq).1.keep hb,(d q hq).2⟩
theorem Stt.drew(S:Stt wa W g m bs):Stt wa W.drew g m bs :=
 let ⟨T,l,a,b,c,d⟩:=S.ex;⟨⟨T,l,a.keep (Below.drew (Below.refl _ W)),b,c,λq hq=>⟨(d q hq).1.drew,(d q hq).2⟩⟩,S.b.drew⟩
theorem Stt.blk(S:Stt wa W g m bs) {p:Nat} {t:TypeId} {cs:Array Value} (h:(p,t,cs) ∈ bs):Blk W p t cs :=
 let ⟨_,_,_,_,_,d⟩:=S.ex;(d _ h).1
theorem Stt.lt(S:Stt wa W g m bs):g < W.heap.size:=let ⟨_,_,a,_⟩:=S.ex;a.lt
theorem Stt.lg(S:Stt wa W g m bs):W.cell? ⟨g,1,none⟩=some (.bool false)/\W.frozen? ⟨g,1,none⟩=false :=
 let ⟨_,_,a,_⟩:=S.ex;let ⟨_,k,_⟩:=a.blk;⟨k.cell 1,k.frozen 1⟩
theorem Stt.setL(S:Stt wa W g m bs):Stt wa (W.setCell ⟨g,1,none⟩ (.bool false)) g m bs:=by
 obtain⟨T,l,a,b,c,d⟩:=S.ex;have f:Fr T W (W.setCell ⟨g,1,none⟩ (.bool false)):=(Fr.refl T W).setCell (p:=⟨g,1,none⟩) (λ_=>a.tg) _;exact⟨⟨T,l,a.setLong false,b,c,λq hq=>⟨(d q hq).1.fr f (d q hq).2,(d q hq).2⟩⟩,S.b.trans (f.below (λk hk h=>by have:=a.lo k h;omega) S.b.size)⟩
theorem Stt.call(S:Stt wa W g m bs) {k:Nat} {f:FuncId} {args:Array Value} (h:∀ T l,WrC W wa.heap.size g T l false->l.length<=11 * m->(∀ q ∈ bs,Blk W q.1 q.2.1 q.2.2/\¬ T q.1)->∃ y:List UInt8,k<=y.length/\y.length<=11 * k/\cP f args W (Wro W wa.heap.size g T (l ++ y) false)):cP f args W (qla wa g (m + k) bs):=by
 obtain⟨T,l,a,b,c,d⟩:=S.ex;obtain⟨y,y1,y2,hc⟩:=h T l a c d;refine hc.mono ?_;rintro e W' ⟨he,T',h',hf,hg⟩;exact⟨he,⟨T',l ++ y,h',by rw[List.length_append];omega,by rw[List.length_append];omega,λq hq=>⟨(d q hq).1.fr hf (d q hq).2,λh=>(hg q.1 h).1.elim (d q hq).2 (λh=>by have:=(d q hq).1.lt;omega)⟩⟩,S.b.trans (hf.below (λk hk h=>by have:=a.lo k h;omega) S.b.size)⟩
theorem Stt.int(S:Stt wa W g m bs) (hm:m<=1000) {n:Int} (hn:i64 n):cP 84 #[pp g,ii n] W (qla wa g (m + 1) bs) :=
 S.call λ_ _ a c _=>⟨qi4 n,(q9a n).1,(q9a n).2,q86 a S.b.size zo hn⟩
theorem Stt.bool(S:Stt wa W g m bs) (hm:m<=1000) (x:Bool):cP 77 #[pp g,.bool x] W (qla wa g (m + 1) bs) :=
 S.call λ_ _ a c _=>⟨qtb x,by simp[qtb],by simp[qtb],qbm a S.b.size zo x⟩
theorem qtc(l:List Int):l.length<=(q87 l).length:=by
 induction l with
 | nil=>simp
 | cons x l ih =>
  have:=q9a x;have e:q87 (x :: l)=qi4 x ++ q87 l:=rfl;rw[e,List.length_append,List.length_cons];omega
theorem Stt.ints(S:Stt wa W g m bs) (hm:m<=1000) (ns:List Int) {p:Nat} {cs:Array Value} (h:(p,3,cs) ∈ bs) (hc:cs.toList=ns.map (.int .i64)) (hl:ns.length<=10) (hi:∀ n ∈ ns,i64 n):cP 39 #[pp g,.slice (some ⟨p,0,none⟩) ns.length ns.length] W (qla wa g (m + ns.length) bs) :=
 S.call λ_ _ a c d=>⟨q87 ns,qtc ns,qg7 ns,qpr a S.b.size zo (SlI.of_blk (d _ h).1 ns hc zo hi) zo (λb o _ e ht=>by cases e;exact(d _ h).2 ht)⟩
theorem Stt.bytes(S:Stt wa W g m bs) (hm:m<=1000):cP 44 #[pp g] W λe W'=>∃ A n c l,m<=n/\n<=11 * m/\e = .returned (.slice A n c)/\SlB W' A n c l/\bW W W':=by
 obtain⟨T,l,a,b,c,d⟩:=S.ex;refine(ql9 a zo).mono ?_;rintro _ W' ⟨v,rfl,h0,hb⟩;obtain⟨A,k,rfl,hv,-⟩:=SlB.of_own h0;exact⟨A,_,k,l,b,c,rfl,hv,hb⟩
end
def qj7(wa:World) (g:Nat) (bs0:List (Nat×TypeId×Array Value)) (M:Nat) (F:FuncId) (args:Array Value) (k:Nat):Prop:=∀ W m bs,(∀ q ∈ bs0,q ∈ bs)->m<=M->Stt wa W g m bs->cP F args W (qla wa g (m + k) bs)
abbrev Bs:=List (Nat×TypeId×Array Value)
structure Vf(t:TypeId) (fv:Nat->Value):Type where
abbrev Vf.t {t:TypeId} {fv:Nat->Value} (_:Vf t fv):TypeId:=t
abbrev Vf.v {t:TypeId} {fv:Nat->Value} (_:Vf t fv):Nat->Value:=fv
def L1Q{X:Type} (C F:FuncId) (t:TypeId) (fv:Nat->Value) (args:Nat->X->Array Value) (cl:X->Array Value):Prop :=
 ∀ {wa W:World} {g m:Nat} {bs bs0:Bs} {k po M:Nat} {x:X},qj7 wa g bs0 M F (args g x) k->(po,t,#[fv g]) ∈ bs->(∀ q ∈ bs0,q ∈ bs)->m<=M->Stt wa W g m bs->cP C #[pp g,.agg (cl x),pp po] W (qla wa g (m + k) bs)
def z1z{X:Type} {e:TypeId} (P C F:FuncId) (t:TypeId) (rs:Rd Tryz.prog e (Hd X)) (fv:Nat->Value) (args:Nat->X->Array Value):Prop :=
 ∀ {wa W:World} {g m:Nat} {bs bs0:Bs} {k po M:Nat} {h:Hd X},rs.ok wa h->m + 1 + k * h.l.length<=M->h.l.length<=10->(∀ x ∈ h.l,qj7 wa g bs0 M F (args g x) k)->(∀ q ∈ bs0,q ∈ bs)->(po,t,#[fv g]) ∈ bs->m<=900->Stt wa W g m bs->cP P #[pp g,.slice h.A h.l.length h.c,.func (.func C) #[] #[pp po]] W (qla wa g (m + 1 + k * h.l.length) bs)
structure LsQ{X:Type} {e:TypeId} (L F:FuncId) (rs:Rd Tryz.prog e (Hd X)) (fv:Nat->Value) (args:Nat->X->Array Value):Prop where
 h:∀ {wa W:World} {g m:Nat} {bs bs0:Bs} {k M:Nat} {h:Hd X},rs.ok wa h->m + 1 + k * h.l.length<=M->h.l.length<=10->(∀ x ∈ h.l,qj7 wa g bs0 M F (args g x) k)->(∀ q ∈ bs0,q ∈ bs)->m<=900->Stt wa W g m bs->cP L #[pp g,.slice h.A h.l.length h.c,fv g] W (qla wa g (m + 1 + k * h.l.length) bs)
theorem LsQ.nil{X:Type} {e:TypeId} {L F:FuncId} {rs:Rd Tryz.prog e (Hd X)} {fv:Nat->Value} {args:Nat->X->Array Value} (H:LsQ L F rs fv args) {wa W:World} {g m:Nat} {bs:Bs} {h:Hd X} (hn:h.l.length=0) (hh:rs.ok wa h) (hm:m<=900) (S:Stt wa W g m bs):cP L #[pp g,.slice h.A h.l.length h.c,fv g] W (qla wa g (m + 1) bs):=by
 have hl:h.l = []:=List.eq_nil_of_length_eq_zero hn;have:=H.h (k:=0) (M:=m + 1) (bs0:=[]) hh zo zo (λx hx=>by rw[hl]at hx;cases hx) (λq hq=>nomatch hq) hm S;rwa [Nat.zero_mul,Nat.add_zero]at this
theorem lsM{X:Type} {L C P F NL NC NP e t sz:Nat} {fL fC fP:Func} {cl:X->Array Value} {ls:X->List Value} {zc:Array Value} {z:X} {rs:Rd Tryz.prog e (Hd X)} {fv:Nat->Value} {args:Nat->X->Array Value} (_i:Tn t sz cl ls zc z) (ft:TypeId) (hL:Tryz.prog.funcs[L]?=some fL) (hNL:fL.ntmps=NL) (hC:Tryz.prog.funcs[C]?=some fC) (hNC:fC.ntmps=NC) (hP:Tryz.prog.funcs[P]?=some fP) (hNP:fP.ntmps=NP)
  (s1:Tn t sz cl ls zc z->Tryz.prog.funcs[C]?=some fC->fC.ntmps=NC->L1Q C F ft fv args cl:=by
   intro _i hF hN wa W g m bs bs0 k po M x h1 hpo hbs hm S;have S1:=S.box (_i.cl x) _i.t;dsimp only [Tn.cl,Tn.t]at S1 hpo h1 ⊢;go_enter hF,hN;clear hF hN;go_upto_region 1 with fail;generalize W.alloc (.cells (_i.cl x) _i.t)=W1 at S1 ⊢;generalize W.heap.size=bx at S1 ⊢;obtain⟨ko,lo⟩:=(S1.blk (.tail _ hpo)).cl;obtain⟨kx,lx⟩:=(S1.blk (.head _)).cl;have hC:=h1 _ _ _ (λq hq => .tail _ (hbs q hq)) hm S1;go_wp2_with ((with_reducible refine hC.mono ?_);rintro _ W2 ⟨rfl,S⟩);go_end0;exact⟨rfl,S.pop⟩)
  (s2:L1Q C F ft fv args cl->Tn t sz cl ls zc z->Tryz.prog.funcs[P]?=some fP->fP.ntmps=NP->z1z P C F ft rs fv args:=by
   intro h2 _i hF hN wa W g m bs bs0 k po M h hh hk hn hone hbs hpo hm S;have lg:=S.lt;have hI:=S.int zo (n:=(h.l.length:Int)) (by unfold i64;omega);go_enter hF,hN;clear hF hN;go_wp2_with (go_at_call 84;refine hI.mono ?_;rintro _ w2 ⟨rfl,S2⟩);go_loopw [16] (λ_i wr=>∃ j:Nat,_i = .int .i64 j/\j<=h.l.length/\Stt wa wr g (m + 1 + k * j) bs) (λ_i _=>h.l.length - (intOf _i).toNat)
   case atStart=>exact⟨0,rfl,Nat.zero_le _,S2⟩
   case round =>
    clear S2;obtain⟨j,rfl,hj,S3⟩:=hrel;by_cases h3:j < h.l.length
    .have h5:k * (j + 1)<=k * h.l.length:=Nat.mul_le_mul_left k h3;have h4:m + 1 + k * j<=M:=by rw[Nat.mul_succ]at h5;omega
     have lg3:=S3.lt;obtain⟨eb,eo,hA,heb,h0⟩:=(Rd.keep _ hh S3.b).1.at_ _i.z h3;have h1:=hone _ (q0h (d:=_i.z) h3);generalize atD _i.z h.l j=x at *;replace h0:∀ n u,_->wr.cell? ⟨eb,eo + j * _i.sz + n,none⟩=some u:=h0;dsimp only [Tn.sz]at h0;have c0:=h0 0 _ rfl;have c1:=h0 1 _ rfl;(try have c2:=h0 2 _ rfl);(try have c3:=h0 3 _ rfl);(try have c4:=h0 4 _ rfl;have c5:=h0 5 _ rfl;have c6:=h0 6 _ rfl;have c7:=h0 7 _ rfl;have c8:=h0 8 _ rfl;have c9:=h0 9 _ rfl;have h6:=h0 10 _ rfl);(try simp only[Hd.v]at c0 c1 c2 c3 c5 c6 h6);(try simp only[Hd.v]at c1);rw[Nat.add_zero]at c0
     have S4:=S3.box (_i.cl x) _i.t;have h2:=@h2 wa;dsimp only [Tn.cl,Tn.t]at S4 h2;rw[hA];clear h0 hA hI hone;go_upto_region 5 with fail;generalize wr.alloc (.cells (_i.cl x) _i.t)=w3 at S4 ⊢;generalize wr.heap.size=bx at S4 ⊢;obtain⟨kx,lx⟩:=(S4.blk (.head _)).cl;have hL:=h2 h1 (.tail _ hpo) (λq hq => .tail _ (hbs q hq)) h4 S4;clear h5 h4 h2;go_wp2_with ((with_reducible refine hL.mono ?_);rintro _ w4 ⟨rfl,S5⟩);exact⟨⟨j + 1,by go_num,h3,by rw[Nat.mul_add_one,<- Nat.add_assoc];exact S5.pop⟩,by simp[intOf];omega⟩
    .obtain rfl:j=h.l.length:=zo;clear h2;go_wp2_with fail;go_end0;exact⟨rfl,S3⟩)
  (s3:z1z P C F ft rs fv args->Vf ft fv->Tryz.prog.funcs[L]?=some fL->fL.ntmps=NL->LsQ L F rs fv args:=by
   intro hput _i hF hN;refine⟨?_⟩;intro wa W g m bs bs0 k M h hh hk hn hone hbs hm S;have S1:=S.box #[_i.v g] _i.t;have t1:decide (64 < (h.l.length:Int))=false:=by simp;omega
   dsimp only [Vf.v,Vf.t]at S1 ⊢;go_enter hF,hN;clear hF hN;go_upto_region 1 with fail;generalize W.alloc (.cells #[_i.v g] _i.t)=W1 at S1 ⊢;generalize W.heap.size=po at S1 ⊢;have c1:=S1.lg.1;have f1:=S1.lg.2;have lg:=S1.lt;have hP:=hput (po:=po) hh hk hn hone (λq hq => .tail _ (hbs q hq)) (.head _) hm S1.setL;clear S1 S hh hk hone hput;go_wp2_with ((with_reducible refine hP.mono ?_);rintro _ W3 ⟨rfl,S⟩);go_end0;exact⟨rfl,S.pop⟩):LsQ L F rs fv args:=s3 (s2 (s1 ⟨⟩ hC hNC) ⟨⟩ hP hNP) ⟨⟩ hL hNL
theorem z0w{p:Nat} : LsQ 75 76 q8x (λ_ => .func (.func 76) #[] #[pp p]) (λ_ x=>#[.agg (Rg.lw x),pp p]) :=
 lsM (⟨⟩:Tn 125 3 (λx=>(Rg.lw x)) (λ_=>[]) #[] Rg0) 194 Tryz.func75 Tryz.ntmps75 Tryz.func139 Tryz.ntmps139 Tryz.func138 Tryz.ntmps138
theorem z0x{p:Nat} : LsQ 78 79 q8y (λ_ => .func (.func 79) #[] #[pp p]) (λ_ x=>#[.agg (Pc.lw x),pp p]) :=
 lsM (⟨⟩:Tn 89 3 (λx=>(Pc.lw x)) (λ_=>[]) #[] Pc0) 196 Tryz.func78 Tryz.ntmps78 Tryz.func142 Tryz.ntmps142 Tryz.func141 Tryz.ntmps141
theorem z0y{p:Nat} : LsQ 80 81 qb6 (λ_ => .func (.func 81) #[] #[pp p]) (λ_ x=>#[.agg (Po.lw x),pp p]) :=
 lsM (⟨⟩:Tn 199 4 (λx=>(Po.lw x)) (λ_=>[]) #[] Po0) 200 Tryz.func80 Tryz.ntmps80 Tryz.func144 Tryz.ntmps144 Tryz.func143 Tryz.ntmps143
theorem z0z{p:Nat} : LsQ 82 83 qb7 (λ_ => .func (.func 83) #[] #[pp p]) (λ_ x=>#[.agg (Sm.lw x),pp p]) :=
 lsM (⟨⟩:Tn 203 2 (λx=>(Sm.lw x)) (λ_=>[]) #[] Sm0) 204 Tryz.func82 Tryz.ntmps82 Tryz.func146 Tryz.ntmps146 Tryz.func145 Tryz.ntmps145
theorem z10{p:Nat} : LsQ 85 86 qb8 (λ_ => .func (.func 86) #[] #[pp p]) (λ_ x=>#[.agg (Pl.lw x),pp p]) :=
 lsM (⟨⟩:Tn 207 2 (λx=>(Pl.lw x)) (λ_=>[]) #[] Pl0) 208 Tryz.func85 Tryz.ntmps85 Tryz.func149 Tryz.ntmps149 Tryz.func148 Tryz.ntmps148
theorem z11{p:Nat} : LsQ 37 38 q54 (λ_ => .func (.func 38) #[] #[pp p]) (λ_ x=>#[.agg #[ii x.fr.part,ii x.fr.port,ii x.to.part,ii x.to.port],pp p]) :=
 lsM (⟨⟩:Tn 141 4 (λx=>#[ii x.fr.part,ii x.fr.port,ii x.to.part,ii x.to.port]) (λ_=>[]) #[] Ch0) 143 Tryz.func37 Tryz.ntmps37 Tryz.func88 Tryz.ntmps88 Tryz.func87 Tryz.ntmps87
theorem z12{p:Nat} : LsQ 91 92 qe7 (λ_ => .func (.func 92) #[] #[pp p]) (λ_ x=>#[.agg (Wn.lw x),pp p]) :=
 lsM (⟨⟩:Tn 96 3 (λx=>(Wn.lw x)) (λ_=>[]) #[] Wn0) 214 Tryz.func91 Tryz.ntmps91 Tryz.func151 Tryz.ntmps151 Tryz.func150 Tryz.ntmps150
theorem z13{p:Nat} : LsQ 93 94 qb9 (λ_ => .func (.func 94) #[] #[pp p]) (λ_ x=>#[.agg (Lv.lw x),pp p]) :=
 lsM (⟨⟩:Tn 127 2 (λx=>(Lv.lw x)) (λ_=>[]) #[] Lv0) 216 Tryz.func93 Tryz.ntmps93 Tryz.func153 Tryz.ntmps153 Tryz.func152 Tryz.ntmps152
theorem z14{p:Nat} : LsQ 95 96 qe8 (λ_ => .func (.func 96) #[] #[pp p]) (λ_ x=>#[.agg (Np.lw x),pp p]) :=
 lsM (⟨⟩:Tn 219 3 (λx=>(Np.lw x)) (λ_=>[]) #[] Np0) 220 Tryz.func95 Tryz.ntmps95 Tryz.func155 Tryz.ntmps155 Tryz.func154 Tryz.ntmps154
theorem z15:LsQ 40 41 qe9 (λg => .func (.func 41) #[pp g] #[]) (λg x=>#[pp g,.agg (Md.lw x)]) :=
 lsM (⟨⟩:Tn 94 2 (λx=>(Md.lw x)) (λ_=>[]) #[] Md0) 145 Tryz.func40 Tryz.ntmps40 Tryz.func90 Tryz.ntmps90 Tryz.func89 Tryz.ntmps89
theorem z16:LsQ 35 36 q53 (λg => .func (.func 36) #[pp g] #[]) (λg x=>#[pp g,.agg (Pt.lw x)]) :=
 lsM (⟨⟩:Tn 51 11 (λx=>(Pt.lw x)) (λ_=>[]) #[] Pt0) 136 Tryz.func35 Tryz.ntmps35 Tryz.func74 Tryz.ntmps74 Tryz.func73 Tryz.ntmps73
theorem z17{g:Nat} {bs:List (Nat×TypeId×Array Value)} {bs0:List (Nat×TypeId×Array Value)} {k po M:Nat} {x:Int} (h1:qj7 wa g bs0 M 84 #[pp g,ii x] k) (hpo:(po,178,#[.func (.func 84) #[pp g] #[]]) ∈ bs) (hbs:∀ q ∈ bs0,q ∈ bs) (hm:m<=M) (S:Stt wa W g m bs):cP 157 #[pp g,ii x,pp po] W (qla wa g (m + k) bs):=by
 obtain⟨ko,lo⟩:=(S.blk hpo).cl;refine inC ?_;go_in;go_wp2_with (go_at_call 84;refine(h1 _ _ _ hbs hm S).mono ?_;rintro _ W2 ⟨rfl,S⟩);go_end0;exact⟨rfl,S⟩
theorem qzm{g:Nat} {bs:List (Nat×TypeId×Array Value)} {po:Nat} {bs0:List (Nat×TypeId×Array Value)} {k M:Nat} {h:Hd Int} (hh:q1f.ok wa h) (hk:m + 1 + k * h.l.length<=M) (hn:h.l.length<=10) (hone:∀ x ∈ h.l,qj7 wa g bs0 M 84 #[pp g,ii x] k) (hbs:∀ q ∈ bs0,q ∈ bs) (hpo:(po,178,#[.func (.func 84) #[pp g] #[]]) ∈ bs) (hm:m<=900) (S:Stt wa W g m bs):cP 156 #[pp g,.slice h.A h.l.length h.c,.func (.func 157) #[] #[pp po]] W (qla wa g (m + 1 + k * h.l.length) bs):=by
 have lg:=S.lt;have hI:=S.int zo (n:=(h.l.length:Int)) (by unfold i64;omega);refine inC ?_;go_in;go_wp2_with (go_at_call 84;refine hI.mono ?_;rintro _ w2 ⟨rfl,S2⟩);go_loopw [16] (λi wr=>∃ j:Nat,i = .int .i64 j/\j<=h.l.length/\Stt wa wr g (m + 1 + k * j) bs) (λi _=>h.l.length - (intOf i).toNat)
 case atStart=>exact⟨0,rfl,Nat.zero_le _,S2⟩
 case round =>
  clear S2;obtain⟨j,rfl,hj,S3⟩:=hrel;by_cases h0:j < h.l.length
  .have h2:k * (j + 1)<=k * h.l.length:=Nat.mul_le_mul_left k h0;have h3:m + 1 + k * j<=M:=by rw[Nat.mul_succ]at h2;omega
   have lg3:=S3.lt;obtain⟨eb,eo,hA,heb,hec⟩:=SlI.at_ (SlI.keep hh S3.b) h0;have h1:=hone _ (q0h (d:=0) h0);rw[show atD 0 h.l j=at0 h.l j from rfl]at h1
   generalize at0 h.l j=x at *;have hL:=z17 h1 hpo hbs h3 S3;have HQ:=zhd (And.intro h2 hA);rw[hA];clear h2 h3 hA hI hone;go_wp2_with (go_at_call 157;refine hL.mono ?_;rintro _ w4 ⟨rfl,S4⟩);exact⟨⟨j + 1,by go_num,h0,by rw[Nat.mul_add_one,<- Nat.add_assoc];exact S4⟩,by simp[intOf];omega⟩
  .obtain rfl:j=h.l.length:=zo;go_wp2_with fail;go_end0;exact⟨rfl,S3⟩
theorem z18{g:Nat} {bs:List (Nat×TypeId×Array Value)} {bs0:List (Nat×TypeId×Array Value)} {k M:Nat} {h:Hd Int} (hh:q1f.ok wa h) (hk:m + 1 + k * h.l.length<=M) (hn:h.l.length<=10) (hone:∀ x ∈ h.l,qj7 wa g bs0 M 84 #[pp g,ii x] k) (hbs:∀ q ∈ bs0,q ∈ bs) (hm:m<=900) (S:Stt wa W g m bs):cP 97 #[pp g,.slice h.A h.l.length h.c,.func (.func 84) #[pp g] #[]] W (qla wa g (m + 1 + k * h.l.length) bs):=by
 have S1:=S.box #[.func (.func 84) #[pp g] #[]] 178;have t1:decide (64 < (h.l.length:Int))=false:=by simp;omega
 refine inC ?_;go_in;go_upto_region 1 with fail;generalize W.alloc (.cells #[.func (.func 84) #[pp g] #[]] 178)=W1 at S1 ⊢;generalize W.heap.size=po at S1 ⊢;have c1:=S1.lg.1;have f1:=S1.lg.2;have lg:=S1.lt;have hP:=qzm (po:=po) hh hk hn hone (λq hq => .tail _ (hbs q hq)) (.head _) hm S1.setL;clear S1 S hh hk hone;go_wp2_with (go_at_call 156;refine hP.mono ?_;rintro _ W3 ⟨rfl,S⟩);go_end0;exact⟨rfl,S.pop⟩
section
namespace Ca
open Go.RowKit Go.Shelf
attribute [local go_sem] Oper.semAt_some
theorem ql5{x:Cf} {done:List Pg} {p q:Pg} {fs:List Fm} {f:Fm} {all:List Pg} (h:all=done ++ pagesS x p (f :: fs)) (hq:stepS x p f=some q):all=(done ++ [q]) ++ pagesS x q fs:=by
 rw[h,pagesS,hq];simp
theorem ql6{x:Cf} {done:List Pg} {p:Pg} {fs:List Fm} {f:Fm} {all:List Pg} (h:all=done ++ pagesS x p (f :: fs)) (hq:stepS x p f=none):all=done:=by
 rw[h,pagesS,hq];simp
theorem drop_atD{α : Type} (d : α) (l:List α) {k:Nat} (h:k < l.length):l.drop k=atD d l k :: l.drop (k + 1):=by
 rw[List.drop_eq_getElem_cons h,q0s h]
def qxg(all:List Pg) (k:Nat):Array Value:=#[(atD Pg0 all k).v]
theorem qwr{done rest:List Pg} {q:Pg} : qxg (done ++ q :: rest) done.length = #[.agg #[ii q.at_,ii q.end_,ii q.mode,ii q.level]]:=by
 unfold qxg;rw[show atD Pg0 (done ++ q :: rest) done.length=q by simp[atD]];rfl
theorem ql7{x:Cf} {L:Hd Fm} (hx:x.ok wa) (hL:q91.ok wa L) (hwa:bW wa w) {K:Nat->Prop} {bl bc:Nat} (kl:Blk w bl 35 #[.slice L.A L.l.length L.c]) (kc:Blk w bc 33 (Cf.lw x)) (hK1:∀ b,b < wa.heap.size->K b) (hKl:K bl) (hKc:K bc) (hK2:∀ b,K b->b < w.heap.size) :
  qx7 Tryz.prog 124 #[pp bl,pp bc] (qxg (pagesS x Pg0 L.l)) (pagesS x Pg0 L.l).length K w:=by
 intro l J Jx T W hW hJ hJx hT0 hTb hY h0;obtain⟨LA,Lc,Ll⟩:=L;simp only at kl hY ⊢;have hn:=hL.1.len;have Hr:=hx.2.2.2.2.1.len;have Hn:=hx.2.2.1.1.len;have H5:=(kl.fr hW (λh=>h hKl)).alloc (.cells #[ii 0,ii 0,ii 0,ii 0] 104);have ha:=zA W (.cells #[ii 0,ii 0,ii 0,ii 0] 104);have H6:=Blk.new W 104 #[ii 0,ii 0,ii 0,ii 0];have hz:(W.alloc (.cells #[ii 0,ii 0,ii 0,ii 0] 104)).heap.size<=W.heap.size + 1:=zp;have Hg:∀ b,T b->wa.heap.size<=b:=λb h=>by
  rcases Nat.lt_or_ge b wa.heap.size with h1 | h1
  .exact absurd (hK1 b h1) (hT0 b h)
  .exact h1
 have Hh:¬ T bc:=λh=>hT0 _ h hKc;have Hf:¬ K W.heap.size:=λh=>by have:=hK2 _ h;have:=hW.size;omega
 have hlc:bc < W.heap.size:=Nat.lt_of_lt_of_le kc.lt hW.size;have Hs:=kc.fr hW (λh=>h hKc);have c0:(W.alloc (.cells #[ii 0,ii 0,ii 0,ii 0] 104)).cell? ⟨bl,0,none⟩=some (.slice LA Ll.length Lc):=H5.cell 0;refine inC ?_;go_in;go_step3
 go_upto_region 1 with go_step3;generalize W.alloc (.cells #[ii 0,ii 0,ii 0,ii 0] 104)=W0 at H5 ha H6 c0 hz ⊢;have hz0:=ha.size;have hz9:=hz;clear hz;go_wp2_with fail;go_loopw [11] (λi wr=>∃ (k:Nat) (p:Pg) (h5:List Pg) (T':Nat->Prop),k<=Ll.length/\i = .int .i64 (k:Int)/\h5.length=k/\pagesS x Pg0 Ll=h5 ++ pagesS x p (Ll.drop k)/\PgOk x p/\Blk wr W.heap.size 104 #[.int .i64 p.at_,.int .i64 p.end_,.int .i64 p.mode,.int .i64 p.level]/\¬ T' W.heap.size /\
  Fr (λb=>T b\/b=W.heap.size) W0 wr/\Grw T T' W wr/\J k T' wr) (λi _=>Ll.length - (intOf i).toNat)
 case atStart=>exact⟨0,Pg0,[],T,Nat.zero_le _,rfl,rfl,rfl,qyi x,H6,(λh=>by have:=hTb _ h;omega),Fr.refl _ _,(λb hb=>⟨.inl hb,by have:=hTb b hb;omega⟩),hJ _ _ _ _ h0 (fO ha _)⟩
 case round =>
  clear c0;obtain⟨k,p,h5,T',hk,rfl,H3,h9,hp,kp,H4,hF,hG,hr⟩:=hrel;have H1:bW wa W:=hwa.trans (hW.below (λk hk h=>h (hK1 k hk)) hwa.size);have Hq:=H1.size;have Hb:=H1.trans (ha.mono Hq);have hg:bW wa wr:=Hb.trans (hF.below (λb hb h=>by
   rcases h with h | h
   .have:=Hg b h;omega
   .omega) zo)
  have hf:Fr T W wr:=(fO ha T).trans' hF (λb hb h=>h.resolve_right zo);have HA:=zhd h9;have HD:=zhd H3;clear h9 H3;by_cases hu:k < Ll.length
  .obtain⟨bb,o,rfl,hbb,hc⟩:=(q91.keep hL hg).1.at_ Fm0 hu;have hs:=(q91.keep hL hg).2 _ (q0h (d:=Fm0) hu);have HK:=zhd (drop_atD Fm0 Ll hu);simp only at hc hs;have x0:wr.cell? ⟨bb,o + k * 4,none⟩=some (ii (atD Fm0 Ll k).reading):=hc 0 _ rfl;have x1:wr.cell? ⟨bb,o + k * 4 + 1,none⟩=some (ii (atD Fm0 Ll k).mode):=hc 1 _ rfl;have x2:wr.cell? ⟨bb,o + k * 4 + 2,none⟩=some (ii (atD Fm0 Ll k).drift):=hc 2 _ rfl;have x3:wr.cell? ⟨bb,o + k * 4 + 3,none⟩=some (ii (atD Fm0 Ll k).choice):=hc 3 _ rfl;clear hc;generalize atD Fm0 Ll k=f at x0 x1 x2 x3 hs HK;have h7:=zA wr (.cells (Fm.lw f) 78);have kf:=Blk.new wr 78 (Fm.lw f);go_upto_region 4 with fail;generalize wr.alloc (.cells (Fm.lw f) 78)=w3 at h7 kf ⊢;have Hc:=hg.trans (h7.mono hg.size);have hh:=kp.keep h7;have h4:=(Hs.fr hf Hh).keep h7;have f0:w3.cell? ⟨wr.heap.size,0,none⟩=some (ii f.reading):=kf.cell 0;have f1:w3.cell? ⟨wr.heap.size,1,none⟩=some (ii f.mode):=kf.cell 1;have f2:w3.cell? ⟨wr.heap.size,2,none⟩=some (ii f.drift):=kf.cell 2;have f3:w3.cell? ⟨wr.heap.size,3,none⟩=some (ii f.choice):=kf.cell 3;have p0:w3.cell? ⟨W.heap.size,0,none⟩=some (ii p.at_):=hh.cell 0;have p1:w3.cell? ⟨W.heap.size,1,none⟩=some (ii p.end_):=hh.cell 1;have p2:w3.cell? ⟨W.heap.size,2,none⟩=some (ii p.mode):=hh.cell 2;have p3:w3.cell? ⟨W.heap.size,3,none⟩=some (ii p.level):=hh.cell 3;have c0:w3.cell? ⟨bc,0,none⟩=some (.slice x.parts.A x.parts.l.length x.parts.c):=h4.cell 0;have c1:w3.cell? ⟨bc,1,none⟩=some (.slice x.chans.A x.chans.l.length x.chans.c):=h4.cell 1;have c2:w3.cell? ⟨bc,2,none⟩=some (.slice x.modes.A x.modes.l.length x.modes.c):=h4.cell 2;have c3:w3.cell? ⟨bc,3,none⟩=some (.slice x.pw.levels.A x.pw.levels.l.length x.pw.levels.c):=h4.cell 3;have c4:w3.cell? ⟨bc,4,none⟩=some (.slice x.pw.naps.A x.pw.naps.l.length x.pw.naps.c):=h4.cell 4;have c5:w3.cell? ⟨bc,5,none⟩=some (ii x.pw.sw):=h4.cell 5;have c6:w3.cell? ⟨bc,6,none⟩=some (ii x.pw.idle):=h4.cell 6;have c7:w3.cell? ⟨bc,7,none⟩=some (ii x.pw.change):=h4.cell 7;have c8:w3.cell? ⟨bc,8,none⟩=some (ii x.pw.quant):=h4.cell 8;have c9:w3.cell? ⟨bc,9,none⟩=some (ii x.pw.slow):=h4.cell 9;have H7:w3.cell? ⟨bc,10,none⟩=some (ii x.pw.ppm):=h4.cell 10;have H8:w3.cell? ⟨bc,11,none⟩=some (.slice x.shed.down.A x.shed.down.l.length x.shed.down.c):=h4.cell 11;have H9:w3.cell? ⟨bc,12,none⟩=some (.slice x.shed.up.A x.shed.up.l.length x.shed.up.c):=h4.cell 12;clear x0 x1 x2 x3;go_wp2_with fail;refine(qpn (w:=w3) (q1k.keep hx Hc) hp (z0l.keep hs h7)).mono ?_;rintro e w4 ⟨rfl,Hj⟩;clear f0 f1 f2 f3 p0 p1 p2 p3 c0 c1 c2 c3 c4 c5 c6 c7 c8 c9 H7 H8 H9;have h6:=h7.trans (Hj.mono h7.size);have H0:Hid (pagesS x Pg0 Ll=h5 ++ pagesS x p (f :: Ll.drop (k + 1))):=by have:=HA.out;rw[HK.out]at this;exact this
   cases hS:stepS x p f with
   | none =>
    have hN:q85 x p f=(Pg0,false):=by unfold q85;rw[hS]
    rw[hN];have HS:=zhd hS;clear hN hS;simp only[Pg.v,Pg0];have h3:=h6.alloc h6.size (.cells #[ii 0,ii 0,ii 0,ii 0] 104);go_upto_region 5 with fail;generalize w4.alloc (.cells #[ii 0,ii 0,ii 0,ii 0] 104)=w5 at h3 ⊢;go_wp2_with fail;rw[Exit.noGoto_normal];refine bodyPost_end (results_none rfl _ _ _) rfl ⟨⟨_,rfl⟩,T',hf.trans (fO h3 T),λb hb=>⟨(hG b hb).1,Nat.lt_of_lt_of_le (hG b hb).2 h3.size⟩,.inl ?_⟩;rw[ql6 H0.out HS.out,HD.out];exact hJ _ _ _ _ hr (fO h3 _)
   | some q =>
    have hN:q85 x p f=(q,true):=by unfold q85;rw[hS]
    rw[hN];have Hp:=qrd hp Hr Hn hS;have HS:=zhd hS;have hm:=zhd (ql5 H0.out hS);clear hN hS;simp only[Pg.v];have h3:=h6.alloc h6.size (.cells #[ii q.at_,ii q.end_,ii q.mode,ii q.level] 104);have kq:=Blk.new w4 104 #[ii q.at_,ii q.end_,ii q.mode,ii q.level];have Hk:wr.heap.size<=w4.heap.size:=h6.size;go_upto_region 5 with fail;generalize w4.alloc (.cells #[ii q.at_,ii q.end_,ii q.mode,ii q.level] 104)=w5 at h3 kq ⊢;generalize w4.heap.size=g7 at kq Hk ⊢;have hlq:=kq.lt;have Hm:k < (pagesS x Pg0 Ll).length:=by rw[hm.out];simp[HD.out]
    have H2:=hY k T' w5 Hm (hJ _ _ _ _ hr (fO h3 _)) (λb hb=>Nat.lt_of_lt_of_le (hG b hb).2 h3.size);rw[show qxg (pagesS x Pg0 Ll) k = #[.agg #[ii q.at_,ii q.end_,ii q.mode,ii q.level]] by rw[hm.out,<- HD.out,List.append_assoc];exact qwr]at H2
    obtain⟨fn,tmps,assign,body,hy,hR⟩:=H2;have q0:w5.cell? ⟨g7,0,none⟩=some (ii q.at_):=kq.cell 0;have q1:w5.cell? ⟨g7,1,none⟩=some (ii q.end_):=kq.cell 1;have q2:w5.cell? ⟨g7,2,none⟩=some (ii q.mode):=kq.cell 2;have q3:w5.cell? ⟨g7,3,none⟩=some (ii q.level):=kq.cell 3;refine(wpIn_wide (n:=1)).1 ?_;gi_wp2
    refine hR.mono ?_;have hv:¬ T' g7:=λh=>by have:=(hG g7 h).2;omega
    have ht:=kp.keep (h3.mono nL);have hwrW:W.heap.size < wr.heap.size:=kp.lt;rintro e w6 ⟨T2,he,hq,(⟨rfl,He⟩ | ⟨rfl,hJx6⟩)⟩
    .have hj:=kq.fr he hv;have h8:=ht.fr he H4;clear q0 q1 q2 q3 hy;have q0:w6.cell? ⟨g7,0,none⟩=some (ii q.at_):=hj.cell 0;have q1:w6.cell? ⟨g7,1,none⟩=some (ii q.end_):=hj.cell 1;have q2:w6.cell? ⟨g7,2,none⟩=some (ii q.mode):=hj.cell 2;have q3:w6.cell? ⟨g7,3,none⟩=some (ii q.level):=hj.cell 3;have p0:w6.cell? ⟨W.heap.size,0,none⟩=some (ii p.at_):=h8.cell 0;have p1:w6.cell? ⟨W.heap.size,1,none⟩=some (ii p.end_):=h8.cell 1;have p2:w6.cell? ⟨W.heap.size,2,none⟩=some (ii p.mode):=h8.cell 2;have p3:w6.cell? ⟨W.heap.size,3,none⟩=some (ii p.level):=h8.cell 3;have pf:∀ i,w6.frozen? ⟨W.heap.size,i,none⟩=false:=h8.frozen;have hlp:=h8.lt;have hd:¬ T2 W.heap.size:=λh=>by
      rcases(hq _ h).1 with h | h
      .exact H4 h
      .have:=h3.size;omega
     gi_wp2
     go_wp2_with fail;have fs:=Fr.row (S:=λb=>¬ T2 b/\¬ K b) (g:=W.heap.size) [ii q.at_,ii q.end_,ii q.mode,ii q.level] 0 (Fr.refl _ w6) (λ_=>⟨hd,Hf⟩);have ks:Blk (setRow w6 W.heap.size 0 [ii q.at_,ii q.end_,ii q.mode,ii q.level]) W.heap.size 104 _:=Blk.row h8 rfl;have Ha:=Fr.row (S:=λb=>T b\/b=W.heap.size) (g:=W.heap.size) [ii q.at_,ii q.end_,ii q.mode,ii q.level] 0 ((hF.trans (fO (h3.mono nL) _)).trans' he (λb hb h=>by
      rcases(hG b h).1 with h | h
      .exact .inl h
      .exact .inr zo)) (λ_ => .inr rfl)
     refine⟨⟨k + 1,q,h5 ++ [q],T2,zo,by go_num,by rw[List.length_append,HD.out];rfl,hm.out,Hp,ks,hd,Ha,λb hb=>?_,hJ _ _ _ _ He fs⟩,by simp[intOf];omega⟩;obtain⟨h1,h2⟩:=hq b hb;refine⟨?_,by simpa using h2⟩;rcases h1 with h1 | h1
     .exact(hG b h1).1
     .exact .inr (by have:=h3.size;omega)
    .gi_wp2
     go_wp2_with fail;rw[Exit.noGoto_normal];refine bodyPost_end (results_none rfl _ _ _) rfl ⟨⟨_,rfl⟩,T2,(hf.trans (fO (h3.mono nL) T)).trans' he (λb hb h=>((hG b h).1).resolve_right zo),λb hb=>?_,.inr ⟨k + 1,zo,hJx6⟩⟩;obtain⟨h1,h2⟩:=hq b hb;refine⟨?_,h2⟩;rcases h1 with h1 | h1
     .exact(hG b h1).1
     .exact .inr (by have:=h3.size;omega)
  .obtain rfl:k=Ll.length:=zo;go_wp2_with fail;rw[Exit.noGoto_normal];refine bodyPost_end (results_none rfl _ _ _) rfl ⟨⟨_,rfl⟩,T',hf,hG,.inl ?_⟩;have:=HA.out;rw[List.drop_length,pagesS,List.append_nil]at this
   rw[this,HD.out];exact hr
end Ca
end
section
namespace Ca
open Go.RowKit Go.Shelf
attribute [local go_sem] Oper.semAt_some
theorem qpo{x:Cf} {L:Hd Fm} (hx:x.ok wa) (hL:q91.ok wa L) (hwa:bW wa w) (R:Nat->Prop) (hR:∀ b,R b->b < w.heap.size) :
  cP 61 #[x.v,L.v] w λe w'=>∃ bl bc,e = .returned (.func (.func 124) #[] #[pp bl,pp bc]) /\
   qx7 Tryz.prog 124 #[pp bl,pp bc] (qxg (pagesS x Pg0 L.l)) (pagesS x Pg0 L.l).length (λb=>b < wa.heap.size\/b=bl\/b=bc\/R b) w'/\bW w w'/\w.heap.size<=bl/\w.heap.size<=bc/\bl < w'.heap.size/\bc < w'.heap.size:=by
 simp only[Cf.v,Hd.v];refine inC ?_;go_in;go_wp2_with fail;go_ret;have hb:=(zA w (.cells (Cf.lw x) 33)).alloc zp (.cells #[L.hq] 35);have kc:=(Blk.new w 33 (Cf.lw x)).alloc (.cells #[L.hq] 35);have kl:=Blk.new (w.alloc (.cells (Cf.lw x) 33)) 35 #[L.hq];rw[World.size_alloc]at kl
 exact⟨_,_,rfl,ql7 hx hL (hwa.trans (hb.mono hwa.size)) kl kc (λb h => .inl h) (.inr (.inl rfl)) (.inr (.inr (.inl rfl))) (λb h=>by
  have h1:=hwa.size;have h2:=kl.lt;have h3:=kc.lt;rcases h with h | rfl | rfl | h
  .simp;omega
  .exact h2
  .exact h3
  .have:=hR b h;simp;omega),hb,zo,nL,kl.lt,kc.lt⟩
theorem qt9:(Tryz.prog.info? 104).map (λi=>(i.zero,i.size,i.bytes))=some (some (.agg #[ii 0,ii 0,ii 0,ii 0]),4,32):=zk
theorem qg5(x:Cf):∀ (p:Pg) (l:List Fm),(pagesS x p l).length<=l.length
 | _,[]=>nL
 | p,f :: fs=>by
  unfold pagesS;split
  .simp
  .rename_i q _;have:=qg5 x q fs;simp;omega
theorem Pages_any{x:Cf} {L:Hd Fm} (hx:x.ok w) (hL:q91.ok w L) (h100:L.l.length<=1000) :
  cP 29 #[x.v,L.v] w λe w'=>∃ v,e = .returned v/\w'.ownsRow w.heap.size 104 4 v (pagesS x Pg0 L.l).length ((pagesS x Pg0 L.l).flatMap Pg.f)/\bW w w':=by
 obtain⟨i0,hg,hn,hp,hq⟩:=info_parts qt9;have hu:Tryz.prog.underlying 101=some (.slice 104):=zk;have hN:=qg5 x Pg0 L.l;simp only[Cf.v,Hd.v];refine(callsIn_wide (n:=1)).1 (callsIn_of_wp_marks Tryz.func29 rfl trivial ?_ rfl);simp only[Tryz.ntmps29,List.size_toArray,List.length_cons,List.length_nil,Nat.reduceAdd,Nat.reduceSub,Array.replicate_succ,Array.replicate_zero,List.push_toArray,List.append_toArray,List.nil_append,List.cons_append];have hb:=(zA w (.cells (Cf.lw x) 33)).alloc zp (.cells #[.slice none 0 0] 101);have ko:=Blk.new (w.alloc (.cells (Cf.lw x) 33)) 101 #[.slice none 0 0];gi_wp2
 generalize (w.alloc (.cells (Cf.lw x) 33)).alloc (.cells #[.slice none 0 0] 101)=w1 at hb ko ⊢;rw[World.size_alloc]at ko
 have hl1:=ko.lt;refine⟨trivial,callsIn_wide.2 ((qpo (w:=w1) hx hL hb (λ_=>False) (λb h=>h.elim)).mono ?_)⟩;rintro e w2 ⟨bl,bc,rfl,ha,h8,hbl,hbc,hbl2,hbc2⟩;have hd:=ko.keep h8;have hc:=hb.trans (h8.mono hb.size);have hs2:=h8.size;have hs9:=hc.size;clear hb ko;clear h8;gi_wp2
 refine qd2 (gf:=124) rfl (enters_of Tryz.func124 zk rfl) ha (λb h=>by rcases h with h | h | h | h <;> first | omega | exact h.elim) (Fr.refl _ _) (λ_=>rfl)
  (λk T W=>∃ v,Blk W (w.heap.size + 1) 101 #[v]/\W.ownsRow (w.heap.size + 2) 104 4 v k (((pagesS x Pg0 L.l).take k).flatMap Pg.f)/\T (w.heap.size + 1)/\∀ b,v.ownBlock=some b->T b)
  (λ_ _ _ _=>False) ?_ (λ_ _ _ _ _ h _=>h) (λb=>b=w.heap.size + 1) (λb h h'=>by rcases h' with h' | h' | h' | h' <;> first | omega | exact h'.elim) (λb h=>by have:=hd.lt;omega)
  ⟨.slice none 0 0,hd,World.ownsRow_nil _ _ _ _,rfl,λb h=>by cases h⟩
  (λk a' T W=>∃ g v,a'={ tmps:=#[.agg (Cf.lw x),L.hq,pp w.heap.size,undef,.slice none 0 0,pp (w.heap.size + 1),pp g,.agg (Cf.lw x),L.hq,.func (.func 124) #[] #[pp bl,pp bc],.agg #[ii (atD Pg0 (pagesS x Pg0 L.l) k).at_,ii (atD Pg0 (pagesS x Pg0 L.l) k).end_,ii (atD Pg0 (pagesS x Pg0 L.l) k).mode,ii (atD Pg0 (pagesS x Pg0 L.l) k).level],undef,undef,undef,undef,undef],defers:=[] }/\T g/\Blk W g 104 #[ii (atD Pg0 (pagesS x Pg0 L.l) k).at_,ii (atD Pg0 (pagesS x Pg0 L.l) k).end_,ii (atD Pg0 (pagesS x Pg0 L.l) k).mode,ii (atD Pg0 (pagesS x Pg0 L.l) k).level]/\g≠w.heap.size + 1/\v.ownBlock≠some g/\Blk W (w.heap.size + 1) 101 #[v]/\W.ownsRow (w.heap.size + 2) 104 4 v k (((pagesS x Pg0 L.l).take k).flatMap Pg.f)/\T (w.heap.size + 1)/\∀ b,v.ownBlock=some b->T b)
  ?_ ?_ ?_ ?_ ?_
 .rintro k T W W' ⟨v,h1,h2,h3,h4⟩ hf;exact⟨v,h1.fr hf (λh=>h.1 h3),q5d h2 hf (λb _ hb h=>h.1 (h4 b hb)),h3,h4⟩
 .rintro a' k T W W' ⟨g,v,rfl,h0,h5,h6,h7,h1,h2,h3,h4⟩ hf;exact⟨g,v,rfl,h0,h5.fr hf (λh=>h.1 h0),h6,h7,h1.fr hf (λh=>h.1 h3),q5d h2 hf (λb _ hb h=>h.1 (h4 b hb)),h3,h4⟩
 .rintro l k T W K hk ⟨v,h1,h2,h3,h4⟩ hT hK;simp only[qxg,Pg.v];gi_wp2
  have he:=λb h=>(Grw.refl hT).trans nL (λ(b:Nat) (h:T b\/b=W.heap.size)=>(⟨by rcases h with h | h;exact .inl h;exact .inr zo,by rcases h with h | h;exact Nat.lt_of_lt_of_le (hT b h) zp;simp[h]⟩:(T b\/W.heap.size<=b)/\b < (W.alloc (.cells #[ii (atD Pg0 (pagesS x Pg0 L.l) k).at_,ii (atD Pg0 (pagesS x Pg0 L.l) k).end_,ii (atD Pg0 (pagesS x Pg0 L.l) k).mode,ii (atD Pg0 (pagesS x Pg0 L.l) k).level] 104)).heap.size)) b h;have hh:=h1.lt;refine hK _ (λb=>T b\/b=W.heap.size) _ ((Fr.refl T W).alloc _) (λb h=>he b h) ⟨W.heap.size,v,rfl,.inr rfl,Blk.new _ _ _,zo,(λh=>by have:=(h2.lt _ h).2;omega),h1.alloc _,h2.alloc _,.inl h3,λb hb => .inl (h4 b hb)⟩
 .rintro l k a' T W hk ⟨g,v,rfl,h0,h5,h6,h7,h1,h2,h3,h4⟩ hT;have hm:=h1.cell 0;have hg0:=h5.cell 0;have hg1:=h5.cell 1;have hg2:=h5.cell 2;have hg3:=h5.cell 3;have hh:=h1.lt;gi_wp2_with (gi_at_builtin;refine q8p W zr _ _ 101 zr (w.heap.size + 2) 104 i0 _ 4 32 1 hu hg hn hp hq rfl zd zd _ k _ zr h2 #[ii (atD Pg0 (pagesS x Pg0 L.l) k).at_,ii (atD Pg0 (pagesS x Pg0 L.l) k).end_,ii (atD Pg0 (pagesS x Pg0 L.l) k).mode,ii (atD Pg0 (pagesS x Pg0 L.l) k).level] rfl (by simp[Value.oneCell']) zr zo zo ?_;intro v' w4 hown4 hf4 hat4;obtain⟨A',c',rfl,-,-⟩:=Sl.of_own hown4;have h9:=h1.fr hf4 (λe=>qe0 h2 (show w.heap.size + 1 < w.heap.size + 2 by omega) e.symm);have hc4:w4.cell? ⟨w.heap.size + 1,0,none⟩=some v:=h9.cell 0;have hz4:w4.frozen? ⟨w.heap.size + 1,0,none⟩=false:=h9.frozen 0)
  have hs4:=hf4.size;refine⟨λb=>T b\/(W.heap.size<=b/\b < w4.heap.size),(hf4.mono (λb _ h=>h4 b h)).setCell (λ_=>h3) _,?_,⟨_,by simpa using h9.set_ 0 (.slice A' (k + 1) c'),?_,.inl h3,λb hb=>?_⟩⟩
  .rintro b (h | h)
   .exact⟨.inl h,by have:=hT b h;simp;omega⟩
   .exact⟨.inr h.1,by simpa using h.2⟩
  .rw[q4l Pg0 _ _ hk,List.flatMap_append];exact q5d hown4 ((Fr.refl (· = w.heap.size + 1) w4).setCell (p:=⟨w.heap.size + 1,0,none⟩) (λ_=>rfl) _) (λb hb _ h=>by omega)
  .have hj:=(hown4.lt _ hb).2;rcases hat4 with h | ⟨g',h,hg'⟩
   .exact .inl (h4 b (h ▸ hb))
   .rw[h]at hb
    cases hb;exact .inr ⟨hg',hj⟩
 .rintro D T' W hD hnD hF hG ⟨v,h1,h2,h3,h4⟩ hK;have hm:=h1.cell 0;gi_wp2
  refine⟨zp,.inl ⟨_,_,rfl,run_takeDeferred hK,?_⟩⟩;refine⟨_,results_tmp rfl _ _ _,v,rfl,?_,?_⟩
  .rw[List.take_length]at h2
   exact qcm (ownsRow_putObj h2 _ hK rfl) zo
  .exact hc.trans ((hF.putObj (l:=D) (λh=>by omega) _).below (λb hb h=>by omega) zo)
 .exact λ_ _ _ _ _ _ _ _ _ _ h _=>h.elim
end Ca
end
end Go.Proofs.YtncfcbohiodnnaaGreat
