/- Parts of this seat's claims. -/
import Derived.Test.YtncfcbohiodnnaaGreatW0
import Derived.ChangeOld
import Derived.Deep.Slices
import Derived.Lib.SmallJoins
import Derived.OpenShut
import Derived.ProofKit
import Derived.ShutString
import Derived.Test.YtncfcbohiodnnaaGreatChecked
import Derived.Test.YtncfcbohiodnnaaGreatRows
set_option maxRecDepth 100000
set_option maxHeartbeats 6400000
namespace Go.Proofs.YtncfcbohiodnnaaGreat
open Go.RowKit
variable{w w' W wa wo W':World} {c n pt r B j b m mb q base cap id B0:Nat} {A:Option Addr} {a code what:Int} {cs:Array Value}
section
open Go.ChangeShapes Go.WideShapes Go.ChangeAt Go.RowKit Go.Joins
open Go.ChangeMaps (open_string shut_string)
theorem Tryz.own:ownKnob Tryz.prog.godebug=none:=by kernel_rfl
theorem Tryz.laidOut:laidOutB Tryz.prog=true:=by kernel_rfl
theorem Tryz.u_bool:Tryz.prog.underlying 4=some .bool:=by kernel_rfl
theorem q78{P:Program} (hlo:laidOutB P=true) {H:Type} {enc:TypeId×Value->H} {W W':World} (hb:Below W.heap.size W W'):∀ {ts:List TypeId} {vs:List Value} {ds:List (DataW H)} {ps:List MemPlace},
  (ts.all λt=>P.readableRec t && decide (t < P.types.size))=true->DataW.TrodAll enc P W 0 (λ_=>true) true ts vs ds ps->DataW.TrodAll enc P W' 0 (λb=>decide (b < W.heap.size)) true ts vs ds ps
 | [],vs,ds,ps,_,h=>by
  obtain⟨rfl,rfl,rfl⟩:=trodAll_nil h;exact trodAll_mk0
 | t :: ts,vs,ds,ps,ht,h=>by
  obtain⟨v,vs',d,ds',p,q,rfl,rfl,rfl,h0,h1⟩:=trodAll_cons h;rw[List.all_cons,Bool.and_eq_true,Bool.and_eq_true,decide_eq_true_eq]at ht
  have lt0:∀ x ∈ p,x.block < W.heap.size:=by obtain⟨m,hm⟩:=h0;exact DataW.trod_lt m _ _ _ hm
  exact trodAll_cons_mk (Below.trod hlo ht.1.1 ht.1.2 h0 hb lt0) (q78 hlo hb ht.2 h1)
theorem q9t{P:Program} {H:Type} {enc:TypeId×Value->H} {W:World} : ∀ {ts:List TypeId} {vs:List Value} {ds:List (DataW H)} {ps:List MemPlace},DataW.TrodAll enc P W 0 (λ_=>true) true ts vs ds ps->ds.length=ts.length
 | [],vs,ds,ps,h=>by
  obtain⟨rfl,rfl,rfl⟩:=trodAll_nil h;rfl
 | t :: ts,vs,ds,ps,h=>by
  obtain⟨v,vs',d,ds',p,q,rfl,rfl,rfl,h0,h1⟩:=trodAll_cons h;rw[List.length_cons,List.length_cons,q9t h1]
theorem qbp(f:FuncId) (fn:Func) (s:ChangeSpec) (os:Os) (started:os.Started) (H:Type) (enc:TypeId×Value->H) (hvars:s.vars = [])
  (hfn:Tryz.checked.prog.funcs[f]?=some fn) (hini:Tryz.checked.prog.inits.idxOf? f=none) (hres:fn.resultTypes.toList = [4]) (hrn:fn.resultTypes.size=1)
  (hpar:(fn.params.toList.all λt=>Tryz.prog.readableRec t && decide (t < Tryz.prog.types.size))=true)
  (hspec:∀ ds:List (DataW H),ds.length=fn.params.toList.length->s.fn H ds={ results:=[.lit (.bool true)],args:=ds })
  (witness:∃ (w:World) (tape:Tape) (i:Input),w.os=os/\(w.forCall tape i).Shaped Tryz.checked.prog/\i.vars = []/\Input.okWide Tryz.checked.prog (w.forCall tape i) .any w.heap.size f i /\
   s.pre6 enc Tryz.checked.prog fn [] false (w.forCall tape i).memory i.args/\({} : Assume).holds Tryz.checked.prog (lone (Frame.enter Tryz.checked.prog f i.args .normal) [] (w.forCall tape i)))
  (contract:∀ (W:World) (base:Nat) (args:Array Value) (ds:List (DataW H)) (ps:List MemPlace),
   (∀ (j:Nat) t v,fn.params[j]?=some t->args[j]?=some v->Value.okWide Tryz.prog W .any base t v)->DataW.TrodAll enc Tryz.prog W 0 (λ_=>true) true fn.params.toList args.toList ds ps ->
   Calls Tryz.prog f args W λe W'=>e = .returned (.bool true)/\Below W.heap.size W W') :
  ReturnsInHanded {} Tryz.checked os f .any (s.pre6 enc Tryz.prog fn [] false) (s.post enc Tryz.prog fn false true false false):=by
 refine returnsInHanded_of_change (C:=Tryz.checked) Tryz.own started hini hfn witness ?_;intro W base args ds gs before hval hW _ _;have hW':=hW;obtain⟨p,q,hA,hV,rfl,hfz,hnd⟩:=hW;rw[hvars]at hV
 obtain⟨rfl,rfl⟩:=trodVars_none hV;refine(contract W base args ds p hval hA).mono λe W' ⟨he,bel⟩=>?_;subst he;have hlen:ds.length=fn.params.toList.length:=q9t hA;have hsp:=hspec ds hlen;refine⟨_,rfl,ds,[],_,[],p,[],hW',?_,?_,?_,bel.frame _,λh=>by cases h⟩
 .rw[List.append_nil,hsp,hres,hrn];exact trodAll_mk1 (shut_bool Tryz.u_bool _)
 .rw[List.append_nil,hsp];exact q78 Tryz.laidOut bel hpar hA
 .rw[List.append_nil,hsp,hvars];rfl
section
variable{H:Type} {enc:TypeId×Value->H} {P:Program} {W:World}
theorem qe5{n:Int} (h:(Lit.int .i64 n).wf=true):i64 n:=by
 have h1:IntKind.i64.min = -9223372036854775808:=rfl;have h2:IntKind.i64.max=9223372036854775807:=rfl;simp only[Lit.wf,Bool.and_eq_true,decide_eq_true_eq,h1,h2]at h;exact h
theorem qq4{t e:TypeId} (ht:P.underlying t=some (.slice e)) (he:P.underlying e=some (.int .i64)) (hC:P.cellsOf e=1) {fuel:Nat} {v:Value} {x:DataW H×List MemPlace}
  (h:DataW.trod enc P W 0 (λ_=>true) true fuel t [v]=some x):∃ A n c l,v = .slice A n c/\SlI W A n c l:=by
 rcases open_ints ht he hC h with ⟨hcs,_⟩ | ⟨a,len,cap,zs,hcs,_,hl,hm,hz,_,hcell,hwz⟩
 .cases hcs;exact⟨none,0,0,[],rfl,SlI.nil W⟩
 .cases hcs;refine⟨some a,len,cap,zs.take len,rfl,⟨⟨by rw[List.length_map,List.length_take];simp at hz;omega,hl,hm,(λe=>by cases e),λhn=>?_⟩,by rw[List.length_take];simp at hz;omega,λn hn=>qe5 (hwz n (List.mem_of_mem_take hn))⟩⟩;have hz':zs.length=cap:=by simpa using hz
  have h0:=hcell 0 (by omega);obtain⟨b,o,spot⟩:=a;have hspot:spot=none:=by simpa [Addr.add] using World.cell?_spot h0
  subst hspot;refine⟨b,o,rfl,?_,λj u hu=>?_⟩
  .have:=World.block_lt_of_cell? W _ h0;simpa [Addr.add] using this
  .have hj:j < len:=by
    have:=(List.getElem?_eq_some_iff.1 hu).1;rw[List.length_map,List.length_take]at this
    omega
   have hc:=hcell j (by omega);have hadd:(⟨b,o,none⟩:Addr).add j=⟨b,o + j,none⟩:=q11 b o j;rw[hadd]at hc
   rw[hc,<- hu];simp[hj,List.getD,List.getElem?_eq_getElem (show j < zs.length by omega)]
theorem qtl{p:Nat->List Value->Prop} {size:Nat} : ∀ (len:Nat),(∀ i,i < len->∃ c,p i c/\c.length=size)->∃ xs:List Value,xs.length=len * size/\∀ i,i < len->p i ((xs.drop (i * size)).take size)
 | 0,_=>⟨[],by simp,λi hi=>by omega⟩
 | len + 1,h=>by
  obtain⟨xs,hl,hx⟩:=qtl len (λi hi=>h i (by omega));obtain⟨c,hp,hc⟩:=h len (by omega);refine⟨xs ++ c,by rw[List.length_append,hl,hc,Nat.add_mul,Nat.one_mul],λi hi=>?_⟩;rcases Nat.lt_or_ge i len with hlt | hge
  .have h1:(i + 1) * size<=len * size:=Nat.mul_le_mul_right _ hlt;rw[Nat.add_mul,Nat.one_mul]at h1
   have:((xs ++ c).drop (i * size)).take size=(xs.drop (i * size)).take size:=by
    rw[List.drop_append_of_le_length (by omega),List.take_append_of_le_length (by rw[List.length_drop];omega)]
   rw[this];exact hx i hlt
  .obtain rfl:i=len:=by omega
   rw[<- hl,List.drop_left,List.take_of_length_le (by omega)];exact hp
theorem quj{t e size:TypeId} (ht:P.underlying t=some (.slice e)) (hC:P.cellsOf e=size) (hs:0 < size) {fuel:Nat} {v:Value} {x:DataW H×List MemPlace}
  (h:DataW.trod enc P W 0 (λ_=>true) true fuel t [v]=some x):∃ A n c cs,v = .slice A n c/\Sl W A n c size cs/\∀ i,i < n->∃ fuel' y,DataW.trod enc P W 0 (λ_=>true) true fuel' e ((cs.drop (i * size)).take size)=some y:=by
 rcases Go.Deep.open_slice ht h with ⟨hcs,_⟩ | ⟨a,len,cap,m,n,D,Pl,hcs,_,hl,hm,hmm,_,hx⟩
 .cases hcs;exact⟨none,0,0,[],rfl,Sl.nil W size,λi hi=>by omega⟩
 .cases hcs;rw[hC]at hx
  have hm':m=cap:=by simpa using hmm
  subst hm';obtain⟨xs,hxl,hxp⟩:=qtl (p:=λi c=>W.cells? 0 (a.add (i * size)) size=some c/\DataW.trod enc P W 0 (λ_=>true) true n e c=some (D i,Pl i)) (size:=size) len (λi hi=>by
   obtain⟨c,h1,h2⟩:=hx i (by omega);exact⟨c,⟨h1,h2⟩,(World.cells?_some h1).2.1⟩)
  refine⟨some a,len,m,xs,rfl,⟨hxl,hl,hm,(λe=>by cases e),λhn=>?_⟩,λi hi=>⟨n,_,(hxp i hi).2⟩⟩;have hat:∀ j u,xs[j]?=some u->W.cell? (a.add j)=some u:=λj u hu=>by
   have hj:j < len * size:=by rw[<- hxl];exact(List.getElem?_eq_some_iff.1 hu).1
   have hi:j / size < len:=Nat.div_lt_of_lt_mul (by rw[Nat.mul_comm];exact hj);have hr:j % size < size:=Nat.mod_lt _ hs;have hdm:j / size * size + j % size=j:=by rw[Nat.mul_comm];exact Nat.div_add_mod j size
   obtain⟨_,_,hcell⟩:=World.cells?_some (hxp (j / size) hi).1;have hc:=hcell (j % size) hr;rw[Go.Deep.add_add,hdm,List.getElem?_take,if_pos hr,List.getElem?_drop,hdm]at hc
   rw[hc];exact hu
  have h0l:0 < xs.length:=by rw[hxl];exact Nat.mul_pos hn hs
  have h0:=hat 0 (xs[0]'h0l) (List.getElem?_eq_getElem h0l);obtain⟨b,o,spot⟩:=a;have hspot:spot=none:=by simpa [Addr.add] using World.cell?_spot h0
  subst hspot;refine⟨b,o,rfl,?_,λj u hu=>?_⟩
  .have:=World.block_lt_of_cell? W _ h0;simpa [Addr.add] using this
  .have hadd:(⟨b,o,none⟩:Addr).add j=⟨b,o + j,none⟩:=q11 b o j;rw[<- hadd];exact hat j u hu
theorem q00{t:TypeId} {fs:Array Field} (hu:P.underlying t=some (.struct fs)) {fuel:Nat} {cs:List Value} {x:DataW H×List MemPlace} (h:DataW.trod enc P W 0 (λ_=>true) true fuel t cs=some x)
  (i:Nat) (T off sz:Nat) (hi:(fs[i]?).map (λf=>(f.type,f.offset))=some (T,off)) (hC:P.cellsOf T=sz):∃ n y,DataW.trod enc P W 0 (λ_=>true) true n T ((cs.drop off).take sz)=some y:=by
 obtain⟨xs,n,_,_,_,hxl,hg⟩:=DataW.trod_struct hu h;cases hf:fs[i]? with
 | none=>rw[hf]at hi;cases hi
 | some f =>
  rw[hf]at hi
  simp only[Option.map_some,Option.some.injEq,Prod.mk.injEq]at hi;obtain⟨rfl,rfl⟩:=hi;have hlt:i < xs.length:=by rw[hxl];exact(Array.getElem?_eq_some_iff.1 hf).1
  have:=hg i f hf;rw[hC,List.getElem?_eq_getElem hlt]at this
  exact⟨n,_,this⟩
theorem qe6{t:TypeId} {k:IntKind} (ht:P.underlying t=some (.int k)) {fuel:Nat} {v:Value} {x:DataW H×List MemPlace} (h:DataW.trod enc P W 0 (λ_=>true) true fuel t [v]=some x):∃ n,v = .int k n/\(Lit.int k n).wf=true:=by
 obtain⟨n,e,_,wf⟩:=DataW.trod_int ht h;cases e;exact⟨n,rfl,wf⟩
end
end
section
open Go.ChangeShapes Go.WideShapes Go.ChangeAt Go.RowKit Go.Joins
section
variable{α : Type} {w w':World} {A:Option Addr} {n c sz:Nat} {f : α->List Value} {l:List α}
def atD(d : α) (l:List α) (k:Nat) : α:=l.getD k d
theorem q0s{d : α} {k:Nat} (h:k < l.length):atD d l k=l[k]:=by simp[atD,List.getD,h]
theorem q4l(d : α) (l:List α) (k:Nat) (h:k < l.length):l.take (k + 1)=l.take k ++ [atD d l k]:=by
 rw[List.take_succ_eq_append_getElem h,q0s h]
theorem q0h{d : α} {k:Nat} (h:k < l.length):atD d l k ∈ l:=by rw[q0s h];exact List.getElem_mem _
def SlG(w:World) (A:Option Addr) (n c sz:Nat) (f : α->List Value) (l:List α):Prop:=Sl w A n c sz (l.flatMap f)/\l.length=n/\∀ x ∈ l,(f x).length=sz
theorem SlG.keep(h:SlG w A n c sz f l) (hb:bW w w'):SlG w' A n c sz f l:=⟨h.1.keep hb,h.2⟩
theorem SlG.fr{S:Nat->Prop} (h:SlG w A n c sz f l) (hb:Fr S w w') (hS:∀ b o,0 < n->A=some ⟨b,o,none⟩->¬ S b):SlG w' A n c sz f l:=⟨h.1.fr hb hS,h.2⟩
theorem SlG.nil(w:World) (sz:Nat) (f : α->List Value):SlG w none 0 0 sz f []:=⟨Sl.nil w sz,rfl,λx h=>by cases h⟩
theorem SlG.len(h:SlG w A n c sz f l):n<=9223372036854775807:=h.1.len_le
theorem qq5(d : α) (l:List α) (hf:∀ x ∈ l,(f x).length=sz) (k j:Nat) (hk:k < l.length) (hj:j < sz):(l.flatMap f)[k * sz + j]?=(f (atD d l k))[j]?:=by
 induction l generalizing k with
 | nil=>simp at hk
 | cons x l ih =>
  have hx:=hf x zp;cases k with
  | zero =>
   rw[List.flatMap_cons,Nat.zero_mul,Nat.zero_add,List.getElem?_append_left zo];simp[atD]
  | succ k =>
   rw[List.flatMap_cons,List.getElem?_append_right (by rw[hx,Nat.add_mul];omega),hx,show(k + 1) * sz + j - sz=k * sz + j by rw[Nat.add_mul];omega,ih (λy hy=>hf y (by simp[hy])) k (by simpa using hk)];simp[atD]
theorem SlG.at_(d : α) (h:SlG w A n c sz f l) {k:Nat} (hk:k < n):∃ b o,A=some ⟨b,o,none⟩/\b < w.heap.size/\∀ j u,(f (atD d l k))[j]?=some u->w.cell? ⟨b,o + k * sz + j,none⟩=some u:=by
 obtain⟨b,o,e,hb,hc⟩:=h.1.at_ zo;refine⟨b,o,e,hb,λj u hu=>?_⟩;have hl:=h.2.1;have hj:j < sz:=by
  have h1:=(List.getElem?_eq_some_iff.1 hu).1;rw[h.2.2 _ (q0h zo)]at h1
  exact h1
 rw[Nat.add_assoc];exact hc _ u (by rw[qq5 d l h.2.2 k j zo hj];exact hu)
theorem SlG.of_own{e:TypeId} {v:Value} {l:List α} (h:w.ownsRow base e sz v n (l.flatMap f)) (hf:∀ x ∈ l,(f x).length=sz) (hl:l.length=n):∃ A c,v = .slice A n c/\SlG w A n c sz f l/\∀ b o,A=some ⟨b,o,none⟩->base<=b:=by
 obtain⟨A,c,hv,hs,hb⟩:=Sl.of_own h;exact⟨A,c,hv,⟨hs,hl,hf⟩,hb⟩
end
theorem qlo{α : Type} {f : α->List Value} {ok : α->Prop} {sz:Nat} : ∀ (n:Nat) (cs:List Value),cs.length=n * sz->(∀ i,i < n->∃ a,(cs.drop (i * sz)).take sz=f a/\ok a)->∃ l:List α,l.length=n/\cs=l.flatMap f/\∀ a ∈ l,ok a
 | 0,cs,hl,_=>⟨[],rfl,by simpa using hl,λa h=>by cases h⟩
 | n + 1,cs,hl,h=>by
  rw[Nat.add_mul,Nat.one_mul]at hl
  obtain⟨a,ha,h0⟩:=h 0 zo;rw[Nat.zero_mul,List.drop_zero]at ha
  obtain⟨l,h1,h2,h3⟩:=qlo (f:=f) (ok:=ok) (sz:=sz) n (cs.drop sz) (by rw[List.length_drop];omega) (λi hi=>by
   obtain⟨b,hb,h4⟩:=h (i + 1) zo;rw[Nat.add_mul,Nat.one_mul]at hb
   exact⟨b,by rw[List.drop_drop,Nat.add_comm];exact hb,h4⟩)
  exact⟨a :: l,by simp[h1],by rw[List.flatMap_cons,<- ha,<- h2,List.take_append_drop],λb hb=>by
   rcases List.mem_cons.1 hb with rfl | hb
   .exact h0
   .exact h3 b hb⟩
section
variable{H:Type} {enc:TypeId×Value->H} {P:Program} {W:World}
theorem qq6{α : Type} {f : α->List Value} {ok : α->Prop} {t e:TypeId} {sz:Nat} (ht:P.underlying t=some (.slice e)) (hC:P.cellsOf e=sz) (hs:0 < sz)
  (hrd:∀ (fuel:Nat) (cs:List Value) (x:DataW H×List MemPlace),cs.length=sz->DataW.trod enc P W 0 (λ_=>true) true fuel e cs=some x->∃ a,cs=f a/\ok a)
  {fuel:Nat} {v:Value} {x:DataW H×List MemPlace} (h:DataW.trod enc P W 0 (λ_=>true) true fuel t [v]=some x):∃ A n c l,v = .slice A n c/\SlG W A n c sz f l/\∀ a ∈ l,ok a:=by
 obtain⟨A,n,c,cs,rfl,h4,he⟩:=quj ht hC hs h;have hl:=h4.1;have h5:∀ i,i < n->∃ a,(cs.drop (i * sz)).take sz=f a/\(ok a/\(f a).length=sz):=λi hi=>by
  obtain⟨_,_,g⟩:=he i hi;have h0:((cs.drop (i * sz)).take sz).length=sz:=by
   rw[List.length_take,List.length_drop,hl];have:(i + 1) * sz<=n * sz:=Nat.mul_le_mul_right _ hi;rw[Nat.add_mul,Nat.one_mul]at this
   omega
  obtain⟨a,ha,h6⟩:=hrd _ _ _ h0 g;exact⟨a,ha,h6,by rw[<- ha,h0]⟩
 obtain⟨l,h1,h2,h3⟩:=qlo n cs hl h5;subst h2;exact⟨A,n,c,l,rfl,⟨h4,h1,λa ha=>(h3 a ha).2⟩,λa ha=>(h3 a ha).1⟩
end
end
def slA(A:Option Addr) (lo c s:Nat):Option Addr:=if c=lo then A else A.map (·.add (lo * s))
section
variable{w:World} {A:Option Addr} {n c sz:Nat} {xs:List Value}
theorem Sl.cut(h:Sl w A n c sz xs) {lo hi:Nat} (h1:lo<=hi) (h2:hi<=n):Sl w (slA A lo c sz) (hi - lo) (c - lo) sz ((xs.drop (lo * sz)).take ((hi - lo) * sz)):=by
 obtain⟨hl,hnc,hcm,h0,h3⟩:=h;refine⟨?_,zo,zo,λhn=>?_,λhp=>?_⟩
 .rw[List.length_take,List.length_drop,hl,<- Nat.sub_mul];exact Nat.min_eq_left (Nat.mul_le_mul_right _ zo)
 .unfold slA at hn;split at hn
  .omega
  .cases A with
   | none=>rw[h0 rfl];omega
   | some a=>simp at hn
 .obtain⟨b,o,rfl,hb,hc⟩:=h3 zo;refine⟨b,o + lo * sz,?_,hb,λj u hu=>?_⟩
  .unfold slA;rw[if_neg zo];simp[q11]
  .rw[List.getElem?_take]at hu
   split at hu
   .rw[List.getElem?_drop]at hu
    rw[Nat.add_assoc];exact hc _ u hu
   .cases hu
end
theorem qi3{α : Type} {f : α->List Value} {sz:Nat} (l:List α) (hf:∀ x ∈ l,(f x).length=sz) (lo m:Nat):((l.flatMap f).drop (lo * sz)).take (m * sz)=((l.drop lo).take m).flatMap f:=by
 have hd:∀ (l:List α),(∀ x ∈ l,(f x).length=sz)->∀ lo,(l.flatMap f).drop (lo * sz)=(l.drop lo).flatMap f:=by
  intro l
  induction l with
  | nil=>intro _ lo;simp
  | cons x l ih =>
   intro hf lo;cases lo with
   | zero=>simp
   | succ lo =>
    have hx:=hf x zp;rw[List.drop_succ_cons,List.flatMap_cons,<- ih (λy hy=>hf y (by simp[hy])) lo,List.drop_append,hx,Nat.add_mul,Nat.one_mul];rw[List.drop_eq_nil_of_le zo,List.nil_append,show lo * sz + sz - sz=lo * sz by omega]
 have ht:∀ (l:List α),(∀ x ∈ l,(f x).length=sz)->∀ m,(l.flatMap f).take (m * sz)=(l.take m).flatMap f:=by
  intro l
  induction l with
  | nil=>intro _ m;simp
  | cons x l ih =>
   intro hf m;cases m with
   | zero=>simp
   | succ m =>
    have hx:=hf x zp;rw[List.take_succ_cons,List.flatMap_cons,List.flatMap_cons,<- ih (λy hy=>hf y (by simp[hy])) m,List.take_append,hx,Nat.add_mul,Nat.one_mul];rw[List.take_of_length_le zo,show m * sz + sz - sz=m * sz by omega]
 rw[hd l hf lo,ht (l.drop lo) (λx hx=>hf x (List.mem_of_mem_drop hx)) m]
theorem SlG.cut{α : Type} {f : α->List Value} {sz:Nat} {l:List α} (h:SlG w A n c sz f l) {lo hi:Nat} (h1:lo<=hi) (h2:hi<=n):SlG w (slA A lo c sz) (hi - lo) (c - lo) sz f ((l.drop lo).take (hi - lo)):=by
 obtain⟨hs,hl,hf⟩:=h;refine⟨?_,by rw[List.length_take,List.length_drop];omega,λx hx=>hf x (List.mem_of_mem_drop (List.mem_of_mem_take hx))⟩;rw[<- qi3 l hf];exact hs.cut h1 h2
theorem SlB.cut{l:List UInt8} (h:SlB w A n c l) {lo hi:Nat} (h1:lo<=hi) (h2:hi<=n):SlB w (slA A lo c 1) (hi - lo) (c - lo) ((l.drop lo).take (hi - lo)):=by
 have:=h.1.cut h1 h2;refine⟨by simpa [List.map_drop,List.map_take] using this,?_⟩;have:=h.2;rw[List.length_take,List.length_drop];omega
section
variable{P:Program} {t:TypeId} {s:Nat} (ht:P.underlying t=some (.slice (P.elem t))) (hs:∀ w,(sizeOf (P.elem t)).run P w = .ok s w) (w:World) (A:Option Addr) (n c lo hi:Nat)
include ht hs
theorem qjp(h1:lo<=hi) (h2:hi<=c):(Instr.sliceAt t (.slice A n c) (some (ii lo)) (some (ii hi)) none).run P w = .ok (.slice (slA A lo c s) (hi - lo) (c - lo)) w:=by
 rw[run_sliceAt_slice w t _ _ _ _ ht,run_slice_lh w t A n c ht .i64 .i64 lo hi zo zo zo,hs];simp only[Result.andThen_ok,sliced,slA,Int.toNat_natCast]
theorem q4p(h2:hi<=c):(Instr.sliceAt t (.slice A n c) none (some (ii hi)) none).run P w = .ok (.slice (slA A 0 c s) hi c) w:=by
 rw[run_sliceAt_slice w t _ _ _ _ ht,run_slice_h w t A n c ht .i64 hi zo zo,hs];simp only[Result.andThen_ok,sliced,slA,Int.toNat_natCast,Nat.sub_zero]
theorem qen(h1:lo<=n):(Instr.sliceAt t (.slice A n c) (some (ii lo)) none none).run P w = .ok (.slice (slA A lo c s) (n - lo) (c - lo)) w:=by
 rw[run_sliceAt_slice w t _ _ _ _ ht,run_slice_l w t A n c ht .i64 lo zo zo,hs];simp only[Result.andThen_ok,sliced,slA,Int.toNat_natCast]
end
section
open Go.ChangeShapes Go.WideShapes Go.ChangeAt Go.RowKit Go.Joins
section
variable{P:Program} {H:Type} {enc:TypeId×Value->H} {W:World}
theorem qqv{n:Int} (h:(Lit.int .u8 n).wf=true):0<=n/\n < 256:=by
 have h1:IntKind.u8.min=0:=rfl;have h2:IntKind.u8.max=255:=rfl;simp only[Lit.wf,Bool.and_eq_true,decide_eq_true_eq,h1,h2]at h;omega
section
variable{r:Reach} {base:Nat} {t:TypeId} {v:Value} {d:DataW H} {p:List MemPlace} (hv:Value.okWide P W r base t v) (h:DataW.Trod enc P W 0 (λ_=>true) true t v d p)
include hv h
theorem qy4(ht:P.underlying t=some (.int .u8)):∃ n:Nat,v = .int .u8 n/\n < 256:=by
 obtain⟨n,rfl,_,_,wn⟩:=open_int ht hv h;obtain⟨h1,h2⟩:=qqv wn;exact⟨n.toNat,by rw[Int.toNat_of_nonneg h1],zo⟩
end
end
end
section
open Go.ChangeShapes Go.WideShapes Go.ChangeAt Go.RowKit Go.Joins
theorem quk{e:TypeId} {sz:Nat} {v:Value} {xs:List Value} (h:w.ownsRow base e sz v n xs) (k:Nat) (hk:v.ownBlock=some k):base<=k:=by
 rcases h.2 with ⟨rfl,_⟩ | ⟨g,cap,cur,rfl,hb,_⟩
 .cases hk
 .cases hk;exact hb
theorem qlp{e:TypeId} {sz:Nat} {v:Value} {xs:List Value} (hB:bW wo w) (h:w.ownsRow wo.heap.size e sz v n xs) (hf:Fr (λk=>v.ownBlock=some k) w w'):bW wo w' :=
 hB.trans (hf.below (λk hk h'=>by have:=quk h k h';omega) hB.size)
structure Hd(α : Type) where
 A:Option Addr
 c:Nat
 l:List α
abbrev Hd.hq {α : Type} (h:Hd α):Value := .slice h.A h.l.length h.c
def Hd.v{α : Type} (h:Hd α):Value := .slice h.A h.l.length h.c
structure Rd(P:Program) (t:TypeId) (α : Type) where
 sz:Nat
 f : α->List Value
 ok:World->α->Prop
 len:∀ x,(f x).length=sz
 keep:∀ {W W':World} {x : α},ok W x->bW W W'->ok W' x
 trod:∀ {H:Type} {enc:TypeId×Value->H} {W:World} {fuel:Nat} {cs:List Value} {x:DataW H×List MemPlace},cs.length=sz->DataW.trod enc P W 0 (λ_=>true) true fuel t cs=some x->∃ a,cs=f a/\ok W a
theorem q79:Tryz.prog.underlying 3=some (.int .i64):=zk
theorem qlq:Tryz.prog.underlying 29=some (.slice 3):=zk
theorem z02:Tryz.prog.cellsOf 3=1:=zk
def q08:Rd Tryz.prog 3 Int where
 sz:=1
 f z:=[ii z]
 ok _ z:=i64 z
 len _:=rfl
 keep h _:=h
 trod hl h:=by
  rename_i cs _
  match cs,hl with
  | [v],_ =>
   obtain⟨n,rfl,wn⟩:=qe6 q79 h;exact⟨n,rfl,qe5 wn⟩
def q7a:Rd Tryz.prog 4 Bool where
 sz:=1
 f b:=[.bool b]
 ok _ _:=True
 len _:=rfl
 keep h _:=h
 trod hl h:=by
  rename_i cs _
  match cs,hl with
  | [v],_ =>
   obtain⟨b,e,_⟩:=DataW.trod_bool Tryz.u_bool h;exact⟨b,e,trivial⟩
def Hd.okI(W:World) (h:Hd Int):Prop:=SlI W h.A h.l.length h.c h.l
def q1f:Rd Tryz.prog 29 (Hd Int) where
 sz:=1
 f h:=[h.v]
 ok W h:=h.okI W
 len _:=rfl
 keep h hb:=SlI.keep h hb
 trod hl h:=by
  rename_i cs _
  match cs,hl with
  | [v],_ =>
   obtain⟨A,n,c,l,rfl,hs⟩:=qq4 qlq q79 z02 h;have:=hs.2.1;subst this;exact⟨⟨A,c,l⟩,rfl,hs⟩
def Hd.ok{P:Program} {α : Type} {e:TypeId} (r:Rd P e α) (W:World) (h:Hd α):Prop:=SlG W h.A h.l.length h.c r.sz r.f h.l/\∀ x ∈ h.l,r.ok W x
theorem Hd.ok.keep{P:Program} {α : Type} {e:TypeId} {r:Rd P e α} {h:Hd α} (H:h.ok r W) (hb:bW W W'):h.ok r W':=⟨H.1.keep hb,λx hx=>r.keep (H.2 x hx) hb⟩
def qgb{P:Program} {α : Type} {e:TypeId} (t:TypeId) (r:Rd P e α) (ht:P.underlying t=some (.slice e)) (hC:P.cellsOf e=r.sz) (hs:0 < r.sz):Rd P t (Hd α) where
 sz:=1
 f h:=[h.v]
 ok W h:=h.ok r W
 len _:=rfl
 keep H hb:=H.keep hb
 trod hl h:=by
  rename_i cs _
  match cs,hl with
  | [v],_ =>
   obtain⟨A,n,c,l,rfl,hsl,hok⟩:=qq6 (f:=r.f) (ok:=r.ok _) ht hC hs (λfuel cs x hl h=>r.trod hl h) h;have:=hsl.2.1;subst this;exact⟨⟨A,c,l⟩,rfl,hsl,hok⟩
theorem qtm{P:Program} {t:TypeId} {α : Type} (R:Rd P t α) {fs:Array Field} (hu:P.underlying t=some (.struct fs)) (hC:P.cellsOf t=R.sz) {H:Type} {enc:TypeId×Value->H} {W:World} {r:Reach} {base:Nat} {v:Value} {d:DataW H} {p:List MemPlace}
  (hv:Value.okWide P W r base t v) (h:DataW.Trod enc P W 0 (λ_=>true) true t v d p):∃ x,v = .agg (R.f x).toArray/\R.ok W x:=by
 obtain⟨cs,rfl,h0⟩:=okWide_struct hu hv;obtain⟨fuel,hf⟩:=h;obtain⟨x,h1,h2⟩:=R.trod (cs:=cs.toList) (by simpa [hC] using h0) hf;exact⟨x,by rw[<- h1],h2⟩
noncomputable def fieldsOf(t:TypeId):Array Field:=match Tryz.prog.underlying t with | some (.struct fs)=>fs | _=>#[]
structure Rg where
 base:Int
 size:Int
 wr:Bool
abbrev Rg.lw (x:Rg):Array Value:=#[.int .i64 x.base,.int .i64 x.size,.bool x.wr]
def Rg.f(x:Rg):List Value:=[ii x.base,ii x.size,.bool x.wr]
def Rg0:Rg:=⟨0,0,false⟩
def Rg.ok(W:World) (x:Rg):Prop:=q08.ok W x.base/\q08.ok W x.size/\q7a.ok W x.wr
theorem z03:Tryz.prog.underlying 125=some (.struct (fieldsOf 125)):=zk
noncomputable def z23:Rd Tryz.prog 125 Rg where
 sz:=3
 f:=Rg.f
 ok:=Rg.ok
 len _:=rfl
 keep H hb:=⟨q08.keep H.1 hb,q08.keep H.2.1 hb,q7a.keep H.2.2 hb⟩
 trod hl h:=by
  rename_i cs _
  match cs,hl with
  | [v0,v1,v2],_ =>
   obtain⟨_,_,g0⟩:=q00 z03 h 0 3 0 1 zk zk;obtain⟨x0,e0,o0⟩:=q08.trod rfl g0;obtain⟨_,_,g1⟩:=q00 z03 h 1 3 1 1 zk zk;obtain⟨x1,e1,o1⟩:=q08.trod rfl g1;obtain⟨_,_,g2⟩:=q00 z03 h 2 4 2 1 zk zk;obtain⟨x2,e2,o2⟩:=q7a.trod rfl g2;cases e0;cases e1;cases e2;exact⟨⟨x0,x1,x2⟩,rfl,o0,o1,o2⟩
structure Pc where
 prio:Int
 per:Int
 cost:Int
abbrev Pc.lw (x:Pc):Array Value:=#[.int .i64 x.prio,.int .i64 x.per,.int .i64 x.cost]
def Pc.f(x:Pc):List Value:=[ii x.prio,ii x.per,ii x.cost]
def Pc0:Pc:=⟨0,0,0⟩
def Pc.ok(W:World) (x:Pc):Prop:=q08.ok W x.prio/\q08.ok W x.per/\q08.ok W x.cost
theorem z04:Tryz.prog.underlying 89=some (.struct (fieldsOf 89)):=zk
noncomputable def z05:Rd Tryz.prog 89 Pc where
 sz:=3
 f:=Pc.f
 ok:=Pc.ok
 len _:=rfl
 keep H hb:=⟨q08.keep H.1 hb,q08.keep H.2.1 hb,q08.keep H.2.2 hb⟩
 trod hl h:=by
  rename_i cs _
  match cs,hl with
  | [v0,v1,v2],_ =>
   obtain⟨_,_,g0⟩:=q00 z04 h 0 3 0 1 zk zk;obtain⟨x0,e0,o0⟩:=q08.trod rfl g0;obtain⟨_,_,g1⟩:=q00 z04 h 1 3 1 1 zk zk;obtain⟨x1,e1,o1⟩:=q08.trod rfl g1;obtain⟨_,_,g2⟩:=q00 z04 h 2 3 2 1 zk zk;obtain⟨x2,e2,o2⟩:=q08.trod rfl g2;cases e0;cases e1;cases e2;exact⟨⟨x0,x1,x2⟩,rfl,o0,o1,o2⟩
structure Po where
 q:Bool
 inn:Bool
 size:Int
 depth:Int
abbrev Po.lw (x:Po):Array Value:=#[.bool x.q,.bool x.inn,.int .i64 x.size,.int .i64 x.depth]
def Po.f(x:Po):List Value:=[.bool x.q,.bool x.inn,ii x.size,ii x.depth]
def Po0:Po:=⟨false,false,0,0⟩
def Po.ok(W:World) (x:Po):Prop:=q7a.ok W x.q/\q7a.ok W x.inn/\q08.ok W x.size/\q08.ok W x.depth
theorem qzr:Tryz.prog.underlying 199=some (.struct (fieldsOf 199)):=zk
noncomputable def qzs:Rd Tryz.prog 199 Po where
 sz:=4
 f:=Po.f
 ok:=Po.ok
 len _:=rfl
 keep H hb:=⟨q7a.keep H.1 hb,q7a.keep H.2.1 hb,q08.keep H.2.2.1 hb,q08.keep H.2.2.2 hb⟩
 trod hl h:=by
  rename_i cs _
  match cs,hl with
  | [v0,v1,v2,v3],_ =>
   obtain⟨_,_,g0⟩:=q00 qzr h 0 4 0 1 zk zk;obtain⟨x0,e0,o0⟩:=q7a.trod rfl g0;obtain⟨_,_,g1⟩:=q00 qzr h 1 4 1 1 zk zk;obtain⟨x1,e1,o1⟩:=q7a.trod rfl g1;obtain⟨_,_,g2⟩:=q00 qzr h 2 3 2 1 zk zk;obtain⟨x2,e2,o2⟩:=q08.trod rfl g2;obtain⟨_,_,g3⟩:=q00 qzr h 3 3 3 1 zk zk;obtain⟨x3,e3,o3⟩:=q08.trod rfl g3;cases e0;cases e1;cases e2;cases e3;exact⟨⟨x0,x1,x2,x3⟩,rfl,o0,o1,o2,o3⟩
structure Sm where
 first:Int
 most:Int
abbrev Sm.lw (x:Sm):Array Value:=#[.int .i64 x.first,.int .i64 x.most]
def Sm.f(x:Sm):List Value:=[ii x.first,ii x.most]
def Sm0:Sm:=⟨0,0⟩
def Sm.ok(W:World) (x:Sm):Prop:=q08.ok W x.first/\q08.ok W x.most
theorem z1m:Tryz.prog.underlying 203=some (.struct (fieldsOf 203)):=zk
noncomputable def z06:Rd Tryz.prog 203 Sm where
 sz:=2
 f:=Sm.f
 ok:=Sm.ok
 len _:=rfl
 keep H hb:=⟨q08.keep H.1 hb,q08.keep H.2 hb⟩
 trod hl h:=by
  rename_i cs _
  match cs,hl with
  | [v0,v1],_ =>
   obtain⟨_,_,g0⟩:=q00 z1m h 0 3 0 1 zk zk;obtain⟨x0,e0,o0⟩:=q08.trod rfl g0;obtain⟨_,_,g1⟩:=q00 z1m h 1 3 1 1 zk zk;obtain⟨x1,e1,o1⟩:=q08.trod rfl g1;cases e0;cases e1;exact⟨⟨x0,x1⟩,rfl,o0,o1⟩
structure Pl where
 size:Int
 depth:Int
abbrev Pl.lw (x:Pl):Array Value:=#[.int .i64 x.size,.int .i64 x.depth]
def Pl.f(x:Pl):List Value:=[ii x.size,ii x.depth]
def Pl0:Pl:=⟨0,0⟩
def Pl.ok(W:World) (x:Pl):Prop:=q08.ok W x.size/\q08.ok W x.depth
theorem z1n:Tryz.prog.underlying 207=some (.struct (fieldsOf 207)):=zk
noncomputable def z07:Rd Tryz.prog 207 Pl where
 sz:=2
 f:=Pl.f
 ok:=Pl.ok
 len _:=rfl
 keep H hb:=⟨q08.keep H.1 hb,q08.keep H.2 hb⟩
 trod hl h:=by
  rename_i cs _
  match cs,hl with
  | [v0,v1],_ =>
   obtain⟨_,_,g0⟩:=q00 z1n h 0 3 0 1 zk zk;obtain⟨x0,e0,o0⟩:=q08.trod rfl g0;obtain⟨_,_,g1⟩:=q00 z1n h 1 3 1 1 zk zk;obtain⟨x1,e1,o1⟩:=q08.trod rfl g1;cases e0;cases e1;exact⟨⟨x0,x1⟩,rfl,o0,o1⟩
noncomputable def q8x:Rd Tryz.prog 45 (Hd Rg):=qgb 45 z23 zk zk zd
noncomputable def q8y:Rd Tryz.prog 46 (Hd Pc):=qgb 46 z05 zk zk zd
noncomputable def qb6:Rd Tryz.prog 47 (Hd Po):=qgb 47 qzs zk zk zd
noncomputable def qb7:Rd Tryz.prog 48 (Hd Sm):=qgb 48 z06 zk zk zd
noncomputable def qb8:Rd Tryz.prog 49 (Hd Pl):=qgb 49 z07 zk zk zd
structure Pt where
 regs:Hd Rg
 procs:Hd Pc
 ports:Hd Po
 sems:Hd Sm
 flags:Int
 pools:Hd Pl
 slates:Hd Int
 cap:Int
 bud:Int
 lad:Int
 acts:Hd Int
abbrev Pt.lw (x:Pt):Array Value:=#[.slice x.regs.A x.regs.l.length x.regs.c,.slice x.procs.A x.procs.l.length x.procs.c,.slice x.ports.A x.ports.l.length x.ports.c,.slice x.sems.A x.sems.l.length x.sems.c,.int .i64 x.flags,.slice x.pools.A x.pools.l.length x.pools.c,.slice x.slates.A x.slates.l.length x.slates.c,.int .i64 x.cap,.int .i64 x.bud,.int .i64 x.lad,.slice x.acts.A x.acts.l.length x.acts.c]
def Pt.f(x:Pt):List Value:=[x.regs.v,x.procs.v,x.ports.v,x.sems.v,ii x.flags,x.pools.v,x.slates.v,ii x.cap,ii x.bud,ii x.lad,x.acts.v]
def Pt0:Pt:=⟨⟨none,0,[]⟩,⟨none,0,[]⟩,⟨none,0,[]⟩,⟨none,0,[]⟩,0,⟨none,0,[]⟩,⟨none,0,[]⟩,0,0,0,⟨none,0,[]⟩⟩
def Pt.ok(W:World) (x:Pt):Prop:=q8x.ok W x.regs/\q8y.ok W x.procs/\qb6.ok W x.ports/\qb7.ok W x.sems/\q08.ok W x.flags/\qb8.ok W x.pools/\q1f.ok W x.slates/\q08.ok W x.cap/\q08.ok W x.bud/\q08.ok W x.lad/\q1f.ok W x.acts
theorem qlr:Tryz.prog.underlying 51=some (.struct (fieldsOf 51)):=zk
noncomputable def qcu:Rd Tryz.prog 51 Pt where
 sz:=11
 f:=Pt.f
 ok:=Pt.ok
 len _:=rfl
 keep H hb:=⟨q8x.keep H.1 hb,q8y.keep H.2.1 hb,qb6.keep H.2.2.1 hb,qb7.keep H.2.2.2.1 hb,q08.keep H.2.2.2.2.1 hb,qb8.keep H.2.2.2.2.2.1 hb,q1f.keep H.2.2.2.2.2.2.1 hb,q08.keep H.2.2.2.2.2.2.2.1 hb,q08.keep H.2.2.2.2.2.2.2.2.1 hb,q08.keep H.2.2.2.2.2.2.2.2.2.1 hb,q1f.keep H.2.2.2.2.2.2.2.2.2.2 hb⟩
 trod hl h:=by
  rename_i cs _
  match cs,hl with
  | [v0,v1,v2,v3,v4,v5,v6,v7,v8,v9,v10],_ =>
   obtain⟨_,_,g0⟩:=q00 qlr h 0 45 0 1 zk zk;obtain⟨x0,e0,o0⟩:=q8x.trod rfl g0;obtain⟨_,_,g1⟩:=q00 qlr h 1 46 1 1 zk zk;obtain⟨x1,e1,o1⟩:=q8y.trod rfl g1;obtain⟨_,_,g2⟩:=q00 qlr h 2 47 2 1 zk zk;obtain⟨x2,e2,o2⟩:=qb6.trod rfl g2;obtain⟨_,_,g3⟩:=q00 qlr h 3 48 3 1 zk zk;obtain⟨x3,e3,o3⟩:=qb7.trod rfl g3;obtain⟨_,_,g4⟩:=q00 qlr h 4 3 4 1 zk zk;obtain⟨x4,e4,o4⟩:=q08.trod rfl g4;obtain⟨_,_,g5⟩:=q00 qlr h 5 49 5 1 zk zk;obtain⟨x5,e5,o5⟩:=qb8.trod rfl g5;obtain⟨_,_,g6⟩:=q00 qlr h 6 29 6 1 zk zk;obtain⟨x6,e6,o6⟩:=q1f.trod rfl g6;obtain⟨_,_,g7⟩:=q00 qlr h 7 3 7 1 zk zk;obtain⟨x7,e7,o7⟩:=q08.trod rfl g7;obtain⟨_,_,g8⟩:=q00 qlr h 8 3 8 1 zk zk;obtain⟨x8,e8,o8⟩:=q08.trod rfl g8;obtain⟨_,_,g9⟩:=q00 qlr h 9 3 9 1 zk zk;obtain⟨x9,e9,o9⟩:=q08.trod rfl g9;obtain⟨_,_,g10⟩:=q00 qlr h 10 29 10 1 zk zk;obtain⟨x10,e10,o10⟩:=q1f.trod rfl g10;cases e0;cases e1;cases e2;cases e3;cases e4;cases e5;cases e6;cases e7;cases e8;cases e9;cases e10;exact⟨⟨x0,x1,x2,x3,x4,x5,x6,x7,x8,x9,x10⟩,rfl,o0,o1,o2,o3,o4,o5,o6,o7,o8,o9,o10⟩
structure En where
 part:Int
 port:Int
abbrev En.lw (x:En):Array Value:=#[.int .i64 x.part,.int .i64 x.port]
def En.f(x:En):List Value:=[ii x.part,ii x.port]
def En0:En:=⟨0,0⟩
def En.ok(W:World) (x:En):Prop:=q08.ok W x.part/\q08.ok W x.port
theorem z1o:Tryz.prog.underlying 139=some (.struct (fieldsOf 139)):=zk
noncomputable def qx0:Rd Tryz.prog 139 En where
 sz:=2
 f:=En.f
 ok:=En.ok
 len _:=rfl
 keep H hb:=⟨q08.keep H.1 hb,q08.keep H.2 hb⟩
 trod hl h:=by
  rename_i cs _
  match cs,hl with
  | [v0,v1],_ =>
   obtain⟨_,_,g0⟩:=q00 z1o h 0 3 0 1 zk zk;obtain⟨x0,e0,o0⟩:=q08.trod rfl g0;obtain⟨_,_,g1⟩:=q00 z1o h 1 3 1 1 zk zk;obtain⟨x1,e1,o1⟩:=q08.trod rfl g1;cases e0;cases e1;exact⟨⟨x0,x1⟩,rfl,o0,o1⟩
structure Ch where
 fr:En
 «to» : En
def Ch.f(x:Ch):List Value:=[ii x.fr.part,ii x.fr.port,ii x.to.part,ii x.to.port]
def Ch0:Ch:=⟨En0,En0⟩
def Ch.ok(W:World) (x:Ch):Prop:=qx0.ok W x.fr/\qx0.ok W x.to
theorem z1p:Tryz.prog.underlying 141=some (.struct (fieldsOf 141)):=zk
noncomputable def qzt:Rd Tryz.prog 141 Ch where
 sz:=4
 f:=Ch.f
 ok:=Ch.ok
 len _:=rfl
 keep H hb:=⟨qx0.keep H.1 hb,qx0.keep H.2 hb⟩
 trod hl h:=by
  rename_i cs _
  match cs,hl with
  | [v0,v1,v2,v3],_ =>
   obtain⟨_,_,g0⟩:=q00 z1p h 0 139 0 2 zk zk;obtain⟨x0,e0,o0⟩:=qx0.trod rfl g0;obtain⟨_,_,g1⟩:=q00 z1p h 1 139 2 2 zk zk;obtain⟨x1,e1,o1⟩:=qx0.trod rfl g1;cases e0;cases e1;exact⟨⟨x0,x1⟩,rfl,o0,o1⟩
structure Wn where
 part:Int
 start:Int
 len:Int
abbrev Wn.lw (x:Wn):Array Value:=#[.int .i64 x.part,.int .i64 x.start,.int .i64 x.len]
def Wn.f(x:Wn):List Value:=[ii x.part,ii x.start,ii x.len]
def Wn0:Wn:=⟨0,0,0⟩
def Wn.ok(W:World) (x:Wn):Prop:=q08.ok W x.part/\q08.ok W x.start/\q08.ok W x.len
theorem z08:Tryz.prog.underlying 96=some (.struct (fieldsOf 96)):=zk
noncomputable def z24:Rd Tryz.prog 96 Wn where
 sz:=3
 f:=Wn.f
 ok:=Wn.ok
 len _:=rfl
 keep H hb:=⟨q08.keep H.1 hb,q08.keep H.2.1 hb,q08.keep H.2.2 hb⟩
 trod hl h:=by
  rename_i cs _
  match cs,hl with
  | [v0,v1,v2],_ =>
   obtain⟨_,_,g0⟩:=q00 z08 h 0 3 0 1 zk zk;obtain⟨x0,e0,o0⟩:=q08.trod rfl g0;obtain⟨_,_,g1⟩:=q00 z08 h 1 3 1 1 zk zk;obtain⟨x1,e1,o1⟩:=q08.trod rfl g1;obtain⟨_,_,g2⟩:=q00 z08 h 2 3 2 1 zk zk;obtain⟨x2,e2,o2⟩:=q08.trod rfl g2;cases e0;cases e1;cases e2;exact⟨⟨x0,x1,x2⟩,rfl,o0,o1,o2⟩
noncomputable def qe7:Rd Tryz.prog 92 (Hd Wn):=qgb 92 z24 zk zk zd
structure Md where
 frame:Int
 wins:Hd Wn
abbrev Md.lw (x:Md):Array Value:=#[.int .i64 x.frame,.slice x.wins.A x.wins.l.length x.wins.c]
def Md.f(x:Md):List Value:=[ii x.frame,x.wins.v]
def Md0:Md:=⟨0,⟨none,0,[]⟩⟩
def Md.ok(W:World) (x:Md):Prop:=q08.ok W x.frame/\qe7.ok W x.wins
theorem z1q:Tryz.prog.underlying 94=some (.struct (fieldsOf 94)):=zk
noncomputable def z09:Rd Tryz.prog 94 Md where
 sz:=2
 f:=Md.f
 ok:=Md.ok
 len _:=rfl
 keep H hb:=⟨q08.keep H.1 hb,qe7.keep H.2 hb⟩
 trod hl h:=by
  rename_i cs _
  match cs,hl with
  | [v0,v1],_ =>
   obtain⟨_,_,g0⟩:=q00 z1q h 0 3 0 1 zk zk;obtain⟨x0,e0,o0⟩:=q08.trod rfl g0;obtain⟨_,_,g1⟩:=q00 z1q h 1 92 1 1 zk zk;obtain⟨x1,e1,o1⟩:=qe7.trod rfl g1;cases e0;cases e1;exact⟨⟨x0,x1⟩,rfl,o0,o1⟩
structure Lv where
 freq:Int
 power:Int
abbrev Lv.lw (x:Lv):Array Value:=#[.int .i64 x.freq,.int .i64 x.power]
def Lv.f(x:Lv):List Value:=[ii x.freq,ii x.power]
def Lv0:Lv:=⟨0,0⟩
def Lv.ok(W:World) (x:Lv):Prop:=q08.ok W x.freq/\q08.ok W x.power
theorem z1r:Tryz.prog.underlying 127=some (.struct (fieldsOf 127)):=zk
noncomputable def qxk:Rd Tryz.prog 127 Lv where
 sz:=2
 f:=Lv.f
 ok:=Lv.ok
 len _:=rfl
 keep H hb:=⟨q08.keep H.1 hb,q08.keep H.2 hb⟩
 trod hl h:=by
  rename_i cs _
  match cs,hl with
  | [v0,v1],_ =>
   obtain⟨_,_,g0⟩:=q00 z1r h 0 3 0 1 zk zk;obtain⟨x0,e0,o0⟩:=q08.trod rfl g0;obtain⟨_,_,g1⟩:=q00 z1r h 1 3 1 1 zk zk;obtain⟨x1,e1,o1⟩:=q08.trod rfl g1;cases e0;cases e1;exact⟨⟨x0,x1⟩,rfl,o0,o1⟩
structure Np where
 power:Int
 enter:Int
 wake:Int
abbrev Np.lw (x:Np):Array Value:=#[.int .i64 x.power,.int .i64 x.enter,.int .i64 x.wake]
def Np.f(x:Np):List Value:=[ii x.power,ii x.enter,ii x.wake]
def Np0:Np:=⟨0,0,0⟩
def Np.ok(W:World) (x:Np):Prop:=q08.ok W x.power/\q08.ok W x.enter/\q08.ok W x.wake
theorem z0a:Tryz.prog.underlying 219=some (.struct (fieldsOf 219)):=zk
noncomputable def z1s:Rd Tryz.prog 219 Np where
 sz:=3
 f:=Np.f
 ok:=Np.ok
 len _:=rfl
 keep H hb:=⟨q08.keep H.1 hb,q08.keep H.2.1 hb,q08.keep H.2.2 hb⟩
 trod hl h:=by
  rename_i cs _
  match cs,hl with
  | [v0,v1,v2],_ =>
   obtain⟨_,_,g0⟩:=q00 z0a h 0 3 0 1 zk zk;obtain⟨x0,e0,o0⟩:=q08.trod rfl g0;obtain⟨_,_,g1⟩:=q00 z0a h 1 3 1 1 zk zk;obtain⟨x1,e1,o1⟩:=q08.trod rfl g1;obtain⟨_,_,g2⟩:=q00 z0a h 2 3 2 1 zk zk;obtain⟨x2,e2,o2⟩:=q08.trod rfl g2;cases e0;cases e1;cases e2;exact⟨⟨x0,x1,x2⟩,rfl,o0,o1,o2⟩
noncomputable def qb9:Rd Tryz.prog 25 (Hd Lv):=qgb 25 qxk zk zk zd
noncomputable def qe8:Rd Tryz.prog 26 (Hd Np):=qgb 26 z1s zk zk zd
structure Pw where
 levels:Hd Lv
 naps:Hd Np
 sw:Int
 idle:Int
 change:Int
 quant:Int
 slow:Int
 ppm:Int
abbrev Pw.lw (x:Pw):Array Value:=#[.slice x.levels.A x.levels.l.length x.levels.c,.slice x.naps.A x.naps.l.length x.naps.c,.int .i64 x.sw,.int .i64 x.idle,.int .i64 x.change,.int .i64 x.quant,.int .i64 x.slow,.int .i64 x.ppm]
def Pw.f(x:Pw):List Value:=[x.levels.v,x.naps.v,ii x.sw,ii x.idle,ii x.change,ii x.quant,ii x.slow,ii x.ppm]
def Pw.ok(W:World) (x:Pw):Prop:=qb9.ok W x.levels/\qe8.ok W x.naps/\q08.ok W x.sw/\q08.ok W x.idle/\q08.ok W x.change/\q08.ok W x.quant/\q08.ok W x.slow/\q08.ok W x.ppm
theorem qtn:Tryz.prog.underlying 28=some (.struct (fieldsOf 28)):=zk
noncomputable def q1y:Rd Tryz.prog 28 Pw where
 sz:=8
 f:=Pw.f
 ok:=Pw.ok
 len _:=rfl
 keep H hb:=⟨qb9.keep H.1 hb,qe8.keep H.2.1 hb,q08.keep H.2.2.1 hb,q08.keep H.2.2.2.1 hb,q08.keep H.2.2.2.2.1 hb,q08.keep H.2.2.2.2.2.1 hb,q08.keep H.2.2.2.2.2.2.1 hb,q08.keep H.2.2.2.2.2.2.2 hb⟩
 trod hl h:=by
  rename_i cs _
  match cs,hl with
  | [v0,v1,v2,v3,v4,v5,v6,v7],_ =>
   obtain⟨_,_,g0⟩:=q00 qtn h 0 25 0 1 zk zk;obtain⟨x0,e0,o0⟩:=qb9.trod rfl g0;obtain⟨_,_,g1⟩:=q00 qtn h 1 26 1 1 zk zk;obtain⟨x1,e1,o1⟩:=qe8.trod rfl g1;obtain⟨_,_,g2⟩:=q00 qtn h 2 3 2 1 zk zk;obtain⟨x2,e2,o2⟩:=q08.trod rfl g2;obtain⟨_,_,g3⟩:=q00 qtn h 3 3 3 1 zk zk;obtain⟨x3,e3,o3⟩:=q08.trod rfl g3;obtain⟨_,_,g4⟩:=q00 qtn h 4 3 4 1 zk zk;obtain⟨x4,e4,o4⟩:=q08.trod rfl g4;obtain⟨_,_,g5⟩:=q00 qtn h 5 3 5 1 zk zk;obtain⟨x5,e5,o5⟩:=q08.trod rfl g5;obtain⟨_,_,g6⟩:=q00 qtn h 6 3 6 1 zk zk;obtain⟨x6,e6,o6⟩:=q08.trod rfl g6;obtain⟨_,_,g7⟩:=q00 qtn h 7 3 7 1 zk zk;obtain⟨x7,e7,o7⟩:=q08.trod rfl g7;cases e0;cases e1;cases e2;cases e3;cases e4;cases e5;cases e6;cases e7;exact⟨⟨x0,x1,x2,x3,x4,x5,x6,x7⟩,rfl,o0,o1,o2,o3,o4,o5,o6,o7⟩
structure Sd where
 down:Hd Int
 up:Hd Int
abbrev Sd.lw (x:Sd):Array Value:=#[.slice x.down.A x.down.l.length x.down.c,.slice x.up.A x.up.l.length x.up.c]
def Sd.f(x:Sd):List Value:=[x.down.v,x.up.v]
def Sd.ok(W:World) (x:Sd):Prop:=q1f.ok W x.down/\q1f.ok W x.up
theorem z1t:Tryz.prog.underlying 31=some (.struct (fieldsOf 31)):=zk
noncomputable def qjb:Rd Tryz.prog 31 Sd where
 sz:=2
 f:=Sd.f
 ok:=Sd.ok
 len _:=rfl
 keep H hb:=⟨q1f.keep H.1 hb,q1f.keep H.2 hb⟩
 trod hl h:=by
  rename_i cs _
  match cs,hl with
  | [v0,v1],_ =>
   obtain⟨_,_,g0⟩:=q00 z1t h 0 29 0 1 zk zk;obtain⟨x0,e0,o0⟩:=q1f.trod rfl g0;obtain⟨_,_,g1⟩:=q00 z1t h 1 29 1 1 zk zk;obtain⟨x1,e1,o1⟩:=q1f.trod rfl g1;cases e0;cases e1;exact⟨⟨x0,x1⟩,rfl,o0,o1⟩
noncomputable def q53:Rd Tryz.prog 22 (Hd Pt):=qgb 22 qcu zk zk zd
noncomputable def q54:Rd Tryz.prog 23 (Hd Ch):=qgb 23 qzt zk zk zd
noncomputable def qe9:Rd Tryz.prog 24 (Hd Md):=qgb 24 z09 zk zk zd
structure Cf where
 parts:Hd Pt
 chans:Hd Ch
 modes:Hd Md
 pw:Pw
 shed:Sd
abbrev Cf.lw (x:Cf):Array Value:=#[.slice x.parts.A x.parts.l.length x.parts.c,.slice x.chans.A x.chans.l.length x.chans.c,.slice x.modes.A x.modes.l.length x.modes.c,.slice x.pw.levels.A x.pw.levels.l.length x.pw.levels.c,.slice x.pw.naps.A x.pw.naps.l.length x.pw.naps.c,.int .i64 x.pw.sw,.int .i64 x.pw.idle,.int .i64 x.pw.change,.int .i64 x.pw.quant,.int .i64 x.pw.slow,.int .i64 x.pw.ppm,.slice x.shed.down.A x.shed.down.l.length x.shed.down.c,.slice x.shed.up.A x.shed.up.l.length x.shed.up.c]
def Cf.f(x:Cf):List Value:=[x.parts.v,x.chans.v,x.modes.v,x.pw.levels.v,x.pw.naps.v,ii x.pw.sw,ii x.pw.idle,ii x.pw.change,ii x.pw.quant,ii x.pw.slow,ii x.pw.ppm,x.shed.down.v,x.shed.up.v]
def Cf.ok(W:World) (x:Cf):Prop:=q53.ok W x.parts/\q54.ok W x.chans/\qe9.ok W x.modes/\q1y.ok W x.pw/\qjb.ok W x.shed
theorem qx1:Tryz.prog.underlying 33=some (.struct (fieldsOf 33)):=zk
noncomputable def q1k:Rd Tryz.prog 33 Cf where
 sz:=13
 f:=Cf.f
 ok:=Cf.ok
 len _:=rfl
 keep H hb:=⟨q53.keep H.1 hb,q54.keep H.2.1 hb,qe9.keep H.2.2.1 hb,q1y.keep H.2.2.2.1 hb,qjb.keep H.2.2.2.2 hb⟩
 trod hl h:=by
  rename_i cs _
  match cs,hl with
  | [v0,v1,v2,v3,v4,v5,v6,v7,v8,v9,v10,v11,v12],_ =>
   obtain⟨_,_,g0⟩:=q00 qx1 h 0 22 0 1 zk zk;obtain⟨x0,e0,o0⟩:=q53.trod rfl g0;obtain⟨_,_,g1⟩:=q00 qx1 h 1 23 1 1 zk zk;obtain⟨x1,e1,o1⟩:=q54.trod rfl g1;obtain⟨_,_,g2⟩:=q00 qx1 h 2 24 2 1 zk zk;obtain⟨x2,e2,o2⟩:=qe9.trod rfl g2;obtain⟨_,_,g3⟩:=q00 qx1 h 3 28 3 8 zk zk;obtain⟨x3,e3,o3⟩:=q1y.trod rfl g3;obtain⟨_,_,g4⟩:=q00 qx1 h 4 31 11 2 zk zk;obtain⟨x4,e4,o4⟩:=qjb.trod rfl g4;cases e0;cases e1;cases e2;cases e3;cases e4;exact⟨⟨x0,x1,x2,x3,x4⟩,rfl,o0,o1,o2,o3,o4⟩
end
structure Tn{X:Type} (t sz:Nat) (cl:X->Array Value) (ls:X->List Value) (zc:Array Value) (z:X):Type where
abbrev Tn.t {X:Type} {t sz:Nat} {cl:X->Array Value} {ls:X->List Value} {zc:Array Value} {z:X} (_:Tn t sz cl ls zc z):TypeId:=t
abbrev Tn.sz {X:Type} {t sz:Nat} {cl:X->Array Value} {ls:X->List Value} {zc:Array Value} {z:X} (_:Tn t sz cl ls zc z):Nat:=sz
abbrev Tn.cl {X:Type} {t sz:Nat} {cl:X->Array Value} {ls:X->List Value} {zc:Array Value} {z:X} (_:Tn t sz cl ls zc z):X->Array Value:=cl
abbrev Tn.ls {X:Type} {t sz:Nat} {cl:X->Array Value} {ls:X->List Value} {zc:Array Value} {z:X} (_:Tn t sz cl ls zc z):X->List Value:=ls
abbrev Tn.zc {X:Type} {t sz:Nat} {cl:X->Array Value} {ls:X->List Value} {zc:Array Value} {z:X} (_:Tn t sz cl ls zc z):Array Value:=zc
abbrev Tn.z {X:Type} {t sz:Nat} {cl:X->Array Value} {ls:X->List Value} {zc:Array Value} {z:X} (_:Tn t sz cl ls zc z):X:=z
section
open Go.ChangeShapes Go.WideShapes Go.ChangeAt Go.RowKit Go.Joins
structure Fm where
 reading:Int
 mode:Int
 drift:Int
 choice:Int
abbrev Fm.lw (x:Fm):Array Value:=#[.int .i64 x.reading,.int .i64 x.mode,.int .i64 x.drift,.int .i64 x.choice]
def Fm.f(x:Fm):List Value:=[ii x.reading,ii x.mode,ii x.drift,ii x.choice]
def Fm0:Fm:=⟨0,0,0,0⟩
def Fm.ok(W:World) (x:Fm):Prop:=q08.ok W x.reading/\q08.ok W x.mode/\q08.ok W x.drift/\q08.ok W x.choice
theorem qzw:Tryz.prog.underlying 78=some (.struct (fieldsOf 78)):=zk
noncomputable def z0l:Rd Tryz.prog 78 Fm where
 sz:=4
 f:=Fm.f
 ok:=Fm.ok
 len _:=rfl
 keep H hb:=⟨q08.keep H.1 hb,q08.keep H.2.1 hb,q08.keep H.2.2.1 hb,q08.keep H.2.2.2 hb⟩
 trod hl h:=by
  rename_i cs _
  match cs,hl with
  | [v0,v1,v2,v3],_ =>
   obtain⟨_,_,g0⟩:=q00 qzw h 0 3 0 1 zk zk;obtain⟨x0,e0,o0⟩:=q08.trod rfl g0;obtain⟨_,_,g1⟩:=q00 qzw h 1 3 1 1 zk zk;obtain⟨x1,e1,o1⟩:=q08.trod rfl g1;obtain⟨_,_,g2⟩:=q00 qzw h 2 3 2 1 zk zk;obtain⟨x2,e2,o2⟩:=q08.trod rfl g2;obtain⟨_,_,g3⟩:=q00 qzw h 3 3 3 1 zk zk;obtain⟨x3,e3,o3⟩:=q08.trod rfl g3;cases e0;cases e1;cases e2;cases e3;exact⟨⟨x0,x1,x2,x3⟩,rfl,o0,o1,o2,o3⟩
noncomputable def q91:Rd Tryz.prog 35 (Hd Fm):=qgb 35 z0l zk zk zd
end
end Go.Proofs.YtncfcbohiodnnaaGreat
