/- Parts of this seat's claims. -/
import Derived.Test.YtncfcbohiodnnaaGreatW1
import Derived.Lib.SliceRun
import Derived.StillTailTactics
import Derived.Test.YtncfcbohiodnnaaGreatProg
set_option maxRecDepth 100000
set_option maxHeartbeats 6400000
namespace Go.Proofs.YtncfcbohiodnnaaGreat
open Go.RowKit
variable{w w' W wa wo W':World} {c n pt r B j b m mb q base cap id B0:Nat} {A:Option Addr} {a code what:Int} {cs:Array Value}
def z2u(l:List Oper) (i j:Nat):Bool:=(l[i]?).any λm=>m.after.toList.any λe=>Region.binds .any e && (e.on == j)
def dO(l:List Oper) (j:Nat):Nat:=((l[j]?).bind Oper.dst).getD 0
def z2t(X:Nat->Value) (k:Nat) (v:Value):Nat->Value:=λn=>if n=k then v else X n
theorem z2v{X:Nat->Value} {k:Nat} {v:Value} (h:X k=v):∃ Y,X=z2t Y k v:=⟨X,funext λn=>by
 unfold z2t;split
 .rename_i e;rw[e,h]
 .rfl⟩
def z2w(l:List Oper) (z:Nat):Bool:=l.length == z + 1 && ((List.range z).all λj=>(List.range (z + 1)).any λk=>decide (j < k) && z2u l k j) && (List.range z).all λi=>(List.range z).all λj=>i == j || dO l i != dO l j
theorem z2p{l:List Oper} {L:Array Bool} {i:Nat} (hi:i ∈ Region.ready .any l.toArray L) (h:z2u l i j=true):L.getD j false=true:=by
 obtain⟨_,o,ho,hl⟩:=mem_ready.1 hi;have h0:l[i]?=some o:=by simpa using ho
 unfold z2u at h;rw[h0]at h
 obtain⟨e,he,h1⟩:=List.any_eq_true.1 (show(o.after.toList.any λe=>Region.binds .any e && (e.on == j))=true from h);simp only[Bool.and_eq_true,beq_iff_eq]at h1;rw[<- h1.2];exact hl e (Array.mem_toList_iff.1 he) h1.1
theorem z2q{P:Program} {a:Act} {Q:Exit->Act->World->Prop} {l:List Oper} (z:Nat) (F:(Nat->Value)->Act) (X0:Nat->Value) (G:Nat->Value->World->Prop) (R:Act->World->Prop)
  (hm:P.follows .mixedOrders=true) (hd:z00 .any l.toArray=true) (hc:z2w l z=true) (h0:a=F X0)
  (hG:∀ j v u u',G j v u->bW u u'->G j v u')
  (hs:∀ i,i < z->∀ X u,bW w u->(∀ j,j < z->z2u l i j=true->G j (X (dO l j)) u)->q66 P l.toArray i (λa' u'=>∃ v,a'=F (z2t X (dO l i) v)/\bW u u'/\G i v u') (F X) u)
  (hz:∀ X u,bW w u->(∀ j,j < z->G j (X (dO l j)) u)->q66 P l.toArray z R (F X) u)
  (hQ:∀ a' u,R a' u->Q .normal a' u):(Code.region id l.toArray true).wp P Q a w:=by
 simp only[z2w,Bool.and_eq_true,beq_iff_eq,List.all_eq_true,List.mem_range,List.any_eq_true,decide_eq_true_eq,Bool.or_eq_true,bne_iff_ne]at hc;obtain⟨⟨hn,h8⟩,hp⟩:=hc;have h4:∀ (L:Array Bool),(∀ k j,L.getD k false=true->z2u l k j=true->L.getD j false=true)->(∀ j,z2u l z j=true->L.getD j false=true)->∀ j,j < z->L.getD j false=true:=by
  intro L h3 hz;have hr:∀ m j,j < z->z - j<=m->L.getD j false=true:=by
   intro m
   induction m with
   | zero=>intro j hj h;omega
   | succ m ih =>
    intro j hj h;obtain⟨k,hk,hjk,he⟩:=h8 j hj;by_cases hh:k=z
    .exact hz j (hh ▸ he)
    .exact h3 k j (ih k zo zo) he
  exact λj hj=>hr _ j hj nL
 refine qdt (λL a' u=>(∀ k j,L.getD k false=true->z2u l k j=true->L.getD j false=true)/\((L.getD z false=true/\R a' u)\/(L.getD z false=false/\∃ X,a'=F X/\bW w u/\∀ j,j < z->L.getD j false=true->G j (X (dO l j)) u))) hm hd ?_ ?_ ?_
 .have hf:∀ k,(Array.replicate l.length false).getD k false=false:=λk=>by
   rw[Array.getD_eq_getD_getElem?,Array.getElem?_replicate];split <;> rfl
  exact⟨λk j h=>(by rw[hf]at h;cases h),.inr ⟨hf z,X0,h0,bR.drew,λj _ h=>(by rw[hf]at h;cases h)⟩⟩
 .rintro L a' u i hL ⟨h3,hJ⟩ hi;have hg:i < L.size:=by have:=q47 hi;omega
  have h6:L.getD i false=false:=by
   have h:=(mem_ready.1 hi).1;rw[Array.getD_eq_getD_getElem?,Array.getElem?_eq_getElem hg]at h ⊢
   exact h
  have hsz:l.toArray.size=z + 1:=by simpa using hn
  have ha:(L.setIfInBounds i true).getD i false=true:=by
   rw[Array.getD_eq_getD_getElem?,Array.getElem?_setIfInBounds_self_of_lt hg];rfl
  have h5:∀ k j,(L.setIfInBounds i true).getD k false=true->z2u l k j=true->(L.setIfInBounds i true).getD j false=true:=by
   intro k j h1 h2;by_cases hk:i=k
   .subst hk;exact getD_set_true (z2p hi h2)
   .rw[getD_set_ne false hk]at h1
    exact getD_set_true (h3 k j h1 h2)
  rcases hJ with ⟨hz1,-⟩ | ⟨hz0,X,rfl,hB,hX⟩
  .exfalso;by_cases h7:i=z
   .rw[h7,hz1]at h6;cases h6
   .have:=h4 L h3 (λj h=>h3 z j hz1 h) i zo;rw[this]at h6;cases h6
  .by_cases h7:i=z
   .subst h7;exact q1v (λa' u' h=>⟨h5,.inl ⟨ha,h⟩⟩) (hz X u hB λj hj=>hX j hj (h4 L h3 (λj h=>z2p hi h) j hj))
   .refine q1v (λa' u' h=>⟨h5,.inr ⟨by rw[getD_set_ne false h7];exact hz0,?_⟩⟩) (hs i zo X u hB λj hj h=>hX j hj (z2p hi h));obtain⟨v,rfl,hb,hv⟩:=h;refine⟨_,rfl,hB.trans (hb.mono hB.size),λj hj hl=>?_⟩;unfold z2t;by_cases h9:i=j
    .subst h9;rw[if_pos rfl];exact hv
    .rw[getD_set_ne false h9]at hl
     rw[if_neg (λe=>((hp i zo j hj).elim h9 λh=>h e.symm))];exact hG _ _ _ _ (hX j hj hl) hb
 .rintro L a' u ⟨-,hJ⟩ hl;have hq:=hl z zo;rcases hJ with ⟨-,h⟩ | ⟨h,-⟩
  .exact hQ _ _ h
  .rw[hq]at h;cases h
def frX(t:Array Value) (ds:List Nat) (X:Nat->Value):Array Value:=ds.foldl (λt k=>t.setIfInBounds k (X k)) t
def z2y:Nat->(Nat->Prop)->Prop
 | 0,_=>True
 | n + 1,p=>z2y n p/\p n
theorem z2x{p:Nat->Prop} : ∀ {n:Nat},z2y n p↔∀ j,j < n->p j
 | 0=>by simp[z2y]
 | n + 1=>by
  rw[z2y,z2x];exact⟨λh j hj=>by
   by_cases q:j=n
   .rw[q];exact h.2
   .exact h.1 j zo,λh=>⟨λj hj=>h j zo,h n zo⟩⟩
theorem z2s:∀ (ds:List Nat) (t:Array Value),frX t ds (λk=>t.getD k undef)=t
 | [],_=>rfl
 | d :: ds,t=>by
  show frX (t.setIfInBounds d (t.getD d undef)) ds (λk=>t.getD k undef)=t;have e:t.setIfInBounds d (t.getD d undef)=t:=by
   apply Array.ext_getElem?;intro i;by_cases h:d=i
   .subst h;by_cases hl:d < t.size
    .rw[Array.getElem?_setIfInBounds_self_of_lt hl,Array.getD_eq_getD_getElem?,Array.getElem?_eq_getElem hl];rfl
    .rw[Array.getElem?_eq_none (by simpa using hl),Array.getElem?_eq_none (by simpa using hl)]
   .rw[Array.getElem?_setIfInBounds_ne h]
  rw[e];exact z2s ds t
def setL(ds:List Nat) (vs:List Value):List Nat->(Nat->Value)->Nat->Value
 | [],X=>X
 | j :: r,X=>z2t (setL ds vs r X) (ds.getD j 0) (vs.getD j undef)
theorem z2r{ds:List Nat} {vs:List Value} {X:Nat->Value} : ∀ {r:List Nat},(∀ j ∈ r,X (ds.getD j 0)=vs.getD j undef)->setL ds vs r X=X
 | [],_=>rfl
 | j :: r,h=>by
  rw[setL,z2r λk hk=>h k (List.mem_cons_of_mem _ hk)];funext n
  unfold z2t;split
  .rename_i e;rw[e,h j zp]
  .rfl
theorem z2o{P:Program} {t:Array Value} {Q:Exit->Act->World->Prop} {l:List Oper} (z p:Nat) (ds:List Nat) (dl:List (List Nat)) (vs:List Value) (T:TypeId) (cs:Array Value)
  (hm:P.follows .mixedOrders=true) (hd:(z00 .any l.toArray && z2w l z && ((List.range z).all λi=>!(z2u l i p)) && ((List.range z).all λi=>ds.getD i 0 == dO l i) && ((List.range z).all λi=>(dl.getD i []).all λj=>decide (j < z) && z2u l i j))=true) (hp:p < z)
  (hs:z2y z λi=>i≠p->∀ X u,bW w u->q66 P l.toArray i (λa' u'=>a'=⟨frX t ds (z2t (setL ds vs (dl.getD i []) X) (ds.getD i 0) (vs.getD i undef)),[]⟩/\bW u u') ⟨frX t ds (setL ds vs (dl.getD i []) X),[]⟩ u)
  (hf:∀ X u,bW w u->q66 P l.toArray p (λa' u'=>∃ q,a'=⟨frX t ds (z2t X (ds.getD p 0) (pp q)),[]⟩/\bW u u'/\Blk u' q T cs/\u.heap.size<=q) ⟨frX t ds X,[]⟩ u)
  (hz:∀ X u q,bW w u->(∀ j,j < z->j≠p->X (ds.getD j 0)=vs.getD j undef)->X (ds.getD p 0)=pp q->Blk u q T cs->w.heap.size<=q->q66 P l.toArray z (λa' u'=>Q .normal a' u') ⟨frX t ds X,[]⟩ u) :
  (Code.region id l.toArray true).wp P Q ⟨t,[]⟩ w:=by
 simp only[Bool.and_eq_true,List.all_eq_true,List.mem_range,Bool.not_eq_true',beq_iff_eq,decide_eq_true_eq]at hd;obtain⟨⟨⟨⟨h1,h2⟩,h3⟩,h4⟩,h6⟩:=hd;refine z2q z (λX=>⟨frX t ds X,[]⟩) (λk=>t.getD k undef) (λj v u=>if j=p then ∃ q,v=pp q/\Blk u q T cs/\w.heap.size<=q else v=vs.getD j undef) (λa u=>Q .normal a u) hm h1 h2 (by rw[z2s]) ?_ ?_ ?_ (λ_ _ h=>h)
 .intro j v u u' h hb;split at h
  .rename_i e;rw[if_pos e];obtain⟨q,h1,h2,h3⟩:=h;exact⟨q,h1,h2.keep hb,h3⟩
  .rename_i e;rw[if_neg e];exact h
 .intro i hi X u hB hg;by_cases e:i=p
  .subst e;refine q1v (λa' u' h=>?_) (hf X u hB);obtain⟨q,h1,h2,h3,h5⟩:=h;exact⟨_,by rw[h1,h4 i hi],h2,by rw[if_pos rfl];exact⟨q,rfl,h3,Nat.le_trans hB.size h5⟩⟩
  .have hX:setL ds vs (dl.getD i []) X=X:=z2r λj hj=>by
    obtain⟨h7,h0⟩:=h6 i hi j hj;have:=hg j h7 h0;rw[if_neg (λe=>by rw[e,h3 i hi]at h0;cases h0)]at this
    rw[h4 j h7];exact this
   have:=(z2x.1 hs) i hi e X u hB;rw[hX]at this
   exact q1v (λa' u' h=>⟨vs.getD i undef,by rw[h.1,h4 i hi],h.2,by rw[if_neg e]⟩) this
 .intro X u hB hg;obtain⟨q,h1,h2,h3⟩:∃ q,X (dO l p)=pp q/\Blk u q T cs/\w.heap.size<=q:=by
   have:=hg p hp;rwa [if_pos rfl]at this
  exact hz X u q hB (λj hj e=>by have:=hg j hj;rw[h4 j hj];rwa [if_neg e]at this) (by rw[h4 p hp];exact h1) h2 h3
section
variable{P:Program} {ops:Array Oper} {md:Region.Mode}
def qxf(md:Region.Mode) (ops:Array Oper) (bar:Nat->Nat):Prop:=∀ i j,2<=bar j->i < ops.size->j < ops.size->i≠j->(q24 md i ops.toList 0 #[]).getD j false=true\/(q24 md j ops.toList 0 #[]).getD i false=true
theorem qwl{bar:Nat->Nat} {listed:Array Bool} {i j:Nat} (hF:qxf md ops bar) (hcl:q2f md ops listed) (hi:i ∈ Region.ready md ops listed) (hj:j ∈ Region.ready md ops listed) (hij:i≠j):bar j<=1:=by
 rcases Nat.lt_or_ge 1 (bar j) with h | h
 .rcases hF i j (by omega) (q47 hi) (q47 hj) hij with hr | hr
  .rw[q67 hcl hi hj hij]at hr
   cases hr
  .rw[q67 hcl hj hi (Ne.symm hij)]at hr
   cases hr
 .exact h
theorem qaw{mv:Nat->Bool} {bar:Nat->Nat} (hF:qxf md ops bar) {Q:Act->World->Prop} {i:Nat} {oi:Oper} {v:Value} (hi:ops[i]?=some oi) (hmi:mv i=false) (hci:q3m oi=true) (hsel:∀ (j:Nat) (o:Oper) cs b,ops[j]?=some o->o.op ≠ .select cs b) :
  ∀ (fuel:Nat) (C:World->Prop) (listed:Array Bool) (a:Act) (w:World),
   (∀ j oj,ops[j]?=some oj->j≠i->listed.getD j true=false->(∀ e ∈ oj.after,Region.binds md e=true->e.on≠i)->oi.apart ops oj=true) ->
   q2f md ops listed->i ∈ Region.ready md ops listed->YieldsIn P ops C oi v a ->
   q23 P md ops mv bar Q fuel C (listed.setIfInBounds i true) (a.put oi.dst v) w->q23 P md ops mv bar Q (fuel + 1) C listed a w:=by
 intro fuel
 induction fuel with
 | zero =>
  intro C listed a w _ _ hr hy H;refine⟨λh=>(by rw[h]at hr;cases hr),λj hj=>?_⟩;by_cases hji:j=i
  .subst hji;rw[hmi,if_neg Bool.false_ne_true];exact hy.qOp hi H
  .have:=ready_mono hj hji;rw[H.1]at this
   cases this
 | succ fuel ih =>
  intro C listed a w hfree hcl hr hy H;refine⟨λh=>(by rw[h]at hr;cases hr),λj hj=>?_⟩;by_cases hji:j=i
  .subst hji;rw[hmi,if_neg Bool.false_ne_true];exact hy.qOp hi H
  .have h1:=H.2 j (ready_mono hj hji);obtain⟨hjun,oj,hoj,hall⟩:=mem_ready.1 hj;have hap:=hfree j oj hoj hji hjun (qj8 hr hall);obtain⟨p1,p2,p3⟩:=Oper.apart_spec hap;have hfree':=q4j (md:=md) (ops:=ops) (oi:=oi) hjun hfree;have keep:∀ u,YieldsIn P ops C oi v (a.put oj.dst u):=λu =>
    hy.of_same (execOp_put oi (λcs b=>hsel i oi cs b hi) a oj.dst u p3) (wanted_put oi a oj.dst u p3)
   cases hmj:mv j
   .rw[hmj,if_neg Bool.false_ne_true]at h1
    rw[if_neg Bool.false_ne_true];have h2:=qOp_put hoj hap (λcs b=>hsel i oi cs b hi) (λcs b=>hsel j oj cs b hoj) hy h1;refine qOp_mono (λa' h3=>ih C (listed.setIfInBounds j true) a' w hfree' (hcl.step hj) (ready_mono hr (Ne.symm hji)) h3.1 ?_) h2;rw[Array.setIfInBounds_comm _ _ hji];exact h3.2
   .rw[hmj,if_pos rfl]at h1
    rw[if_pos rfl];have hbj:=qwl hF hcl hr hj (Ne.symm hji);refine q3j hoj (execOp_put oj (λcs b=>hsel j oj cs b hoj) a oi.dst v p1).symm (wanted_put oj a oi.dst v p1).symm (λu w' hk=>?_) h1;obtain⟨C',hC',hw',hk⟩:=hk;refine⟨C',hC',hw',ih C' (listed.setIfInBounds j true) (a.put oj.dst u) w' hfree' (hcl.step hj) (ready_mono hr (Ne.symm hji)) (q9p hci (hC'.2 hbj) (keep u)) ?_⟩;rw[Array.setIfInBounds_comm _ _ hji,<- Act.put_comm a v u p2];exact hk
theorem qhp{mv:Nat->Bool} {bar:Nat->Nat} {C:World->Prop} (_hF:qxf md ops bar) {Q:Act->World->Prop} {i:Nat} {oi:Oper} (hi:ops[i]?=some oi) (hmi:mv i=true) (hsel:∀ (j:Nat) (o:Oper) cs b,ops[j]?=some o->o.op ≠ .select cs b)
  (hcalm:∀ j o,ops[j]?=some o->mv j=false->q3m o=true)  :
  ∀ (fuel:Nat) (listed:Array Bool) (a:Act) (w:World),
   (∀ j oj,ops[j]?=some oj->j≠i->listed.getD j true=false->(∀ e ∈ oj.after,Region.binds md e=true->e.on≠i)->oi.apart ops oj=true) ->
   q2f md ops listed->(∀ j,j < ops.size->listed.getD j true=false->j≠i->(mv j=true\/1<=bar i)->(q24 md i ops.toList 0 #[]).getD j false=true)->i ∈ Region.ready md ops listed->C w ->
   q66 P ops i (λa' w'=>∃ C':World->Prop,Stp (bar i) C C'/\C' w'/\q23 P md ops mv bar Q fuel C' (listed.setIfInBounds i true) a' w') a w->q23 P md ops mv bar Q (fuel + 1) C listed a w:=by
 intro fuel
 induction fuel with
 | zero =>
  intro listed a w _ _ _ hr _ H;refine⟨λh=>(by rw[h]at hr;cases hr),λj hj=>?_⟩;by_cases hji:j=i
  .subst hji;rw[hmi,if_pos rfl];exact H
  .obtain⟨u,w',C',_,_,hk⟩:=q4i hi H;have:=ready_mono hj hji;rw[hk.1]at this
   cases this
 | succ fuel ih =>
  intro listed a w hfree hcl hlow hr hw H;refine⟨λh=>(by rw[h]at hr;cases hr),λj hj=>?_⟩;by_cases hji:j=i
  .subst hji;rw[hmi,if_pos rfl];exact H
  .obtain⟨hjun,oj,hoj,hall⟩:=mem_ready.1 hj;have hjsz:j < ops.size:=(Array.getElem?_eq_some_iff.1 hoj).1;have hno:=q67 hcl hr hj (Ne.symm hji);have hmj:mv j=false:=by
    cases hmj:mv j with
    | false=>rfl
    | true =>
     rw[hlow j hjsz hjun hji (.inl hmj)]at hno
     cases hno
   have hbi:bar i=0:=by
    rcases Nat.lt_or_ge 0 (bar i) with h | h
    .rw[hlow j hjsz hjun hji (.inr h)]at hno
     cases hno
    .omega
   have hap:=hfree j oj hoj hji hjun (qj8 hr hall);obtain⟨p1,p2,p3⟩:=Oper.apart_spec hap;have hsi:∀ cs b,oi.op ≠ .select cs b:=λcs b=>hsel i oi cs b hi;have hsj:∀ cs b,oj.op ≠ .select cs b:=λcs b=>hsel j oj cs b hoj;have hr':=ready_mono hj hji;have move:∀ u v,YieldsIn P ops C oj v (a.put oi.dst u)->YieldsIn P ops C oj v a:=λu v h =>
    h.of_same (execOp_put oj hsj a oi.dst u p1).symm (wanted_put oj a oi.dst u p1).symm
   obtain⟨u0,w0,C0,hC0,_,hk0⟩:=q4i hi H;cases hC0.1 hbi;have hq:=hk0.2 j hr';rw[hmj,if_neg Bool.false_ne_true]at hq
   obtain⟨v,hy,_⟩:=yieldsIn_of_qOp hoj hq;have hya:=move _ _ hy;rw[hmj,if_neg Bool.false_ne_true];refine hya.qOp hoj ?_;refine ih (listed.setIfInBounds j true) (a.put oj.dst v) w (q4j (md:=md) (ops:=ops) (oi:=oi) hjun hfree) (hcl.step hj) (λk hks hku hki hor=>?_) (ready_mono hr (Ne.symm hji)) hw ?_
   .refine hlow k hks ?_ hki hor;by_cases hkj:j=k
    .subst hkj;exact hjun
    .rw[getD_set_ne true hkj]at hku;exact hku
   .refine q3j hi (execOp_put oi hsi a oj.dst v p3) (wanted_put oi a oj.dst v p3) (λu w' hk=>?_) H;obtain⟨C',hC',hw',hk⟩:=hk;cases hC'.1 hbi;refine⟨C,Stp.refl _ _,hw',?_⟩;have hq':=hk.2 j hr';rw[hmj,if_neg Bool.false_ne_true]at hq'
    obtain⟨v',hy',hk'⟩:=yieldsIn_of_qOp hoj hq';have:=q3n hw (hcalm j oj hoj hmj) hya (move _ _ hy');subst this;rw[Array.setIfInBounds_comm _ _ hji,Act.put_comm a v u (λd hd h=>p2 d h hd)];exact hk'
def q4c(P:Program) (ops:Array Oper) (mv:Nat->Bool) (bar:Nat->Nat) (Q:Act->World->Prop):List Nat->(World->Prop)->Act->World->Prop
 | [],_,a,w=>Q a w
 | i :: r,C,a,w=>∃ o,ops[i]?=some o/\if Region.wanted o (yielded ops a.tmps) then (if mv i then wpN P o a w (λa' w'=>∃ C':World->Prop,Stp (bar i) C C'/\C' w'/\q4c P ops mv bar Q r C' a' w') else o.quiet P a C (λa'=>q4c P ops mv bar Q r C a' w)) else q4c P ops mv bar Q r C (a.put o.dst undef) w
def q8l(md:Region.Mode) (ops:Array Oper) (mv:Nat->Bool) (bar:Nat->Nat):List Nat->Array Bool->Bool
 | [],listed=>(Region.ready md ops listed).isEmpty
 | i :: r,listed=>(Region.ready md ops listed).contains i && Region.free md ops listed i &&
   ((List.range ops.size).all λj=>listed.getD j true || j == i || !(mv i) || !(mv j || decide (1<=bar i)) || (q24 md i ops.toList 0 #[]).getD j false) && q8l md ops mv bar r (listed.setIfInBounds i true)
theorem q9m{mv:Nat->Bool} {bar:Nat->Nat} (hF:qxf md ops bar) {Q:Act->World->Prop} (hs:Region.noSelect ops=true) (hcalm:∀ j o,ops[j]?=some o->mv j=false->q3m o=true):∀ (l:List Nat) (C:World->Prop) (listed:Array Bool) (a:Act) (w:World),
  q8l md ops mv bar l listed=true->q2f md ops listed->C w->q4c P ops mv bar Q l C a w->q23 P md ops mv bar Q l.length C listed a w
 | [],_,_,_,_,hB,_,_,h=>⟨by simpa [q8l] using hB,h⟩
 | k :: l,C,listed,a,w,hB,hcl,hw,h=>by
  obtain⟨o,h0,h⟩:=h;simp only[q8l,Bool.and_eq_true]at hB;obtain⟨⟨⟨hr,hf⟩,hm⟩,hB'⟩:=hB;have hr':k ∈ Region.ready md ops listed:=by simpa using hr
  cases hmk:mv k with
  | false =>
   have hst:qOp P ops C k (λa'=>q4c P ops mv bar Q l C a' w) a:=by
    unfold qOp;simp only[h0];simp only[hmk,Bool.false_eq_true,if_false]at h;exact h
   obtain⟨v,hy,hK⟩:=yieldsIn_of_qOp h0 hst;exact qaw hF h0 hmk (hcalm k o h0 hmk) (Region.noSelect_spec hs) l.length C listed a w (Region.free_spec h0 hf) hcl hr' hy
    (q9m hF hs hcalm l C _ _ w hB' (hcl.step hr') hw hK)
  | true =>
   have hmvo:q66 P ops k (λa' w'=>∃ C':World->Prop,Stp (bar k) C C'/\C' w'/\q4c P ops mv bar Q l C' a' w') a w:=by
    unfold q66;simp only[h0];simp only[hmk,if_true]at h;split
    .rename_i hwd;rw[if_pos hwd]at h;exact h
    .rename_i hwd;rw[if_neg hwd]at h;exact⟨C,Stp.refl _ _,hw,h⟩
   simp only[List.all_eq_true,List.mem_range]at hm;refine qhp hF h0 hmk (Region.noSelect_spec hs) hcalm l.length listed a w (Region.free_spec h0 hf) hcl (λj hjs hju hji hor=>?_) hr' hw
    (q1v (λa' w' hk=>by
     obtain⟨C',hC',hw',hk⟩:=hk;exact⟨C',hC',hw',q9m hF hs hcalm l C' _ _ w' hB' (hcl.step hr') hw' hk⟩) hmvo)
   have:=hm j hjs;have hji':(j == k)=false:=by simpa using hji
   have hor':(mv j || decide (1<=bar k))=true:=by
    rcases hor with h | h
    .rw[h];rfl
    .rw[decide_eq_true h];simp
   rw[hju,hji',hmk,hor']at this
   simpa using this
def qwm(ops:Array Oper) (bar:Nat->Nat):Bool:=(List.range ops.size).all λj=>!(decide (2<=bar j)) || (List.range ops.size).all λi=>i == j || (q24 .any i ops.toList 0 #[]).getD j false || (q24 .any j ops.toList 0 #[]).getD i false
theorem qt4{bar:Nat->Nat} (h:qwm ops bar=true):qxf .any ops bar:=λi j hj hi hjs hij=>by
 simp only[qwm,List.all_eq_true,List.mem_range,Bool.or_eq_true,Bool.not_eq_true',decide_eq_false_iff_not,beq_iff_eq]at h;rcases h j hjs with h1 | h1
 .exact absurd hj h1
 .rcases h1 i hi with (h2 | h2) | h2
  .exact absurd h2 hij
  .exact .inl h2
  .exact .inr h2
end
def q71(l:List Oper):List Nat->List Oper
 | []=>[]
 | i :: r=>(l.drop i).take 1 ++ q71 l r
theorem qax{l:List Oper} : ∀ (ord:List Nat),(∀ i ∈ ord,i < l.length)->∀ k:Nat,(q71 l ord)[k]?=(ord[k]?).bind (λ(i:Nat)=>l[i]?)
 | [],_,k=>by simp[q71]
 | i :: r,h,k=>by
  have hi:i < l.length:=h i (by simp);have e:(l.drop i).take 1 = [l[i]]:=by rw[List.drop_eq_getElem_cons hi];rfl
  unfold q71;rw[e];cases k with
  | zero=>simp[hi]
  | succ k =>
   have:=qax r (λj hj=>h j (by simp[hj])) k;simpa using this
theorem qay{l:List Oper} : ∀ (ord:List Nat),(∀ i ∈ ord,i < l.length)->(q71 l ord).length=ord.length
 | [],_=>rfl
 | i :: r,h=>by
  have hi:=h i (by simp);rw[show q71 l (i :: r)=(l.drop i).take 1 ++ q71 l r from rfl,List.length_append,qay r (λj hj=>h j (by simp[hj])),List.length_take,List.length_drop,List.length_cons];omega
section
variable{P:Program} {ops:Array Oper}
theorem q65{mvK:Nat->Bool} {barK:Nat->Nat} {mv:Nat->Bool} {bar:Nat->Nat} {Q:Act->World->Prop} : ∀ (ord:List Nat) (l:List Oper) (k:Nat) (C:World->Prop) (a:Act) (w:World),(∀ j:Nat,l[j]?=(ord[j]?).bind (λ(i:Nat)=>ops[i]?))->l.length=ord.length->(∀ j i:Nat,ord[j]?=some i->mvK (k + j)=mv i/\barK (k + j)=bar i) ->
  q2w P ops mvK barK Q l k C a w->q4c P ops mv bar Q ord C a w
 | [],[],_,_,_,_,_,_,_,h=>h
 | [],_ :: _,_,_,_,_,_,hl,_,_=>by simp at hl
 | _ :: _,[],_,_,_,_,_,hl,_,_=>by simp at hl
 | i :: ord,o :: l,k,C,a,w,hg,hl,hm,h=>by
  have h0:ops[i]?=some o:=by have:=hg 0;simpa using this.symm
  obtain⟨m0,b0⟩:=hm 0 i rfl;rw[Nat.add_zero]at m0 b0
  have hg':∀ j:Nat,l[j]?=(ord[j]?).bind (λ(i:Nat)=>ops[i]?):=λj=>by have:=hg (j + 1);simpa using this
  have hm':∀ j i:Nat,ord[j]?=some i->mvK (k + 1 + j)=mv i/\barK (k + 1 + j)=bar i:=λj i hi=>by have:=hm (j + 1) i (by simpa using hi);rwa [show k + (j + 1)=k + 1 + j by omega]at this
  have hl':l.length=ord.length:=by simpa using hl
  unfold q2w at h;refine⟨o,h0,?_⟩;split
  .rename_i hw;rw[if_pos hw]at h
   rw[<- m0];split
   .rename_i hmv;rw[if_pos hmv]at h
    refine q4x (λu w' hk=>?_) h;obtain⟨C',hC',hw',hk⟩:=hk;exact⟨C',by rw[<- b0];exact hC',hw',q65 ord l (k + 1) C' _ w' hg' hl' hm' hk⟩
   .rename_i hmv;rw[if_neg hmv]at h
    exact Oper.quiet_mono (λa' h'=>q65 ord l (k + 1) C a' w hg' hl' hm' h') h
  .rename_i hw;rw[if_neg hw]at h
   exact q65 ord l (k + 1) C _ w hg' hl' hm' h
end
section
variable{P:Program} {ops:Array Oper} {md:Region.Mode}
def qze(md:Region.Mode) (ops:Array Oper) (mv:Nat->Bool) (bar:Nat->Nat) (i p:Nat) (r:List Nat):List Nat->Array Bool->Bool
 | [],listed=>(Region.ready md ops listed).contains i && ((Region.ready md ops listed).all λx=>x == i || x == p) && q8l md ops mv bar (p :: r) (listed.setIfInBounds i true) && q8l md ops mv bar (i :: r) (listed.setIfInBounds p true)
 | k :: pre,listed=>(Region.ready md ops listed).contains k && Region.free md ops listed k && !(mv k) && qze md ops mv bar i p r pre (listed.setIfInBounds k true)
theorem qu7{mv:Nat->Bool} {bar:Nat->Nat} {Q:Act->World->Prop} {k:Nat} {l:List Nat} {C:World->Prop} {a:Act} {w:World} (hmk:mv k=true) (hw:C w) (h:q4c P ops mv bar Q (k :: l) C a w) :
  q66 P ops k (λa' w'=>∃ C':World->Prop,Stp (bar k) C C'/\C' w'/\q4c P ops mv bar Q l C' a' w') a w:=by
 obtain⟨o,h0,h⟩:=h;unfold q66;simp only[h0];simp only[hmk,if_true]at h;split
 .rename_i hwd;rw[if_pos hwd]at h;exact h
 .rename_i hwd;rw[if_neg hwd]at h;exact⟨C,Stp.refl _ _,hw,h⟩
theorem qj6{mv:Nat->Bool} {bar:Nat->Nat} (hF:qxf md ops bar) {Q:Act->World->Prop} (hs:Region.noSelect ops=true) (hcalm:∀ j o,ops[j]?=some o->mv j=false->q3m o=true) {i p:Nat} (hmi:mv i=true) (hmp:mv p=true) {r:List Nat} : ∀ (pre:List Nat) (C:World->Prop) (listed:Array Bool) (a:Act) (w:World),
  qze md ops mv bar i p r pre listed=true->q2f md ops listed->C w->q4c P ops mv bar Q (pre ++ i :: p :: r) C a w->q4c P ops mv bar Q (pre ++ p :: i :: r) C a w->q23 P md ops mv bar Q (pre ++ i :: p :: r).length C listed a w
 | [],C,listed,a,w,hB,hcl,hw,hA,hA2=>by
  simp only[qze,Bool.and_eq_true,List.all_eq_true,Bool.or_eq_true,beq_iff_eq]at hB;obtain⟨⟨⟨h1,h2⟩,h3⟩,h4⟩:=hB;refine⟨λh=>by rw[h]at h1;simp at h1,λx hx=>?_⟩;rcases h2 x hx with rfl | rfl
  .rw[hmi,if_pos rfl];refine q1v (λa' w' hk=>?_) (qu7 hmi hw hA);obtain⟨C',hC',hw',hk⟩:=hk;exact⟨C',hC',hw',q9m hF hs hcalm _ C' _ _ w' h3 (hcl.step hx) hw' hk⟩
  .rw[hmp,if_pos rfl];refine q1v (λa' w' hk=>?_) (qu7 hmp hw hA2);obtain⟨C',hC',hw',hk⟩:=hk;exact⟨C',hC',hw',(q9m hF hs hcalm (i :: r) C' _ _ w' h4 (hcl.step hx) hw' hk:q23 P md ops mv bar Q (i :: r).length C' _ a' w')⟩
 | k :: pre,C,listed,a,w,hB,hcl,hw,hA,hA2=>by
  simp only[qze,Bool.and_eq_true]at hB;obtain⟨⟨⟨hr,hf⟩,hm⟩,hB'⟩:=hB;have hmk:mv k=false:=by simpa using hm
  have hr':k ∈ Region.ready md ops listed:=by simpa using hr
  have key:∀ l,q4c P ops mv bar Q (k :: l) C a w->∃ o v,ops[k]?=some o/\YieldsIn P ops C o v a/\q4c P ops mv bar Q l C (a.put o.dst v) w:=by
   rintro l ⟨o,h0,h⟩;have hst:qOp P ops C k (λa'=>q4c P ops mv bar Q l C a' w) a:=by
    unfold qOp;simp only[h0];simp only[hmk,Bool.false_eq_true,if_false]at h;exact h
   obtain⟨v,hy,hK⟩:=yieldsIn_of_qOp h0 hst;exact⟨o,v,h0,hy,hK⟩
  obtain⟨o,v,h0,hy,hK⟩:=key _ hA;obtain⟨o2,v2,h02,hy2,hK2⟩:=key _ hA2;rw[h0]at h02
  cases h02;have:=q3n hw (hcalm k o h0 hmk) hy hy2;subst this;exact qaw hF h0 hmk (hcalm k o h0 hmk) (Region.noSelect_spec hs) _ C listed a w (Region.free_spec h0 hf) hcl hr' hy
   (qj6 hF hs hcalm hmi hmp pre C _ _ w hB' (hcl.step hr') hw hK hK2)
end
def qu8(l:List Oper) (pre:List Nat) (i p:Nat) (r:List Nat) (ns:List (Nat×Nat)) (ord ord2:List Nat):Bool :=
 (pre ++ i :: p :: r == ord) && (pre ++ p :: i :: r == ord2) && decide (ord.length=l.length) && (ord.all λi=>decide (i < l.length)) && ((List.range ord.length).all λk=>(ord.getD k 0 |> λi=>ord.idxOf i == k)) && Region.noSelect l.toArray &&
 ((List.range l.length).all λj=>q4w (ns.map Prod.fst) (ord.idxOf j) || (l[j]?).all q3m) && qze .any l.toArray (λi=>q4w (ns.map Prod.fst) (ord.idxOf i)) (λi=>q0k ns (ord.idxOf i)) i p r pre (Array.replicate l.length false) && qwm l.toArray (λi=>q0k ns (ord.idxOf i)) &&
 q4w (ns.map Prod.fst) (ord.idxOf i) && q4w (ns.map Prod.fst) (ord.idxOf p) && (ord2.all λi=>decide (i < l.length)) && decide (ord2.length=l.length) &&
 ((List.range ord2.length).all λk=>(q4w (ns.map Prod.fst) k == q4w (ns.map Prod.fst) (ord.idxOf (ord2.getD k 0))) && (q0k ns k == q0k ns (ord.idxOf (ord2.getD k 0))))
theorem qdq{P:Program} {id:Nat} {Q:Exit->Act->World->Prop} {a:Act} {w:World} {l:List Oper} (S:Nat->Prop) [DecidablePred S] (pre:List Nat) (i p:Nat) (r:List Nat) (ns:List (Nat×Nat)) (hm:P.follows .mixedOrders=true) (hB:qu8 l pre i p r ns (pre ++ i :: p :: r) (pre ++ p :: i :: r)=true)
  (h:q25 P l.toArray (λa' w'=>Q .normal a' w') ns (λw'=>∃ x,w'=q38 S w x) (q71 l (pre ++ i :: p :: r)) a w.drew)
  (h':q25 P l.toArray (λa' w'=>Q .normal a' w') ns (λw'=>∃ x,w'=q38 S w x) (q71 l (pre ++ p :: i :: r)) a w.drew):(Code.region id l.toArray true).wp P Q a w:=by
 generalize hord:pre ++ i :: p :: r=ord at *;generalize hord2:pre ++ p :: i :: r=ord2 at *;simp only[qu8,Bool.and_eq_true,List.all_eq_true,List.mem_range,decide_eq_true_eq]at hB;obtain⟨⟨⟨⟨⟨⟨⟨⟨⟨⟨⟨⟨⟨-,-⟩,hlen⟩,hin⟩,hidx⟩,hsel⟩,hcal⟩,htwo⟩,hbar⟩,hmi⟩,hmp⟩,hin2⟩,hlen2⟩,hk2⟩:=hB;have hcalm:∀ j o,(l.toArray)[j]?=some o->q4w (ns.map Prod.fst) (ord.idxOf j)=false->q3m o=true:=λj o ho hmj=>by
  have hj:j < l.length:=by have:=(Array.getElem?_eq_some_iff.1 ho).1;simpa using this
  have:=hcal j hj;have ho':l[j]?=some o:=by simpa using ho
  rw[hmj,ho']at this
  simpa using this
 have hid:∀ k i:Nat,ord[k]?=some i->ord.idxOf i=k:=λk i hk=>by
  have hlt:=(List.getElem?_eq_some_iff.1 hk).1;have:=hidx k hlt;rw[List.getD_eq_getElem?_getD,hk]at this
  simpa using this
 have hmix:=q2x (P:=P) (ops:=l.toArray) (mv:=q4w (ns.map Prod.fst)) (bar:=q0k ns) ns _ (q71 l ord) 0 a w.drew (by simp) (by simp) h;have hmix2:=q2x (P:=P) (ops:=l.toArray) (mv:=q4w (ns.map Prod.fst)) (bar:=q0k ns) ns _ (q71 l ord2) 0 a w.drew (by simp) (by simp) h';have hP:=q65 (P:=P) (ops:=l.toArray) (mvK:=q4w (ns.map Prod.fst)) (barK:=q0k ns) (mv:=λi=>q4w (ns.map Prod.fst) (ord.idxOf i)) (bar:=λi=>q0k ns (ord.idxOf i)) ord (q71 l ord) 0 _ a w.drew (λj=>by rw[qax ord hin j];simp) (qay ord hin) (λj i hi=>by rw[Nat.zero_add,hid j i hi];exact⟨rfl,rfl⟩) hmix;have hP2:=q65 (P:=P) (ops:=l.toArray) (mvK:=q4w (ns.map Prod.fst)) (barK:=q0k ns) (mv:=λi=>q4w (ns.map Prod.fst) (ord.idxOf i)) (bar:=λi=>q0k ns (ord.idxOf i)) ord2 (q71 l ord2) 0 _ a w.drew (λj=>by rw[qax ord2 hin2 j];simp) (qay ord2 hin2) (λj i hi=>by
  have hlt:=(List.getElem?_eq_some_iff.1 hi).1;have:=hk2 j hlt;rw[List.getD_eq_getElem?_getD,hi]at this
  simp only[beq_iff_eq,Option.getD_some]at this;rw[Nat.zero_add];exact this) hmix2
 refine wp_region_any hm (q2j (bar:=λi=>q0k ns (ord.idxOf i)) hcalm (Q:=λa' w'=>Q .normal a' w') (λ_ _ h=>h) _ (λw'=>∃ x,w'=q38 S w x) _ _ _ (q01 (Fr.drew (Fr.refl S w))) ?_);have:=qj6 (md := .any) (qt4 hbar) hsel hcalm hmi hmp pre _ (Array.replicate l.length false) a w.drew htwo
  (λj o _ hj=>by
   exfalso;by_cases hjs:j < l.length
   .simp[hjs]at hj
   .simp[hjs]at hj) (q01 (Fr.drew (Fr.refl S w))) (by rw[hord];exact hP) (by rw[hord2];exact hP2)
 rw[hord,hlen]at this
 simpa using this
namespace Ca
structure Mach(w:World) (b:Nat) (A:Option Addr) (n c:Nat) (ds:List Int) (B:Option Addr) (m d:Nat) (us:List Int) (lv:Int):Prop where
 blk:Blk w b 427 #[.slice A n c,.slice B m d,ii lv]
 dn:SlI w A n c ds
 up:SlI w B m d us
 rng:i64 lv
theorem qaz{ds:List Int} {B:Option Addr} {d:Nat} {us:List Int} {lv:Int} (h:Mach w b A n c ds B m d us lv) (rd:Int) :
  cP 285 #[pp b,ii rd] w λe w'=>e = .returned (.bool (low ds lv rd))/\∃ k,w'=w.drewN k:=by
 obtain⟨hb,hd,-,-⟩:=h;have h0:=hb.cell 0;have h2:=hb.cell 2;have hn:=hd.len;have hl:=hd.2.1;by_cases h1:0<=lv
 .by_cases h3:lv < n
  .obtain⟨k,rfl⟩:=Int.eq_ofNat_of_zero_le h1;obtain⟨bs,o,rfl,hbs,hck⟩:=hd.at_ (k:=k) zo;have HF:Hid (low ds k rd=decide (rd < at0 ds k)):=by
    unfold low Hid;simp;omega
   clear hd hb hl;refine inC ?_;go_in;go_wp2;go_quiet (fail)
   go_wp2;go_ret;exact⟨by rw[HF.out];rfl,_,rfl⟩
  .have HF:Hid (low ds lv rd=false):=by
    unfold low Hid;simp;omega
   have h3':decide (lv < n)=false:=by simpa using h3
   clear hd hb hl;refine inC ?_;go_in;go_wp2;go_quiet (fail)
   go_wp2;go_ret;exact⟨by rw[HF.out];rfl,_,rfl⟩
 .have HF:Hid (low ds lv rd=false):=by
   unfold low Hid;simp;omega
  have h1':decide (0<=lv)=false:=by simpa using h1
  clear hd hb hl;refine inC ?_;go_in;go_wp2;go_quiet (fail)
  go_wp2;go_ret;exact⟨by rw[HF.out];rfl,_,rfl⟩
theorem qg3{ds:List Int} {B:Option Addr} {d:Nat} {us:List Int} {lv:Int} (h:Mach w b A n c ds B m d us lv) (rd:Int) :
  cP 286 #[pp b,ii rd] w λe w'=>e = .returned (.bool (qn9 us lv rd))/\∃ k,w'=w.drewN k:=by
 obtain⟨hb,-,hd,hr⟩:=h;have h0:=hb.cell 1;have h2:=hb.cell 2;have hn:=hd.len;have hl:=hd.2.1;unfold i64 at hr;by_cases h1:1<=lv
 .by_cases h3:lv<=m
  .obtain⟨bs,o,rfl,hbs,hck⟩:=hd.at_ (k:=lv.toNat - 1) zo;have HF:Hid (qn9 us lv rd=decide (at0 us (lv.toNat - 1)<=rd)):=by
    unfold qn9 Hid;simp;omega
   have hs0:0<=lv - 1:=zo;have hs1:lv - 1 < m:=zo;have hs2:IntKind.i64.wrap (lv - 1)=lv - 1:=IntWalk.i64_in _ zo;clear hd hb hl;refine inC ?_;go_in;go_wp2;go_quiet (fail)
   go_wp2;go_ret;exact⟨by rw[HF.out];rfl,_,rfl⟩
  .have HF:Hid (qn9 us lv rd=false):=by
    unfold qn9 Hid;simp;omega
   have h3':decide (lv<=m)=false:=by simpa using h3
   clear hd hb hl;refine inC ?_;go_in;go_wp2;go_quiet (fail)
   go_wp2;go_ret;exact⟨by rw[HF.out];rfl,_,rfl⟩
 .have HF:Hid (qn9 us lv rd=false):=by
   unfold qn9 Hid;simp;omega
  have h1':decide (1<=lv)=false:=by simpa using h1
  clear hd hb hl;refine inC ?_;go_in;go_wp2;go_quiet (fail)
  go_wp2;go_ret;exact⟨by rw[HF.out];rfl,_,rfl⟩
theorem Mach.drewN{ds:List Int} {B:Option Addr} {d:Nat} {us:List Int} {lv:Int} (h:Mach w b A n c ds B m d us lv) (k:Nat):Mach (w.drewN k) b A n c ds B m d us lv :=
 ⟨h.blk.drewN k,h.dn.keep (q0a _ _ _),h.up.keep (q0a _ _ _),h.rng⟩
theorem Mach.set_{ds:List Int} {B:Option Addr} {d:Nat} {us:List Int} {lv:Int} (h:Mach w b A n c ds B m d us lv)
  (hA:∀ g o,0 < n->A=some ⟨g,o,none⟩->g≠b) (hB:∀ g o,0 < m->B=some ⟨g,o,none⟩->g≠b) {lv':Int} (hr:i64 lv'):Mach (w.setCell ⟨b,2,none⟩ (ii lv')) b A n c ds B m d us lv':=by
 have hf:Fr (· = b) w (w.setCell ⟨b,2,none⟩ (ii lv')):=(Fr.refl (· = b) w).setCell (p:=⟨b,2,none⟩) (λ_=>rfl) _;exact⟨by simpa using h.blk.set_ 2 (ii lv'),⟨h.dn.1.fr hf λg o hn e=>hA g o hn e,h.dn.2⟩,⟨h.up.1.fr hf λg o hn e=>hB g o hn e,h.up.2⟩,hr⟩
theorem step_any{ds:List Int} {B:Option Addr} {d:Nat} {us:List Int} {lv:Int} (h:Mach w b A n c ds B m d us lv)
  (hA:∀ g o,0 < n->A=some ⟨g,o,none⟩->g≠b) (hB:∀ g o,0 < m->B=some ⟨g,o,none⟩->g≠b) (rd:Int) :
  cP 242 #[pp b,ii rd] w λe w'=>e = .returned (ii (q46 ds us lv rd))/\Mach w' b A n c ds B m d us (q46 ds us lv rd)/\Fr (· = b) w w':=by
 have h2:=h.blk.cell 2;have hz:w.frozen? ⟨b,2,none⟩=false:=h.blk.frozen 2;have h0:=qez ds us lv rd (by rw[h.dn.2.1];exact h.dn.len) h.rng;cases hlo:low ds lv rd
 .cases hhi:qn9 us lv rd
  .have HF:Hid (q46 ds us lv rd=lv):=by unfold q46 Hid;simp[hlo,hhi]
   have HL:=zhd hlo;have HH:=zhd hhi;clear hlo hhi h0;refine inC ?_;go_in;go_wp2_with fail;refine(qaz h rd).mono ?_;rintro e w' ⟨rfl,k,rfl⟩;rw[HL.out];go_wp2_with fail;refine(qg3 (h.drewN k) rd).mono ?_;rintro e w' ⟨rfl,j,rfl⟩;rw[HH.out];go_wp2_with fail;go_ret;rw[HF.out];exact⟨rfl,h.drewN _,(Fr.refl _ _).drewN _⟩
  .have HF:Hid (q46 ds us lv rd=lv - 1):=by unfold q46 Hid;simp[hlo,hhi]
   have HL:=zhd hlo;have HH:=zhd hhi;have hb:1<=lv/\lv<=9223372036854775807:=by
    have:=h.up.len;have:=h.up.2.1;unfold qn9 at hhi;simp at hhi;omega
   rw[HF.out]at h0
   clear hlo hhi;refine inC ?_;go_in;go_wp2_with fail;refine(qaz h rd).mono ?_;rintro e w' ⟨rfl,k,rfl⟩;rw[HL.out];go_wp2_with fail;refine(qg3 (h.drewN k) rd).mono ?_;rintro e w' ⟨rfl,j,rfl⟩;rw[HH.out];go_wp2_with fail;go_ret;rw[HF.out];refine⟨rfl,?_,?_⟩
   .exact(h.drewN _).set_ hA hB h0
   .exact((Fr.refl _ _).drewN _).setCell zp _
 .have HF:Hid (q46 ds us lv rd=lv + 1):=by unfold q46 Hid;simp[hlo]
  have HL:=zhd hlo;have hb:0<=lv/\lv + 1<=9223372036854775807:=by
   have:=h.dn.len;have:=h.dn.2.1;unfold low at hlo;simp at hlo;omega
  rw[HF.out]at h0
  clear hlo;refine inC ?_;go_in;go_wp2_with fail;refine(qaz h rd).mono ?_;rintro e w' ⟨rfl,k,rfl⟩;rw[HL.out];go_wp2_with fail;go_ret;rw[HF.out];refine⟨rfl,?_,?_⟩
  .exact(h.drewN _).set_ hA hB h0
  .exact((Fr.refl _ _).drewN _).setCell zp _
theorem next_any{ds:List Int} {B:Option Addr} {d:Nat} {us:List Int} (hd:SlI w A n c ds) (hu:SlI w B m d us) (lv rd:Int) (hlv:i64 lv) :
  cP 184 #[.agg #[.slice A n c,.slice B m d],ii lv,ii rd] w λe w'=>e = .returned (ii (q46 ds us lv rd))/\bW w w':=by
 refine inC ?_;go_in;go_wp2_with fail;have h0:=(zA w (.cells #[.slice A n c,.slice B m d] 31)).alloc zp (.cells #[.slice A n c,.slice B m d,ii lv] 427);refine(step_any (b:=w.heap.size + 1) ⟨by have:=Blk.new (w.alloc (.cells #[.slice A n c,.slice B m d] 31)) 427 #[.slice A n c,.slice B m d,ii lv];simpa using this,hd.keep h0,hu.keep h0,hlv⟩ ?_ ?_ rd).mono ?_
 .exact λg o hn e=>hd.ne_ zo hn g o e
 .exact λg o hn e=>hu.ne_ zo hn g o e
 rintro e w1 ⟨rfl,hm,hf⟩;go_wp2_with fail;go_ret;exact⟨rfl,h0.trans (hf.below (by intro k hk;omega) (by simp;omega))⟩
end Ca
theorem byte_info:(Tryz.prog.info? 5).map (λi=>(i.zero,i.size,i.bytes))=some (some (.int .u8 0),1,1):=zk
theorem z0f(hq:q < 18446744073709551616):q ^^^ 18446744073709551615=18446744073709551615 - q:=by
 have h:=BitVec.toNat_not (x:=BitVec.ofNat 64 q);rw[<- BitVec.xor_allOnes,BitVec.toNat_xor]at h
 simp[Nat.mod_eq_of_lt hq]at h
 rw[h]
theorem qr0{n:Int} (h:n < 0) (h2 : -9223372036854775808<=n):bits .xor .u64 (IntKind.u64.wrap (IntKind.u64.wrap n * 2)) (IntKind.u64.wrap (n / 9223372036854775808))=((tnd n:Nat):Int):=by
 have h1:n / 9223372036854775808 = -1:=zo;rw[h1,IntKind.wrap_u64,IntKind.wrap_u64,IntKind.wrap_u64];have h3:n % 18446744073709551616 * 2 % 18446744073709551616=(((n * 2 + 18446744073709551616).toNat:Nat):Int):=zo;have h4:(-1:Int) % 18446744073709551616=((18446744073709551615:Nat):Int):=zd;rw[h3,h4,u64_xor_nat _ _ zo zd,z0f zo];unfold tnd;rw[if_pos h];omega
theorem qr1{n:Int} (h:0<=n) (h2:n<=9223372036854775807):bits .xor .u64 (n * 2) (n / 9223372036854775808)=((tnd n:Nat):Int):=by
 have h1:n / 9223372036854775808=((0:Nat):Int):=zo;have h3:n * 2=(((n * 2).toNat:Nat):Int):=zo;rw[h1,h3,u64_xor_nat _ _ zo zd,Nat.xor_zero];unfold tnd;rw[if_neg zo]
theorem qjr{n:Int} (hn:i64 n) :
  cP 147 #[ii n] w λe w'=>e = .returned (.int .u64 ((tnd n:Nat):Int))/\w=w':=by
 unfold i64 at hn;by_cases h:n < 0
 .have HT:=zhd (qr0 h hn.1);refine inC ?_;go_in;go_wp2_with fail;go_ret;exact⟨by rw[<- HT.out];rfl,rfl⟩
 .have HT:=zhd (qr1 zo hn.2);refine inC ?_;go_in;go_wp2_with fail;go_ret;exact⟨by rw[<- HT.out];rfl,rfl⟩
theorem qvb(x:Nat):bv (ob (x % 128 + 128))=Value.int .u8 ((x:Int) % 128 + 128):=by
 unfold bv;rw[qd5 zo];simp
theorem qy8(x:Nat) (hx:x < 256):([ob x].map bv) = [Value.int .u8 (x:Int)]:=by
 simp[bv,qd5 hx]
theorem qmv:∀ x:Fin 256,x.val ||| 128=x.val % 128 + 128:=by decide +kernel
theorem z0g(u:Nat):Value.int .u8 (bits .or .u8 ((u:Int) % 256) 128)=bv (ob (u % 128 + 128)):=by
 have h:=u8_or_nat (u % 256) 128 (Nat.mod_lt _ zd) zd;rw[qmv ⟨u % 256,Nat.mod_lt _ zd⟩]at h
 rw[show((u % 256:Nat):Int)=(u:Int) % 256 from by simp]at h
 rw[qvb];congr 1
 rw[show((128:Nat):Int)=128 from rfl]at h
 rw[h];simp only[Nat.mod_mod_of_dvd _ (show 128 ∣ 256 by decide)];simp
theorem qvc(w:World) (e:TypeId) (size:Nat):(w.alloc (.cells #[] e)).ownsRow w.heap.size e size (.slice (some ⟨w.heap.size,0,none⟩) 0 0) 0 [] :=
 ⟨zp,.inr ⟨w.heap.size,0,#[],rfl,nL,heap_alloc_new w _,nL,by unfold maxLen;omega,zp,zp⟩⟩
theorem bv_cell(l:List UInt8):∀ u ∈ l.map bv,u.oneCell'=true:=by
 intro u hu;obtain⟨x,_,rfl⟩:=List.mem_map.1 hu;rfl
theorem q7g{l:List UInt8} (h:SlB w A n c l) (hn:n<=90000000) :
  cP 98 #[.slice A n c] w λe w'=>∃ v,e = .returned v/\w'.ownsRow w.heap.size 5 1 v n (l.map bv)/\bW w w':=by
 obtain⟨i0,h4,h7,h8,h9⟩:=info_parts byte_info;cases A with
 | none =>
  have hc:c=0:=h.1.2.2.2.1 rfl;have h6:n=0:=by have:=h.1.2.1;omega
  subst hc h6;obtain rfl:l = []:=List.eq_nil_of_length_eq_zero h.2;have h2:=λw=>Lib.run_eql_slice_nil (P:=Tryz.prog) w 38 5 none 0 0 0 0 Tryz.underlying38;refine inC ?_;go_in;go_wp2_with fail;go_ret;exact⟨_,rfl,World.ownsRow_nil _ _ _ _,bR⟩
 | some ad =>
  have h3:=zA w (.cells #[] 5);have h1:=qvc w 5 1;have h5:=h.keep h3;have h0:∀ (j:Nat) (u:Value),(l.map bv)[j]?=some u->(w.alloc (.cells #[] 5)).cell? (ad.add j)=some u:=by
   intro j u hu;have hlt:j < n:=by
    have:=(List.getElem?_eq_some_iff.1 hu).1;rw[List.length_map,h.2]at this
    exact this
   obtain⟨b,o,e,_,hc⟩:=h5.1.at_ zo;cases e;rw[q11];exact hc j u hu
  have hlen:=h.2;have h2:=λw=>Lib.run_eql_slice_nil (P:=Tryz.prog) w 38 5 (some ad) n c 0 0 Tryz.underlying38;refine inC ?_;go_in;go_wp2_with (at_builtin;refine wpList_append_own_at _ zr _ _ 38 zr w.heap.size 5 i0 _ 1 1 Tryz.underlying38 h4 h7 h8 h9 rfl zd _ 0 _ zr h1 ad n c (l.map bv) zr (by simp;omega) h0 (bv_cell l) (by unfold maxLen;omega) zo zp ?_;intro v' w1 hown1 hg1 hnil1 hat1);go_ret;exact⟨v',rfl,by rw[Nat.zero_add,List.nil_append]at hown1;exact hown1,h3.grown hg1 zp (λk e=>by cases e;exact nL)⟩
namespace Mo
theorem is_any{n:Int} : cP 179 #[ii n] w λe w'=>e = .returned (.bool (isB n))/\w=w':=by
 by_cases h:0<=n
 .by_cases h2:n < 5
  .have hb:=zhd (qmy h h2);refine inC ?_;go_in;go_wp2_with fail;go_ret;exact⟨by rw[hb.out];rfl,rfl⟩
  .have hb:=zhd (qi5 (n:=n) zo);have h0:decide (n < 5)=false:=by simpa using h2
   refine inC ?_;go_in;go_wp2_with fail;go_ret;exact⟨by rw[hb.out];rfl,rfl⟩
 .have hb:=zhd (qi5 (n:=n) zo);have h0:decide (0<=n)=false:=by simpa using h
  refine inC ?_;go_in;go_wp2_with fail;go_ret;exact⟨by rw[hb.out];rfl,rfl⟩
def z0s(w:World) (g:Nat) (l:List Int) (L:List Flt):Prop:=Blk w g 342 (mc (q9b l) (qzu L) (z0j L) (z0k L))
theorem new_any{l:List Int} (hl:SlI w A n c l) :
  cP 118 #[.slice A n c] w λe w'=>e = .returned (pp w.heap.size)/\z0s w' w.heap.size l []/\bW w w':=by
 have hn:=hl.len;have hll:=hl.2.1;have h2:=zA w (.cells #[ii 0,ii 0,ii 0,ii 0,ii 0,ii 0,ii 0,ii 0,ii 0,ii 0,ii (-1),ii (-1),.bool true] 342);have h3:Blk (w.alloc (.cells #[ii 0,ii 0,ii 0,ii 0,ii 0,ii 0,ii 0,ii 0,ii 0,ii 0,ii (-1),ii (-1),.bool true] 342)) w.heap.size 342 (mc (qtw (q9b l) 0) (qzu []) (-1) (-1)):=Blk.new w 342 #[ii 0,ii 0,ii 0,ii 0,ii 0,ii 0,ii 0,ii 0,ii 0,ii 0,ii (-1),ii (-1),.bool true];refine inC ?_;go_in;go_wp2_with fail;generalize w.alloc (.cells #[ii 0,ii 0,ii 0,ii 0,ii 0,ii 0,ii 0,ii 0,ii 0,ii 0,ii (-1),ii (-1),.bool true] 342)=w0 at h2 h3 ⊢;go_loopw [7] (λi wr=>∃ k:Nat,k<=5/\i = .int .i64 k/\Blk wr w.heap.size 342 (mc (qtw (q9b l) k) (qzu []) (-1) (-1))/\bW w wr) (λi _=>5 - (intOf i).toNat)
 case atStart=>exact⟨0,zo,rfl,h3,h2⟩
 case round =>
  obtain⟨k,hk,rfl,hm,h0⟩:=hrel;by_cases h5:k < 5
  .by_cases h1:k < n
   .obtain⟨b,o,rfl,hb,hck⟩:=(hl.keep h0).at_ h1;by_cases hi:isB (at0 l k)=true
    .have HA:Hid (q9b l k=at0 l k):=by unfold Hid q9b;rw[if_pos ⟨zo,hi⟩]
     have hfz:=hm.frozen (k * 2);have hcc:wr.cell? ⟨w.heap.size,k * 2,none⟩=some (ii (qtw (q9b l) k k)):=(hm.cell (k * 2)).trans (qn0 _ _ _ _ h5);have hgs:=hm.lt;have hkb:(k:Int) < 5:=zo;go_wp2_with fail;refine is_any.mono ?_;rintro e w2 ⟨rfl,rfl⟩;go_wp2_with fail;go_still_tail 10,zk
     go_wp2_with fail;refine⟨⟨k + 1,zo,by go_num,?_,?_⟩,by simp[intOf];omega⟩
     .have he:=qjx (q9b l) (qzu []) (-1) (-1) h5;rw[HA.out]at he
      rw[<- he];exact hm.set_ _ _
     .exact(h0.setCell nL _).drew
    .have hi':isB (at0 l k)=false:=by simpa using hi
     have HA:Hid (q9b l k=0):=by unfold Hid q9b;rw[if_neg (λh=>hi h.2)]
     clear hi;go_wp2_with fail;refine is_any.mono ?_;rintro e w2 ⟨rfl,rfl⟩;go_wp2_with fail;refine⟨⟨k + 1,zo,by go_num,?_,?_⟩,by simp[intOf];omega⟩
     .rw[<- qn1 _ _ _ _ h5 HA.out];exact hm
     .exact h0
   .have hkn':decide ((k:Int) < n)=false:=by simpa using h1
    have HA:Hid (q9b l k=0):=by unfold Hid q9b;rw[if_neg (λh=>h1 zo)]
    go_wp2_with fail;refine⟨⟨k + 1,zo,by go_num,?_,?_⟩,by simp[intOf];omega⟩
    .rw[<- qn1 _ _ _ _ h5 HA.out];exact hm
    .exact h0
  .obtain rfl:k=5:=zo;go_wp2_with fail;go_ret;exact⟨rfl,hm,h0⟩
end Mo
end Go.Proofs.YtncfcbohiodnnaaGreat
