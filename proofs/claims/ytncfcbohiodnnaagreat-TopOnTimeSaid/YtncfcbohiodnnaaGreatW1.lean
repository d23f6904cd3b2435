/- Parts of this seat's claims. -/
import Derived.Test.YtncfcbohiodnnaaGreatW0
set_option maxRecDepth 100000
set_option maxHeartbeats 6400000
namespace Go.Proofs.YtncfcbohiodnnaaGreat
open Go.RowKit
variable{w w' W wa wo W':World}{c n pt r B j b m mb q base cap id B0:Nat}{A:Option Addr}{a code what:Int}{cs:Array Value}
section
variable{P:Program}{ops:Array Oper}{md:Region.Mode}
def qG(k:Nat)(C C':World->Prop):Prop:=(k=0->C'=C)/\(k<=1->∀x,C' x->C x)
theorem qG.refl(k:Nat)(C:World->Prop):qG k C C:=⟨λ_=>rfl,λ_ _ h=>h⟩
def q3m(o:Oper):Bool:=z01 o||(match o.op with| .build .. => true | .lookup .. => true|_=>false)
theorem qcq{o:Oper}{ρ:Operand->Value}{w w':World}{f:FuncId}{args:Array Value}(hc:q3m o=true)(h:(execOp ρ o).run P w=.ok (.enter f args) w'):False:=by unfold q3m at hc;rw[QH]at hc;rcases hc with hc|hc;{exact qe1 hc h};{cases hop:o.op <;> simp only[hop,ZS]at hc <;> simp only[execOp,hop]at h;all_goals exact q4y h}
theorem q4z{C:World->Prop}{o:Oper}{a:Act}{w:World}{v:Value}(hc:q3m o=true)(h:o.quietAt P a C w v) :
  (execOp a.eval o).run P w=.ok (.value v) w\/((execOp a.eval o).run P w=.ok .skip w/\v=undef):=by unfold Oper.quietAt at h;generalize hr:(execOp a.eval o).run P w=r at h;cases r with|ok n w'=>{cases n <;> simp only[Oper.quietUpon]at h;(case value u=>obtain⟨rfl,rfl⟩:=h;exact .inl rfl);(case skip=>obtain⟨rfl,rfl⟩:=h;exact .inr ⟨rfl,rfl⟩);case enter f args=>exact(qcq hc hr).elim}|halt x w'=>simp only[Oper.quietUpon]at h
theorem qj9{C:World->Prop}{o:Oper}{a:Act}{w:World}{v u:Value}(hc:q3m o=true)(h:o.quietAt P a C w v)(k:o.quietAt P a C w u):v=u:=by rcases q4z hc h with h1|⟨h1,h2⟩ <;> rcases q4z hc k with k1|⟨k1,k2⟩ <;> rw[h1]at k1 <;> simp_all
theorem q3n{C:World->Prop}{o:Oper}{a:Act}{w:World}{v u:Value}(hw:C w)(hc:q3m o=true)(h:YieldsIn P ops C o v a)(k:YieldsIn P ops C o u a):v=u:=by rcases h with⟨h1,h2⟩|⟨h1,rfl⟩ <;> rcases k with⟨k1,k2⟩|⟨k1,rfl⟩;{exact qj9 hc (h2 w hw) (k2 w hw)};{rw[h1]at k1;cases k1};{rw[h1]at k1;cases k1};{rfl}
theorem q9p{C C':World->Prop}{o:Oper}{a:Act}{v:Value}(hc:q3m o=true)(hs:∀x,C' x->C x)(h:YieldsIn P ops C o v a):YieldsIn P ops C' o v a:=by rcases h with⟨h1,h2⟩|h;{refine .inl ⟨h1,λw hw=>?_⟩;have:=q4z hc (h2 w (hs w hw));unfold Oper.quietAt;rcases this with h3|⟨h3,rfl⟩ <;> rw[h3];{exact⟨rfl,rfl⟩};{exact⟨rfl,rfl⟩}};{exact .inr h}
def q23(P:Program)(md:Region.Mode)(ops:Array Oper)(mv:Nat->Bool)(bar:Nat->Nat)(Q:Act->World->Prop):Nat->(World->Prop)->Array Bool->Act->World->Prop
 |0,_,listed,a,w=>Region.ready md ops listed = []/\Q a w
 |fuel+1,C,listed,a,w=>
  (Region.ready md ops listed = []->Q a w) /\
  ∀i∈Region.ready md ops listed,
   if mv i then q66 P ops i (λa' w'=>∃C':World->Prop,qG (bar i) C C'/\C' w'/\q23 P md ops mv bar Q fuel C' (listed.setIfInBounds i true) a' w') a w
   else qOp P ops C i (λa'=>q23 P md ops mv bar Q fuel C (listed.setIfInBounds i true) a' w) a
def qb5(md:Region.Mode)(ops:Array Oper)(bar:Nat->Nat):Prop:=∀i j,1<=bar j->i<ops.size->j<ops.size ->
 (j<i->(q24 md j ops.toList 0 #[]).getD i false=true)/\(i<j->2<=bar j->(q24 md i ops.toList 0 #[]).getD j false=true)
theorem q67{listed:Array Bool}{i j:Nat}(hcl:q2f md ops listed)(hi:i∈Region.ready md ops listed)(hj:j∈Region.ready md ops listed)(hij:i≠j):(q24 md i ops.toList 0 #[]).getD j false=false:=by cases hr:(q24 md i ops.toList 0 #[]).getD j false with|false=>{rfl}|true=>{obtain⟨hiun,oi,hoi,halli⟩:=Qt.1 hi;obtain⟨hjun,oj,hoj,hall⟩:=Qt.1 hj;have:=q5l (qcp (md:=md) (ops:=ops) i) hcl (j+1) j (by omega) hr (QL hij) (λo ho e he hb=>by rw[hoj]at ho;cases ho;exact hall e he hb);rw[q76 this]at hiun;cases hiun}
theorem q47{listed:Array Bool}{i:Nat}(hi:i∈Region.ready md ops listed):i<ops.size:=by obtain⟨_,oi,hoi,_⟩:=Qt.1 hi;exact(Z8.1 hoi).1
theorem qui{bar:Nat->Nat}{listed:Array Bool}{i j:Nat}(hF:qb5 md ops bar)(hcl:q2f md ops listed)(hi:i∈Region.ready md ops listed)(hj:j∈Region.ready md ops listed)(hij:i≠j):bar j<=1:=by rcases ZH 1 (bar j) with h|h;{obtain⟨h1,h2⟩:=hF i j (by omega) (q47 hi) (q47 hj);rcases ZH i j with hlt|hge;{have:=h2 hlt h;rw[q67 hcl hi hj hij]at this;cases this};{have:=h1 (by omega);rw[q67 hcl hj hi (QL hij)]at this;cases this}};{exact h}
theorem qe3{bar:Nat->Nat}{listed:Array Bool}{i j:Nat}(hF:qb5 md ops bar)(hcl:q2f md ops listed)(hi:i∈Region.ready md ops listed)(hj:j∈Region.ready md ops listed)(hij:i<j):bar i=0:=by rcases ZH 0 (bar i) with h|h;{have:=(hF j i h (q47 hj) (q47 hi)).1 hij;rw[q67 hcl hi hj (by omega)]at this;cases this};{omega}
theorem q6s{mv:Nat->Bool}{bar:Nat->Nat}(hF:qb5 md ops bar){Q:Act->World->Prop}{i:Nat}{oi:Oper}{v:Value}(hi:ops[i]?=some oi)(hmi:mv i=false)(hci:q3m oi=true)(hsel:∀(j:Nat) (o:Oper) cs b,ops[j]?=some o->o.op ≠ .select cs b) :
  ∀(fuel:Nat) (C:World->Prop) (listed:Array Bool) (a:Act) (w:World),
   (∀j oj,ops[j]?=some oj->j≠i->listed.getD j true=false->(∀e∈oj.after,Region.binds md e=true->e.on≠i)->oi.apart ops oj=true) ->
   q2f md ops listed->i∈Region.ready md ops listed->YieldsIn P ops C oi v a ->
   q23 P md ops mv bar Q fuel C (listed.setIfInBounds i true) (a.put oi.dst v) w->q23 P md ops mv bar Q (fuel+1) C listed a w:=by
 intro fuel
 induction fuel with
 |zero=>
  intro C listed a w _ _ hr hy H;refine⟨λh=>(by rw[h]at hr;cases hr),λj hj=>?_⟩;by_cases hji:j=i
  .subst hji;rw[hmi,Z0 ZC];exact hy.qOp hi H
  .have:=Qy hj hji;rw[H.1]at this;cases this
 |succ fuel ih=>
  intro C listed a w hfree hcl hr hy H;refine⟨λh=>(by rw[h]at hr;cases hr),λj hj=>?_⟩;by_cases hji:j=i
  .subst hji;rw[hmi,Z0 ZC];exact hy.qOp hi H
  .have h1:=H.2 j (Qy hj hji);obtain⟨hjun,oj,hoj,hall⟩:=Qt.1 hj;have hap:=hfree j oj hoj hji hjun (qj8 hr hall);obtain⟨p1,p2,p3⟩:=XX hap;have hfree':=q4j (md:=md) (ops:=ops) (oi:=oi) hjun hfree;have keep:∀u,YieldsIn P ops C oi v (a.put oj.dst u):=λu=>
    hy.of_same (Xw oi (λcs b=>hsel i oi cs b hi) a oj.dst u p3) (Xu oi a oj.dst u p3)
   cases hmj:mv j
   .rw[hmj,Z0 ZC]at h1;rw[Z0 ZC];have h2:=qOp_put hoj hap (λcs b=>hsel i oi cs b hi) (λcs b=>hsel j oj cs b hoj) hy h1;refine qOp_mono (λa' h3=>ih C (listed.setIfInBounds j true) a' w hfree' (hcl.step hj) (Qy hr (QL hji)) h3.1 ?_) h2;rw[Qu _ _ hji];exact h3.2
   .rw[hmj,Z1 rfl]at h1;rw[Z1 rfl];have hbj:=qui hF hcl hr hj (QL hji);refine q3j hoj (Xw oj (λcs b=>hsel j oj cs b hoj) a oi.dst v p1).symm (Xu oj a oi.dst v p1).symm (λu w' hk=>?_) h1;obtain⟨C',hC',hw',hk⟩:=hk;refine⟨C',hC',hw',ih C' (listed.setIfInBounds j true) (a.put oj.dst u) w' hfree' (hcl.step hj) (Qy hr (QL hji)) (q9p hci (hC'.2 hbj) (keep u)) ?_⟩;rw[Qu _ _ hji,<- Act.put_comm a v u p2];exact hk
theorem qga{mv:Nat->Bool}{bar:Nat->Nat}{C:World->Prop}(hF:qb5 md ops bar){Q:Act->World->Prop}{i:Nat}{oi:Oper}(hi:ops[i]?=some oi)(hmi:mv i=true)(hsel:∀(j:Nat) (o:Oper) cs b,ops[j]?=some o->o.op ≠ .select cs b)
 (hcalm:∀j o,ops[j]?=some o->mv j=false->q3m o=true)(hreach:∀j,i<j->j<ops.size->mv j=true->(q24 md i ops.toList 0 #[]).getD j false=true) :
  ∀(fuel:Nat) (listed:Array Bool) (a:Act) (w:World),
   (∀j oj,ops[j]?=some oj->j≠i->listed.getD j true=false->(∀e∈oj.after,Region.binds md e=true->e.on≠i)->oi.apart ops oj=true) ->
   q2f md ops listed->(∀j,j<i->listed.getD j true=true)->i∈Region.ready md ops listed->C w ->
   q66 P ops i (λa' w'=>∃C':World->Prop,qG (bar i) C C'/\C' w'/\q23 P md ops mv bar Q fuel C' (listed.setIfInBounds i true) a' w') a w->q23 P md ops mv bar Q (fuel+1) C listed a w:=by
 intro fuel
 induction fuel with
 |zero=>
  intro listed a w _ _ _ hr _ H;refine⟨λh=>(by rw[h]at hr;cases hr),λj hj=>?_⟩;by_cases hji:j=i
  .subst hji;rw[hmi,Z1 rfl];exact H
  .obtain⟨u,w',C',_,_,hk⟩:=q4i hi H;have:=Qy hj hji;rw[hk.1]at this;cases this
 |succ fuel ih=>
  intro listed a w hfree hcl hlow hr hw H;refine⟨λh=>(by rw[h]at hr;cases hr),λj hj=>?_⟩;by_cases hji:j=i
  .subst hji;rw[hmi,Z1 rfl];exact H
  .obtain⟨hjun,oj,hoj,hall⟩:=Qt.1 hj;have hjsz:j<ops.size:=(Z8.1 hoj).1;have hij:i<j:=by
    rcases ZH j i with h|h
    .rw[hlow j h]at hjun;cases hjun
    .omega
   have hmj:mv j=false:=by
    cases hmj:mv j with
    |false=>rfl
    |true=>
     have:=q5l (qcp (md:=md) (ops:=ops) i) hcl (j+1) j (by omega) (hreach j hij hjsz hmj) (by omega) (λo ho e he hb=>by rw[hoj]at ho;cases ho;exact hall e he hb);have h0:=(Qt.1 hr).1;rw[q76 this]at h0;cases h0
   have hbi:=qe3 hF hcl hr hj hij;have hap:=hfree j oj hoj hji hjun (qj8 hr hall);obtain⟨p1,p2,p3⟩:=XX hap;have hsi:∀cs b,oi.op ≠ .select cs b:=λcs b=>hsel i oi cs b hi;have hsj:∀cs b,oj.op ≠ .select cs b:=λcs b=>hsel j oj cs b hoj;have hr':=Qy hj hji;have move:∀u v,YieldsIn P ops C oj v (a.put oi.dst u)->YieldsIn P ops C oj v a:=λu v h=>
    h.of_same (Xw oj hsj a oi.dst u p1).symm (Xu oj a oi.dst u p1).symm
   obtain⟨u0,w0,C0,hC0,_,hk0⟩:=q4i hi H;cases hC0.1 hbi;have hq:=hk0.2 j hr';rw[hmj,Z0 ZC]at hq;obtain⟨v,hy,_⟩:=yieldsIn_of_qOp hoj hq;have hya:=move _ _ hy;rw[hmj,Z0 ZC];refine hya.qOp hoj ?_;refine ih (listed.setIfInBounds j true) (a.put oj.dst v) w (q4j (md:=md) (ops:=ops) (oi:=oi) hjun hfree) (hcl.step hj) (λk hk=>?_) (Qy hr (QL hji)) hw ?_
   .by_cases hkj:j=k
    .omega
    .rw[QA true hkj];exact hlow k hk
   .refine q3j hi (Xw oi hsi a oj.dst v p3) (Xu oi a oj.dst v p3) (λu w' hk=>?_) H;obtain⟨C',hC',hw',hk⟩:=hk;cases hC'.1 hbi;refine⟨C,qG.refl _ _,hw',?_⟩;have hq':=hk.2 j hr';rw[hmj,Z0 ZC]at hq';obtain⟨v',hy',hk'⟩:=yieldsIn_of_qOp hoj hq';have:=q3n hw (hcalm j oj hoj hmj) hya (move _ _ hy');subst this;rw[Qu _ _ hji,Act.put_comm a v u (λd hd h=>p2 d h hd)];exact hk'
def q2w(P:Program)(ops:Array Oper)(mv:Nat->Bool)(bar:Nat->Nat)(Q:Act->World->Prop):List Oper->Nat->(World->Prop)->Act->World->Prop
 |[],_,_,a,w=>Q a w
 |o::r,k,C,a,w=>if Region.wanted o (yielded ops a.tmps) then(if mv k then qO P o a w (λa' w'=>∃C':World->Prop,qG (bar k) C C'/\C' w'/\q2w P ops mv bar Q r (k+1) C' a' w') else o.quiet P a C (λa'=>q2w P ops mv bar Q r (k+1) C a' w)) else q2w P ops mv bar Q r (k+1) C (a.put o.dst undef) w
theorem qcr{mv:Nat->Bool}{bar:Nat->Nat}(hF:qb5 md ops bar){Q:Act->World->Prop}(hs:Region.noSelect ops=true)(hcalm:∀j o,ops[j]?=some o->mv j=false->q3m o=true):∀(l:List Oper) (k:Nat) (C:World->Prop) (listed:Array Bool) (a:Act) (w:World),(∀j,l[j]?=ops[k+j]?) ->
  q9o md ops mv l.length k listed=true->q2f md ops listed->(∀j,j<k->listed.getD j true=true)->C w->q2w P ops mv bar Q l k C a w->q23 P md ops mv bar Q l.length C listed a w
 |[],_,_,_,_,_,_,hB,_,_,_,h=>⟨by simpa[q9o] using hB,h⟩
 |o::l,k,C,listed,a,w,hl,hB,hcl,hlow,hw,h=>by
  have h0:ops[k]?=some o:=by{simpa using (hl 0).symm};simp only[Zj,q9o,Z6]at hB;obtain⟨⟨⟨hr,hf⟩,hm⟩,hB'⟩:=hB;have hr':k∈Region.ready md ops listed:=by{simpa using hr};have hl':∀j,l[j]?=ops[k+1+j]?:=λj=>by{have:=hl (j+1);simpa[Qh,QV 1 j] using this};have hlow':∀j,j<k+1->(listed.setIfInBounds k true).getD j true=true:=λj hj=>by{by_cases hjk:k=j;{subst hjk;by_cases hks:k<listed.size <;> simp[hks]};{rw[QA true hjk];exact hlow j (by omega)}}
  unfold q2w at h;cases hmk:mv k with
  |false=>
   have hst:qOp P ops C k (λa'=>q2w P ops mv bar Q l (k+1) C a' w) a:=by
    unfold qOp;simp only[h0];simp only[hmk,ZS,X8]at h;exact h
   obtain⟨v,hy,hK⟩:=yieldsIn_of_qOp h0 hst;exact q6s hF h0 hmk (hcalm k o h0 hmk) (Xb hs) l.length C listed a w (Xx h0 hf) hcl hr' hy
    (qcr hF hs hcalm l (k+1) C _ _ w hl' hB' (hcl.step hr') hlow' hw hK)
  |true=>
   have hmvo:q66 P ops k (λa' w'=>∃C':World->Prop,qG (bar k) C C'/\C' w'/\q2w P ops mv bar Q l (k+1) C' a' w') a w:=by
    unfold q66;simp only[h0];simp only[hmk,Xy]at h;split
    .rename_i hwd;rw[Z1 hwd]at h;exact h
    .rename_i hwd;rw[Z0 hwd]at h;exact⟨C,qG.refl _ _,hw,h⟩
   simp only[hmk,Bool.not_true,Bool.false_or,Qc,ZQ]at hm;refine qga hF h0 hmk (Xb hs) hcalm (λj hkj hjs hmj=>?_) l.length listed a w (Xx h0 hf) hcl hlow hr' hw
    (q1v (λa' w' hk=>by
     obtain⟨C',hC',hw',hk⟩:=hk;exact⟨C',hC',hw',qcr hF hs hcalm l (k+1) C' _ _ w' hl' hB' (hcl.step hr') hlow' hw' hk⟩) hmvo)
   have:=hm j hjs;simp only[hkj,decide_true,hmj,Bool.and_true,Bool.not_true,Bool.false_or]at this;exact this
theorem q2j{mv:Nat->Bool}{bar:Nat->Nat}{Q:Act->World->Prop}{Q':Exit->Act->World->Prop}(hcalm:∀j o,ops[j]?=some o->mv j=false->q3m o=true)(hQ:∀a w,Q a w->Q' .normal a w):∀(fuel:Nat) (C:World->Prop) (listed:Array Bool) (a:Act) (w:World),C w ->
  q23 P md ops mv bar Q fuel C listed a w->wpAny P md ops Q' fuel listed a w
 |0,_,_,_,_,_,h=>⟨h.1,hQ _ _ h.2⟩
 | fuel+1,C,_,_,_,hw,h=>⟨λh0=>hQ _ _ (h.1 h0),λi hi=>by
   have h1:=h.2 i hi;split at h1;{exact q8m (q1v (λa' w' hk=>by obtain⟨C',_,hw',hk⟩:=hk;exact q2j hcalm hQ fuel C' _ a' w' hw' hk) h1)}
   .rename_i hmi;unfold qOp at h1;unfold wpOp;split;{rename_i ho;simp only[ho]at h1;exact q2j hcalm hQ fuel C _ _ _ hw h1}
    .rename_i o ho;simp only[ho]at h1;split;{rename_i hwd;rw[Z1 hwd]at h1;obtain⟨v,hv,hk⟩:=h1;refine .inl ?_;unfold Oper.wp;rcases q4z (hcalm _ o ho (by simpa using hmi)) (hv _ hw) with hr|⟨hr,rfl⟩ <;> rw[hr] <;> exact q2j hcalm hQ fuel C _ _ _ hw hk}
     .rename_i hwd;rw[Z0 hwd]at h1;exact q2j hcalm hQ fuel C _ _ _ hw h1⟩
def qll(ops:Array Oper)(mv:Nat->Bool):Bool :=
 Region.noSelect ops&&((List.range ops.size).all λj=>mv j||(ops[j]?).all q3m)&&q9o .any ops mv ops.size 0 (Array.replicate ops.size false)
theorem q9q{id:Nat}{Q:Exit->Act->World->Prop}{C:World->Prop}{a:Act}{w:World}{mv:Nat->Bool}{bar:Nat->Nat}(hF:qb5 .any ops bar)(hm:P.follows .mixedOrders=true)(hB:qll ops mv=true)(hC:C w.drew)
 (h:q2w P ops mv bar (λa' w'=>Q .normal a' w') ops.toList 0 C a w.drew):(Code.region id ops true).wp P Q a w:=by
 simp only[qll,Z6,Qc,ZQ]at hB;obtain⟨⟨h1,h2⟩,h3⟩:=hB;have hcalm:∀j o,ops[j]?=some o->mv j=false->q3m o=true:=λj o ho hmj=>by{have:=h2 j (Z8.1 ho).1;simpa[hmj,ho] using this}
 refine wp_region_any hm (q2j (bar:=bar) hcalm (Q:=λa' w'=>Q .normal a' w') (λ_ _ h=>h) _ C _ _ _ hC ?_);have:=qcr (md := .any) hF h1 hcalm ops.toList 0 C (Array.replicate ops.size false) a w.drew (by simp) (by simpa using h3)
  (λj o _ hj=>by
   exfalso;by_cases hjs:j<ops.size
   .simp[hjs]at hj
   .simp[hjs]at hj) (λj hj=>by omega) hC h
 simpa using this
def q1j(P:Program)(ops:Array Oper)(bar:Nat)(K:(World->Prop)->List Oper->Act->World->Prop):(World->Prop)->List Oper->Act->World->Prop
 |_,[],_,_=>False
 |C,m::r,a,w=>if Region.wanted m (yielded ops a.tmps) then qO P m a w (λa' w'=>∃C':World->Prop,qG bar C C'/\C' w'/\K C' r a' w') else K C r (a.put m.dst undef) w
def q25(P:Program)(ops:Array Oper)(Q:Act->World->Prop):List (Nat×Nat)->(World->Prop)->List Oper->Act->World->Prop
 |[],C,l,a,w=>wpQuiet P ops C (λa'=>Q a' w) l a
 |n::ns,C,l,a,w=>wpQuiet P ops C (λa'=>q1j P ops n.2 (q25 P ops Q ns) C (l.drop n.1) a' w) (l.take n.1) a
def q0k:List (Nat×Nat)->Nat->Nat
 |[],_=>0
 |n::ns,k=>if k=n.1 then n.2 else if n.1<k then q0k ns (k-(n.1+1)) else 0
theorem q50{mv:Nat->Bool}{bar:Nat->Nat}{C:World->Prop}{Q:Act->World->Prop}{r:List Oper}{w:World}:∀(s:List Oper) (k:Nat) (a:Act),(∀j,j<s.length->mv (k+j)=false) ->
  wpQuiet P ops C (λa'=>q2w P ops mv bar Q r (k+s.length) C a' w) s a->q2w P ops mv bar Q (s++r) k C a w
 |[],k,a,_,h=>by simpa[wpQuiet] using h
 |o::s,k,a,hm,h=>by have h0:mv k=false:=by{have:=hm 0 (by simp);simpa using this};have hm':∀j,j<s.length->mv (k+1+j)=false:=λj hj=>by{have:=hm (j+1) aO;simpa[Qh,QV 1 j] using this};have hk:k+1+s.length=k+(o::s).length:=aO;show q2w P ops mv bar Q (o::(s++r)) k C a w;unfold q2w;unfold wpQuiet at h;split;{rename_i hw;rw[Z1 hw]at h;simp only[h0,ZS,X8];exact Oper.quiet_mono (λa' h'=>q50 s (k+1) a' hm' (by rw[hk];exact h')) h};{rename_i hw;rw[Z0 hw]at h;exact q50 s (k+1) _ hm' (by rw[hk];exact h)}
theorem q2x{mv:Nat->Bool}{bar:Nat->Nat}{Q:Act->World->Prop}:∀(ns:List (Nat×Nat)) (C:World->Prop) (l:List Oper) (k:Nat) (a:Act) (w:World),(∀j,mv (k+j)=q4w (ns.map Prod.fst) j)->(∀j,bar (k+j)=q0k ns j)->q25 P ops Q ns C l a w->q2w P ops mv bar Q l k C a w
 |[],C,l,k,a,w,hm,_,h=>by have:=q50 (P:=P) (ops:=ops) (C:=C) (mv:=mv) (bar:=bar) (Q:=Q) (r:=[]) (w:=w) l k a (λj _=>by rw[hm];rfl) (q1i (λa' h=>by unfold q2w;exact h) l a h);simpa using this
 |n::ns,C,l,k,a,w,hm,hb,h=>by unfold q25 at h;rw[<- List.take_append_drop n.1 l];refine q50 (l.take n.1) k a (λj hj=>?_) (q1i (λa' h'=>?_) _ _ h);{rw[Zq]at hj;rw[hm];simp only[List.map_cons,q4w];have h1:(j==n.1)=false:=aO;have h2:decide (n.1<j)=false:=aO;simp[h1,h2]};{generalize hd:l.drop n.1=d at h';cases d with|nil=>{exact h'.elim}|cons m r=>{have hlen:(l.take n.1).length=n.1:=by{have:(l.drop n.1).length=l.length-n.1:=Qb;rw[hd]at this;simp at this⊢;omega};have hmn:mv (k+(l.take n.1).length)=true:=by{rw[hlen,hm];simp[q4w]};have hbn:bar (k+(l.take n.1).length)=n.2:=by{rw[hlen,hb];simp[q0k]};have hm':∀j,mv (k+(l.take n.1).length+1+j)=q4w (ns.map Prod.fst) j:=λj=>by{rw[hlen,show k+n.1+1+j=k+(n.1+1+j) by omega,hm];simp only[List.map_cons,q4w];have h1:(n.1+1+j==n.1)=false:=aO;have h2:decide (n.1<n.1+1+j)=true:=aO;rw[h1,h2,show n.1+1+j-(n.1+1)=j by omega];simp};have hb':∀j,bar (k+(l.take n.1).length+1+j)=q0k ns j:=λj=>by{rw[hlen,show k+n.1+1+j=k+(n.1+1+j) by omega,hb];simp only[q0k];rw[Z0 (by omega),Z1 (by omega),show n.1+1+j-(n.1+1)=j by omega]};unfold q2w;simp only[q1j]at h';split;{rename_i hw;rw[Z1 hw]at h';refine q4x (λu w' hk=>?_) h';obtain⟨C',hC',hw',hk⟩:=hk;exact⟨C',by rw[hbn];exact hC',hw',q2x ns C' r _ _ w' hm' hb' hk⟩};{rename_i hw;rw[Z0 hw]at h';exact q2x ns C r _ _ w hm' hb' h'}}}
def qwz(ops:Array Oper)(bar:Nat->Nat):Bool:=(List.range ops.size).all λj=>(bar j==0)||((List.range ops.size).all λi=>!(decide (j<i))||(q24 .any j ops.toList 0 #[]).getD i false)&&((bar j==1)||(List.range ops.size).all λi=>!(decide (i<j))||(q24 .any i ops.toList 0 #[]).getD j false)
theorem qlm{bar:Nat->Nat}(h:qwz ops bar=true):qb5 .any ops bar:=λi j hj hi hjs=>by
 simp only[qwz,Qc,ZQ,QH,Z6,Qx,XT,ZM]at h;rcases h j hjs with h1|⟨h1,h2⟩
 .omega
 .refine⟨λhlt=>?_,λhlt hb=>?_⟩
  .rcases h1 i hi with h|h
   .exact absurd hlt h
   .exact h
  .rcases h2 with h2|h2
   .omega
   .rcases h2 i hi with h|h
    .exact absurd hlt h
    .exact h
theorem q9r{C:World->Prop}{K:(World->Prop)->List Oper->Act->World->Prop}{m:Oper}{r:List Oper}{a:Act}{w:World}(hw:Region.wanted m (yielded ops a.tmps)=true)
 (h:∀U:Act->World->Prop,(∀(a':Act) (w':World) (S:Nat->Prop) [DecidablePred S],a'.defers=a.defers->K (λx=>∃y,x=q38 S w' y) r a' w'->U a' w')->m.wp P a w U (λ_ _ _=>False)):q1j P ops 2 K C (m::r) a w:=by simp only[q1j];rw[Z1 hw];exact q75 (h _ λa' w' S _ hd hk=>⟨hd,(λx=>∃y,x=q38 S w' y),⟨(λh=>nomatch h),(λh=>absurd h (by decide))⟩,q01 (Fr.refl S w'),hk⟩)
theorem q04{C:World->Prop}{K:(World->Prop)->List Oper->Act->World->Prop}{m:Oper}{r:List Oper}{a:Act}{w:World}(hw:Region.wanted m (yielded ops a.tmps)=true)
 (h:∀U:Act->World->Prop,(∀a' w',a'.defers=a.defers->C w'->K C r a' w'->U a' w')->m.wp P a w U (λ_ _ _=>False)):q1j P ops 0 K C (m::r) a w:=by simp only[q1j];rw[Z1 hw];exact q75 (h _ λa' w' hd hc hk=>⟨hd,C,qG.refl _ _,hc,hk⟩)
theorem q48{bar:Nat}{C:World->Prop}{K:(World->Prop)->List Oper->Act->World->Prop}{m:Oper}{r:List Oper}{a:Act}{w:World}(hw:Region.wanted m (yielded ops a.tmps)=false)
 (h:K C r (a.put m.dst undef) w):q1j P ops bar K C (m::r) a w:=by simp only[q1j];rw[Z0 (by rw[hw];exact ZC)];exact h
end
theorem q77{P:Program}{id:Nat}{Q:Exit->Act->World->Prop}{a:Act}{w:World}{l:List Oper}(S:Nat->Prop)[DecidablePred S](ns:List (Nat×Nat))(hm:P.follows .mixedOrders=true)(hB:(qll l.toArray (q4w (ns.map Prod.fst))&&qwz l.toArray (q0k ns))=true)
 (h:q25 P l.toArray (λa' w'=>Q .normal a' w') ns (λw'=>∃x,w'=q38 S w x) l a w.drew):(Code.region id l.toArray true).wp P Q a w:=by rw[Z6]at hB;exact q9q (qlm hB.2) hm hB.1 (q01 (Fr.drew (Fr.refl S w))) (q2x ns _ l 0 a w.drew (by simp) (by simp) h)
def tkO:Nat->List Oper->List Oper
 |0,_=>[]
 |_+1,[]=>[]
 |n+1,o::l=>o::tkO n l
def dpO:Nat->List Oper->List Oper
 |0,l=>l
 |_+1,[]=>[]
 |n+1,_::l=>dpO n l
theorem qtg:∀(n:Nat) (l:List Oper),tkO n l=l.take n
 |0,_=>by simp[tkO]
 |n+1,[]=>by simp[tkO]
 |n+1,o::l=>by rw[tkO,qtg n l];rfl
theorem qth:∀(n:Nat) (l:List Oper),dpO n l=l.drop n
 |0,_=>by simp[dpO]
 |n+1,[]=>by simp[dpO]
 |n+1,o::l=>by rw[dpO,qth n l];rfl
def q03(P:Program)(ops:Array Oper)(Q:Act->World->Prop):List (Nat×Nat)->(World->Prop)->List Oper->Act->World->Prop
 |[],C,l,a,w=>wpQuiet P ops C (λa'=>Q a' w) l a
 |n::ns,C,l,a,w=>wpQuiet P ops C (λa'=>q1j P ops n.2 (q03 P ops Q ns) C (dpO n.1 l) a' w) (tkO n.1 l) a
theorem qbo(P:Program)(ops:Array Oper)(Q:Act->World->Prop):∀ns,q03 P ops Q ns=q25 P ops Q ns
 |[]=>rfl
 |n::ns=>by funext C l a w;rw[q03,q25,qbo P ops Q ns,qtg,qth]
theorem q88{P:Program}{id:Nat}{Q:Exit->Act->World->Prop}{a:Act}{w:World}{l:List Oper}(S:Nat->Prop)[DecidablePred S](ns:List (Nat×Nat))
 (h:q03 P l.toArray (λa' w'=>Q .normal a' w') ns (λw'=>∃x,w'=q38 S w x) l a w.drew)(hm:P.follows .mixedOrders=true:=by kernel_rfl)(hB:(qll l.toArray (q4w (ns.map Prod.fst))&&qwz l.toArray (q0k ns))=true:=by kernel_rfl):(Code.region id l.toArray true).wp P Q a w :=
 q77 S ns hm hB (by rw[<- qbo];exact h)
theorem qe4{P:Program}{id:Nat}{Q:Exit->Act->World->Prop}{a:Act}{w:World}{l:List Oper}(ns:List (Nat×Nat))
 (h:q03 P l.toArray (λa' w'=>Q .normal a' w') ns (λw'=>∃x,w'=q38 (λ_=>False) w x) l a w.drew)(hm:P.follows .mixedOrders=true:=by kernel_rfl)(hB:(qll l.toArray (q4w (ns.map Prod.fst))&&qwz l.toArray (q0k ns))=true:=by kernel_rfl):(Code.region id l.toArray true).wp P Q a w :=
 q88 _ ns h hm hB
theorem qwW{P:Program}{ops:Array Oper}{C:World->Prop}{K:(World->Prop)->List Oper->Act->World->Prop}{m:Oper}{r:List Oper}{a:Act}{w:World}
 (h:∀U:Act->World->Prop,(∀a' w',a'.defers=a.defers->C w'->K C r a' w'->U a' w')->m.wp P a w U (λ_ _ _=>False))(hw:Region.wanted m (yielded ops a.tmps)=true:=by rfl):wpQuiet P ops C (λa'=>q1j P ops 0 K C (m::r) a' w) [] a:=wpQuiet_nil (q04 hw h)
theorem qwB{P:Program}{ops:Array Oper}{C:World->Prop}{K:(World->Prop)->List Oper->Act->World->Prop}{m:Oper}{r:List Oper}{a:Act}{w:World}
 (h:∀U:Act->World->Prop,(∀(a':Act) (w':World),a'.defers=a.defers->K (λx=>∃y,x=q38 (λ_=>False) w' y) r a' w'->U a' w')->m.wp P a w U (λ_ _ _=>False))(hw:Region.wanted m (yielded ops a.tmps)=true:=by rfl):wpQuiet P ops C (λa'=>q1j P ops 2 K C (m::r) a' w) [] a:=wpQuiet_nil (q9r hw λU V=>h U λa' w'=>V a' w' (λ_=>False))
structure Ns(l:List (Nat×Nat)):Type where
abbrev Ns.l{l:List (Nat×Nat)}(_:Ns l):List (Nat×Nat):=l
theorem zD(n:Nat){P Q:Prop}(q:Q)(s:Ns [(n,2)]->Q->P:=by
  intro n hQ;with_reducible refine qe4 n.l ?_
  simp only[Ns.l,q03,tkO,dpO]
  repeat(go_big_quiet_step(fail))
  exact qwB hQ):P:=s ⟨⟩ q
theorem zE{P Q:Prop}(q:Q)(s:Q->P:=by
  intro hQ;refine V _ _ rfl ?_;(try simp only[q03,tkO,dpO])
  repeat(go_big_quiet_step(fail))
  exact wpQuiet_nil hQ):P:=s q
theorem zW(ns:List (Nat×Nat)){P Q:Prop}(q:Q)(s:Ns ns->Q->P:=by
  intro n hQ;with_reducible refine qe4 n.l ?_
  simp only[Ns.l,q03,tkO,dpO]
  repeat(go_big_quiet_step(fail))
  exact qwW hQ):P:=s ⟨⟩ q
theorem zB(ns:List (Nat×Nat)){P Q:Prop}(q:Q)(s:Ns ns->Q->P:=by
  intro n hQ;with_reducible refine qe4 n.l ?_
  simp only[Ns.l,q03,tkO,dpO]
  repeat(go_big_quiet_step(fail))
  exact qwB hQ):P:=s ⟨⟩ q
theorem zG{F P Q:Prop}(f:F)(q:Q)(s:F->Q->P:=by
  intro hf hQ;refine V _ _ rfl (q01 hf) ?_;(try simp only[q03,tkO,dpO])
  repeat(go_big_quiet_step(fail))
  exact hQ):P:=s f q
theorem zGW{F P Q:Prop}(f:F)(q:Q)(s:F->Q->P:=by
  intro hf hQ;refine V _ _ rfl (q01 hf) ?_;(try simp only[q03,tkO,dpO])
  repeat(go_big_quiet_step(fail))
  exact qwW hQ):P:=s f q
theorem zGB{F P Q:Prop}(f:F)(q:Q)(s:F->Q->P:=by
  intro hf hQ;refine V _ _ rfl (q01 hf) ?_;(try simp only[q03,tkO,dpO])
  repeat(go_big_quiet_step(fail))
  exact qwB hQ):P:=s f q
theorem zGZ{F P Q:Prop}(f:F)(q:Q)(s:F->Q->P:=by
  intro hf hQ;refine V _ _ rfl (q01 hf) ?_;(try simp only[q03,tkO,dpO])
  repeat(go_big_quiet_step(fail))
  exact wpQuiet_nil hQ):P:=s f q
theorem aG{P Q:Prop}(q:Q)(s:Q->P:=by
  intro hQ
  repeat(go_big_quiet_step(fail))
  exact hQ):P:=s q
theorem zN{P Q:Prop}(q:Q)(s:Q->P:=by
  intro hQ;(try simp only[q03,tkO,dpO]);(try simp only[Act.put,ZA,ZR,ZW])
  repeat(go_big_quiet_step(fail))
  exact hQ):P:=s q
def xh(n:Int):Nat:=if n<0 then((-(n+1))*2+1).toNat else(n*2).toNat
theorem qy5{n:Int}(h:i64 n):xh n<18446744073709551616:=by unfold i64 at h;unfold xh;split <;> omega
def ob(n:Nat):UInt8:=UInt8.ofNat n
theorem qd5{n:Nat}(h:n<256):(ob n).toNat=n:=by unfold ob;rw[UInt8.toNat_ofNat'];omega
def vb:Nat->Nat->List UInt8
 |0,u=>[ob u]
 |k+1,u=>if 128<=u then ob (u%128+128)::vb k (u / 128) else[ob u]
def qi4(n:Int):List UInt8:=vb 10 (xh n)
theorem qv9{k u:Nat}(h:128<=u):vb (k+1) u=ob (u%128+128)::vb k (u / 128):=by rw[vb,if_pos h]
theorem qva{k u:Nat}(h:u<128):vb k u = [ob u]:=by cases k with|zero=>{rfl}|succ k=>rw[vb,if_neg (by omega)]
theorem qy6(k u:Nat):0<(vb k u).length:=by cases k with|zero=>{simp[vb]}|succ k=>{unfold vb;split <;> simp}
theorem qy7(k u:Nat):(vb k u).length<=k+1:=by induction k generalizing u with|zero=>{simp[vb]}|succ k ih=>{unfold vb;split <;> simp;exact ih _}
theorem q9a(n:Int):0<(qi4 n).length/\(qi4 n).length<=11:=⟨qy6 _ _,qy7 _ _⟩
structure Flt where
 (kind proc:Int)
def Flt.ok(x:Flt):Prop:=i64 x.kind/\i64 x.proc
def qY(n:Int):Bool:=decide (0<=n)&&decide (n<5)
theorem qa9{n:Int}:qY n=true↔0<=n/\n<5:=by simp[qY]
theorem qmy{n:Int}(h:0<=n)(k:n<5):qY n=true:=qa9.2 ⟨h,k⟩
theorem qi5{n:Int}(h:¬(0<=n/\n<5)):qY n=false:=by cases e:qY n with|false=>{rfl}|true=>exact absurd (qa9.1 e) h
def q9b(l:List Int)(k:Nat):Int:=if k<l.length/\qY (z7 l k)=true then z7 l k else 0
def q6p(l:List Int)(k:Int):Int:=if qY k=true then q9b l k.toNat else-1
theorem qi6(l:List Int)(k:Nat)(h:k<5):q6p l k=q9b l k:=by unfold q6p;rw[if_pos (qmy (by omega) (by omega))];simp
theorem qr3(l:List Int)(k:Nat):0<=q9b l k/\q9b l k<5:=by unfold q9b;split;{rename_i h;exact qa9.1 h.2};{omega}
theorem qi7(l:List Int)(k:Int) : -1<=q6p l k/\q6p l k<5:=by unfold q6p;split;{have:=qr3 l k.toNat;omega};{omega}
def z2b(L:List Flt)(j:Int):Nat:=(L.filter λf=>f.kind==j).length
def z0j(L:List Flt):Int:=(L.getLast?.map Flt.kind).getD (-1)
def z0k(L:List Flt):Int:=(L.getLast?.map Flt.proc).getD (-1)
def mc(a c:Nat->Int)(k p:Int):Array Value :=
 #[.int .i64 (a 0),.int .i64 (c 0),.int .i64 (a 1),.int .i64 (c 1),.int .i64 (a 2),.int .i64 (c 2),.int .i64 (a 3),.int .i64 (c 3),.int .i64 (a 4),.int .i64 (c 4),.int .i64 k,.int .i64 p,.bool true]
theorem qye{k:Nat}(h:k<5):k=0\/k=1\/k=2\/k=3\/k=4:=by omega
theorem qn0(a c:Nat->Int)(x p:Int){k:Nat}(h:k<5):(mc a c x p)[k*2]?=some (.int .i64 (a k)):=by rcases qye h with rfl|rfl|rfl|rfl|rfl <;> rfl
theorem qyf(a c:Nat->Int)(x p:Int){k:Nat}(h:k<5):(mc a c x p)[k*2+1]?=some (.int .i64 (c k)):=by rcases qye h with rfl|rfl|rfl|rfl|rfl <;> rfl
def qtw(a:Nat->Int)(k j:Nat):Int:=if j<k then a j else 0
theorem qjx(a c:Nat->Int)(x p:Int){k:Nat}(h:k<5):(mc (qtw a k) c x p).setIfInBounds (k*2) (.int .i64 (a k))=mc (qtw a (k+1)) c x p:=by rcases qye h with rfl|rfl|rfl|rfl|rfl <;> rfl
theorem qn1(a c:Nat->Int)(x p:Int){k:Nat}(h:k<5)(h0:a k=0):mc (qtw a k) c x p=mc (qtw a (k+1)) c x p:=by rcases qye h with rfl|rfl|rfl|rfl|rfl <;> simp[mc,qtw,h0]
def qzu(L:List Flt)(j:Nat):Int:=z2b L j
namespace Ca
def q_(ds:List Int)(lv r:Int):Bool:=decide (0<=lv)&&decide (lv<ds.length)&&decide (r<z7 ds lv.toNat)
def qn9(us:List Int)(lv r:Int):Bool:=decide (1<=lv)&&decide (lv<=us.length)&&decide (z7 us (lv.toNat-1)<=r)
def q46(ds us:List Int)(lv r:Int):Int:=if q_ ds lv r then lv+1 else if qn9 us lv r then lv-1 else lv
theorem qez(ds us:List Int)(lv r:Int)(hd:ds.length<=9223372036854775807)(h:i64 lv):i64 (q46 ds us lv r):=by unfold q46 q_ qn9 i64 at*;split;{rename_i h1;simp at h1;omega};{split;{rename_i h1;simp at h1;omega};{omega}}
end Ca
section
variable{P:Program}{ops:Array Oper}{md:Region.Mode}{Q:Exit->Act->World->Prop}
theorem q1g{p:Nat}{m:Oper}{K:Act->World->Prop}{a:Act}{w:World}(hp:ops[p]?=some m)(hw:Region.wanted m (yielded ops a.tmps)=true)
 (h:∀U:Act->World->Prop,(∀a' w',a'.defers=a.defers->K a' w'->U a' w')->m.wp P a w U (λ_ _ _=>False)):q66 P ops p K a w:=by unfold q66;simp only[hp];rw[Z1 hw];exact q75 (h _ λa' w' hd hk=>⟨hd,hk⟩)
def z00(md:Region.Mode)(ops:Array Oper):Bool:=(List.range ops.size).all λi=>(ops[i]?).all λo=>o.after.all λe=>!(Region.binds md e)||decide (e.on<i)
theorem qch(hd:z00 md ops=true){L:Array Bool}(h:Region.ready md ops L = []):∀i,i<ops.size->L.getD i true=true:=by
 intro i
 induction i using Nat.strongRecOn with
 |ind i ih=>
  intro hi;rcases Bool.eq_false_or_eq_true (L.getD i true) with h1|h1
  .exact h1
  .exfalso;have:i∈Region.ready md ops L:=Qt.2 ⟨h1,ops[i],ZD hi,λe he hb=>by
    simp only[z00,Qc,ZQ]at hd;have h2:=hd i hi;rw[ZD hi]at h2;have h2:=Array.all_eq_true_iff_forall_mem.1 (show(ops[i]).after.all (λe=>!(Region.binds md e)||decide (e.on<i))=true from h2) e he;have h3:e.on<i:=by simpa[hb] using h2
    have h4:=ih e.on h3 (by omega);rw[Zv]at h4⊢;cases h5:L[e.on]? with
    |none=>
     exfalso;have h6:L.size<=e.on:=by simpa using h5
     rw[Zv,Q3 (by omega)]at h1;simp at h1
    | some v=>rw[h5]at h4;simpa using h4⟩
   rw[h]at this;cases this
def qlb(L:Array Bool):Nat:=L.toList.countP (λb=>!b)
theorem qg8{L:Array Bool}{i:Nat}(h:L.getD i true=false):qlb L=qlb (L.setIfInBounds i true)+1:=by have hi:i<L.size:=by{rcases ZH i L.size with h1|h1;{exact h1};{rw[Zv,Q3 h1]at h;simp at h}};have h0:L.toList[i]'(by simpa using hi)=false:=by{rw[Zv,ZD hi]at h;simpa using h};unfold qlb;rw[Array.toList_setIfInBounds,List.countP_set (by simpa using hi),h0];have:0<L.toList.countP (λb=>!b):=List.countP_pos_iff.2 ⟨_,ZO (by simpa using hi),by rw[h0];rfl⟩;simp only[Bool.not_false,Bool.not_true,Xy,ZS,X8];omega
theorem qci{L:Array Bool}(h:qlb L=0):Region.ready md ops L = []:=by cases hr:Region.ready md ops L with|nil=>{rfl}|cons i r=>{have hm:i∈Region.ready md ops L:=by{rw[hr];simp};have:=qg8 (Qt.1 hm).1;omega}
theorem qps(J:Array Bool->Act->World->Prop)(hd:z00 md ops=true)(hJ:∀L a w i,L.size=ops.size->J L a w->i∈Region.ready md ops L->q66 P ops i (J (L.setIfInBounds i true)) a w)(hQ:∀L a w,L.size=ops.size->J L a w->(∀i,i<ops.size->L.getD i true=true)->Q .normal a w) :
  ∀(fuel:Nat) (L:Array Bool) (a:Act) (w:World),L.size=ops.size->qlb L<=fuel->J L a w->wpAny P md ops Q fuel L a w
 |0,L,a,w,hs,hf,h=>⟨qci (by omega),hQ L a w hs h (qch hd (qci (by omega)))⟩
 | fuel+1,L,a,w,hs,hf,h=>⟨λh0=>hQ L a w hs h (qch hd h0),λi hi=>by
   have:=qg8 (Qt.1 hi).1;exact q8m (q1v (λa' w' h'=>qps J hd hJ hQ fuel _ a' w' (by simpa using hs) (by omega) h') (hJ L a w i hs h hi))⟩
theorem z1h{L:Array Bool}{i:Nat}(h:i<L.size)(hl:L.getD i true=true):L.getD i false=true:=by rw[Zv,ZD h]at *;exact hl
theorem qdt{id:Nat}{a:Act}{w:World}{l:List Oper}(J:Array Bool->Act->World->Prop)(hm:P.follows .mixedOrders=true)(hd:z00 .any l.toArray=true)(h0:J (Array.replicate l.length false) a w.drew)
 (hJ:∀L a w i,L.size=l.toArray.size->J L a w->i∈Region.ready .any l.toArray L->q66 P l.toArray i (J (L.setIfInBounds i true)) a w)(hQ:∀L a w,J L a w->(∀i,i<l.length->L.getD i false=true)->Q .normal a w):(Code.region id l.toArray true).wp P Q a w :=
 wp_region_any hm (qps J hd hJ (λL a w hs h hl=>hQ L a w h (λi hi=>z1h (by rw[hs];simpa using hi) (hl i (by simpa using hi)))) _ _ _ _ (by simp) (by simpa[qlb] using List.countP_le_length (p:=λb=>!b) (l:=List.replicate l.length false)) (by simpa using h0))
end
def z2u(l:List Oper)(i j:Nat):Bool:=(l[i]?).any λm=>m.after.toList.any λe=>Region.binds .any e&&(e.on==j)
def dO(l:List Oper)(j:Nat):Nat:=((l[j]?).bind Oper.dst).getD 0
def z2t(X:Nat->Value)(k:Nat)(v:Value):Nat->Value:=λn=>if n=k then v else X n
def z2w(l:List Oper)(z:Nat):Bool:=l.length==z+1&&((List.range z).all λj=>(List.range (z+1)).any λk=>decide (j<k)&&z2u l k j)&&(List.range z).all λi=>(List.range z).all λj=>i==j||dO l i != dO l j
theorem z2p{l:List Oper}{L:Array Bool}{i:Nat}(hi:i∈Region.ready .any l.toArray L)(h:z2u l i j=true):L.getD j false=true:=by obtain⟨_,o,ho,hl⟩:=Qt.1 hi;have h0:l[i]?=some o:=by{simpa using ho};unfold z2u at h;rw[h0]at h;obtain⟨e,he,h1⟩:=XS.1 (show(o.after.toList.any λe=>Region.binds .any e&&(e.on==j))=true from h);simp only[Z6,ZM]at h1;rw[<- h1.2];exact hl e (Array.mem_toList_iff.1 he) h1.1
theorem z2q{P:Program}{a:Act}{Q:Exit->Act->World->Prop}{l:List Oper}(z:Nat)(F:(Nat->Value)->Act)(X0:Nat->Value)(G:Nat->Value->World->Prop)(R:Act->World->Prop)
 (hm:P.follows .mixedOrders=true)(hd:z00 .any l.toArray=true)(hc:z2w l z=true)(h0:a=F X0)
 (hG:∀j v u u',G j v u->bW u u'->G j v u')
 (hs:∀i,i<z->∀X u,bW w u->(∀j,j<z->z2u l i j=true->G j (X (dO l j)) u)->q66 P l.toArray i (λa' u'=>∃v,a'=F (z2t X (dO l i) v)/\bW u u'/\G i v u') (F X) u)
 (hz:∀X u,bW w u->(∀j,j<z->G j (X (dO l j)) u)->q66 P l.toArray z R (F X) u)
 (hQ:∀a' u,R a' u->Q .normal a' u):(Code.region id l.toArray true).wp P Q a w:=by simp only[z2w,Z6,ZM,Qc,ZQ,XS,Zt,QH,bne_iff_ne]at hc;obtain⟨⟨hn,h8⟩,hp⟩:=hc;have h4:∀(L:Array Bool),(∀k j,L.getD k false=true->z2u l k j=true->L.getD j false=true)->(∀j,z2u l z j=true->L.getD j false=true)->∀j,j<z->L.getD j false=true:=by{intro L h3 hz;have hr:∀m j,j<z->z-j<=m->L.getD j false=true:=by{intro m;induction m with|zero=>{intro j hj h;omega}|succ m ih=>{intro j hj h;obtain⟨k,hk,hjk,he⟩:=h8 j hj;by_cases hh:k=z;{exact hz j (hh ▸ he)};{exact h3 k j (ih k zo zo) he}}};exact λj hj=>hr _ j hj nL};refine qdt (λL a' u=>(∀k j,L.getD k false=true->z2u l k j=true->L.getD j false=true)/\((L.getD z false=true/\R a' u)\/(L.getD z false=false/\∃X,a'=F X/\bW w u/\∀j,j<z->L.getD j false=true->G j (X (dO l j)) u))) hm hd ?_ ?_ ?_;{have hf:∀k,(Array.replicate l.length false).getD k false=false:=λk=>by{rw[Zv,Array.getElem?_replicate];split <;> rfl};exact⟨λk j h=>(by rw[hf]at h;cases h),.inr ⟨hf z,X0,h0,bR.drew,λj _ h=>(by rw[hf]at h;cases h)⟩⟩};{rintro L a' u i hL⟨h3,hJ⟩ hi;have hg:i<L.size:=by{have:=q47 hi;omega};have h6:L.getD i false=false:=by{have h:=(Qt.1 hi).1;rw[Zv,ZD hg]at h⊢;exact h};have hsz:l.toArray.size=z+1:=by{simpa using hn};have ha:(L.setIfInBounds i true).getD i false=true:=by{rw[Zv,X6 hg];rfl};have h5:∀k j,(L.setIfInBounds i true).getD k false=true->z2u l k j=true->(L.setIfInBounds i true).getD j false=true:=by{intro k j h1 h2;by_cases hk:i=k;{subst hk;exact XN (z2p hi h2)};{rw[QA false hk]at h1;exact XN (h3 k j h1 h2)}};rcases hJ with⟨hz1,-⟩|⟨hz0,X,rfl,hB,hX⟩;{exfalso;by_cases h7:i=z;{rw[h7,hz1]at h6;cases h6};{have:=h4 L h3 (λj h=>h3 z j hz1 h) i zo;rw[this]at h6;cases h6}};{by_cases h7:i=z;{subst h7;exact q1v (λa' u' h=>⟨h5,.inl ⟨ha,h⟩⟩) (hz X u hB λj hj=>hX j hj (h4 L h3 (λj h=>z2p hi h) j hj))};{refine q1v (λa' u' h=>⟨h5,.inr ⟨by rw[QA false h7];exact hz0,?_⟩⟩) (hs i zo X u hB λj hj h=>hX j hj (z2p hi h));obtain⟨v,rfl,hb,hv⟩:=h;refine⟨_,rfl,hB.trans (hb.mono hB.size),λj hj hl=>?_⟩;unfold z2t;by_cases h9:i=j;{subst h9;rw[Z1 rfl];exact hv};{rw[QA false h9]at hl;rw[Z0 (λe=>((hp i zo j hj).elim h9 λh=>h e.symm))];exact hG _ _ _ _ (hX j hj hl) hb}}}};{rintro L a' u⟨-,hJ⟩ hl;have hq:=hl z zo;rcases hJ with⟨-,h⟩|⟨h,-⟩;{exact hQ _ _ h};{rw[hq]at h;cases h}}
def qS(t:Array Value)(ds:List Nat)(X:Nat->Value):Array Value:=ds.foldl (λt k=>t.setIfInBounds k (X k)) t
def z2y:Nat->(Nat->Prop)->Prop
 |0,_=>True
 |n+1,p=>z2y n p/\p n
theorem z2x{p:Nat->Prop}:∀ {n:Nat},z2y n p↔∀j,j<n->p j
 |0=>by simp[z2y]
 |n+1=>by
  rw[z2y,z2x];exact⟨λh j hj=>by
   by_cases q:j=n
   .rw[q];exact h.2
   .exact h.1 j zo,λh=>⟨λj hj=>h j zo,h n zo⟩⟩
theorem z2s:∀(ds:List Nat) (t:Array Value),qS t ds (λk=>t.getD k undef)=t
 |[],_=>rfl
 |d::ds,t=>by show qS (t.setIfInBounds d (t.getD d undef)) ds (λk=>t.getD k undef)=t;have e:t.setIfInBounds d (t.getD d undef)=t:=by{apply Array.ext_getElem?;intro i;by_cases h:d=i;{subst h;by_cases hl:d<t.size;{rw[X6 hl,Zv,ZD hl];rfl};{rw[Q3 (by simpa using hl),Q3 (by simpa using hl)]}};{rw[Xs h]}};rw[e];exact z2s ds t
def setL(ds:List Nat)(vs:List Value):List Nat->(Nat->Value)->Nat->Value
 |[],X=>X
 |j::r,X=>z2t (setL ds vs r X) (ds.getD j 0) (vs.getD j undef)
theorem z2r{ds:List Nat}{vs:List Value}{X:Nat->Value}:∀ {r:List Nat},(∀j∈r,X (ds.getD j 0)=vs.getD j undef)->setL ds vs r X=X
 |[],_=>rfl
 |j::r,h=>by rw[setL,z2r λk hk=>h k (Q5 _ hk)];funext n;unfold z2t;split;{rename_i e;rw[e,h j zp]};{rfl}
theorem z2o{P:Program}{t:Array Value}{Q:Exit->Act->World->Prop}{l:List Oper}(z p:Nat)(ds:List Nat)(dl:List (List Nat))(vs:List Value)(T:TypeId)(cs:Array Value)
 (hm:P.follows .mixedOrders=true)(hd:(z00 .any l.toArray&&z2w l z&&((List.range z).all λi=>!(z2u l i p))&&((List.range z).all λi=>ds.getD i 0==dO l i)&&((List.range z).all λi=>(dl.getD i []).all λj=>decide (j<z)&&z2u l i j))=true)(hp:p<z)
 (hs:z2y z λi=>i≠p->∀X u,bW w u->q66 P l.toArray i (λa' u'=>a'=⟨qS t ds (z2t (setL ds vs (dl.getD i []) X) (ds.getD i 0) (vs.getD i undef)),[]⟩/\bW u u') ⟨qS t ds (setL ds vs (dl.getD i []) X),[]⟩ u)
 (hf:∀X u,bW w u->q66 P l.toArray p (λa' u'=>∃q,a'=⟨qS t ds (z2t X (ds.getD p 0) (pp q)),[]⟩/\bW u u'/\Blk u' q T cs/\u.heap.size<=q) ⟨qS t ds X,[]⟩ u)
 (hz:∀X u q,bW w u->(∀j,j<z->j≠p->X (ds.getD j 0)=vs.getD j undef)->X (ds.getD p 0)=pp q->Blk u q T cs->w.heap.size<=q->q66 P l.toArray z (λa' u'=>Q .normal a' u') ⟨qS t ds X,[]⟩ u) :
  (Code.region id l.toArray true).wp P Q ⟨t,[]⟩ w:=by simp only[Z6,Qc,ZQ,Qx,ZM,Zt]at hd;obtain⟨⟨⟨⟨h1,h2⟩,h3⟩,h4⟩,h6⟩:=hd;refine z2q z (λX=>⟨qS t ds X,[]⟩) (λk=>t.getD k undef) (λj v u=>if j=p then ∃q,v=pp q/\Blk u q T cs/\w.heap.size<=q else v=vs.getD j undef) (λa u=>Q .normal a u) hm h1 h2 (by rw[z2s]) ?_ ?_ ?_ (λ_ _ h=>h);{intro j v u u' h hb;split at h;{rename_i e;rw[Z1 e];obtain⟨q,h1,h2,h3⟩:=h;exact⟨q,h1,h2.keep hb,h3⟩};{rename_i e;rw[Z0 e];exact h}};{intro i hi X u hB hg;by_cases e:i=p;{subst e;refine q1v (λa' u' h=>?_) (hf X u hB);obtain⟨q,h1,h2,h3,h5⟩:=h;exact⟨_,by rw[h1,h4 i hi],h2,by rw[Z1 rfl];exact⟨q,rfl,h3,Zb hB.size h5⟩⟩};{have hX:setL ds vs (dl.getD i []) X=X:=z2r λj hj=>by{obtain⟨h7,h0⟩:=h6 i hi j hj;have:=hg j h7 h0;rw[Z0 (λe=>by rw[e,h3 i hi]at h0;cases h0)]at this;rw[h4 j h7];exact this};have:=(z2x.1 hs) i hi e X u hB;rw[hX]at this;exact q1v (λa' u' h=>⟨vs.getD i undef,by rw[h.1,h4 i hi],h.2,by rw[Z0 e]⟩) this}};{intro X u hB hg;obtain⟨q,h1,h2,h3⟩:∃q,X (dO l p)=pp q/\Blk u q T cs/\w.heap.size<=q:=by{have:=hg p hp;rwa [Z1 rfl]at this};exact hz X u q hB (λj hj e=>by have:=hg j hj;rw[h4 j hj];rwa [Z0 e]at this) (by rw[h4 p hp];exact h1) h2 h3}
end Go.Proofs.YtncfcbohiodnnaaGreat
