/- Parts of this seat's claims. -/
import Derived.Test.YtncfcbohiodnnaaGreatW4
import Derived.LoopIn
import Derived.LoopNIn
import Derived.Maps.OwnIn
import Derived.OwnWalkIn
import Derived.RangeFuncLeaves
import Derived.RangeFuncNested
import Derived.Shelf.Abstract
import Derived.TacticsInMore
set_option maxRecDepth 100000
set_option maxHeartbeats 6400000
namespace Go.Proofs.YtncfcbohiodnnaaGreat
open Go.RowKit
variable{w w' W wa wo W':World} {c n pt r B j b m mb q base cap id B0:Nat} {A:Option Addr} {a code what:Int} {cs:Array Value}
section
open Go.RowKit Go.Shelf
def Grw(T T':Nat->Prop) (w w':World):Prop:=∀ b,T' b->(T b\/w.heap.size<=b)/\b < w'.heap.size
def qy2(K:Nat->Prop) (J:Nat->(Nat->Prop)->World->Prop):Prop:=∀ k T W W',J k T W->Fr (λb=>¬ T b/\¬ K b) W W'->J k T W'
def Bnd(T:Nat->Prop) (W:World):Prop:=∀ b,T b->b < W.heap.size
theorem Grw.bnd{T T':Nat->Prop} (h:Grw T T' w w'):Bnd T' w':=λb hb=>(h b hb).2
theorem Grw.refl{T:Nat->Prop} (h:Bnd T w):Grw T T w w:=λb hb=>⟨.inl hb,h b hb⟩
theorem Grw.trans{T T' T'':Nat->Prop} {w'':World} (h:Grw T T' w w') (hs:w.heap.size<=w'.heap.size) (k:Grw T' T'' w' w''):Grw T T'' w w'':=λb hb=>by
 obtain⟨h1,h2⟩:=k b hb;refine⟨?_,h2⟩;rcases h1 with h1 | h1
 .exact(h b h1).1
 .exact .inr zo
theorem Fr.grw{T T':Nat->Prop} {w'':World} (h:Fr T w w') (hg:Grw T T' w w') (k:Fr T' w' w''):Fr T w w'' :=
 h.trans' k λb hb hT=>(hg b hT).1.resolve_right zo
theorem Fr.putObj{S:Nat->Prop} (h:Fr S w w') {l:Nat} (hl:l < w.heap.size->S l) (o:Obj):Fr S w (w'.putObj l o) :=
 h.grown (grownBy_putObj' w' l o) λk hk e=>by cases e;exact hl hk
def qx7(P:Program) (g:FuncId) (lb:Array Value) (enc:Nat->Array Value) (N:Nat) (K:Nat->Prop) (w:World):Prop :=
 ∀ (l:Nat) (J Jx:Nat->(Nat->Prop)->World->Prop) (T:Nat->Prop) (W:World),Fr (λb=>¬ K b) w W->qy2 K J->qy2 K Jx ->
  (∀ b,T b->¬ K b)->Bnd T W ->
  (∀ k T W1,k < N->J k T W1->Bnd T W1->YieldAt Fence.wide 0 P l (enc k) W1 λe W'=>∃ T',Fr T W1 W'/\Grw T T' W1 W'/\((e = .returned (.bool true)/\J (k + 1) T' W')\/(e = .returned (.bool false)/\Jx (k + 1) T' W'))) ->
  J 0 T W ->
  Calls P g (#[.func (.yield l) #[] #[]] ++ lb) W λe W'=>(∃ v,e = .returned v)/\∃ T',Fr T W W'/\Grw T T' W W'/\(J N T' W'\/∃ k,k<=N/\Jx k T' W')
def qv2(I:Nat->(Nat->Prop)->World->Prop) (Ix:Code->Nat->(Nat->Prop)->World->Prop) (k:Nat) (T:Nat->Prop) (W:World):Exit->Act->World->Prop
 | .normal,_,W'=>∃ T',Fr T W W'/\Grw T T' W W'/\I (k + 1) T' W'
 | .ret,_,W'=>∃ T',Fr T W W'/\Grw T T' W W'/\Ix .ret (k + 1) T' W'
 | .exit id,_,W'=>∃ T',Fr T W W'/\Grw T T' W W'/\Ix (.exit id) (k + 1) T' W'
 | .goto t,_,W'=>∃ T',Fr T W W'/\Grw T T' W W'/\Ix (.goto t) (k + 1) T' W'
 | .panic _,_,_=>False
 | .outgrown,_,_=>False
def qgt(T:Nat->Prop) (D L:Nat) (b:Nat):Prop:=T b\/b=D\/b=L
theorem qd2{P:Program} {g:Operand} {ps:Array Tmp} {assign body:Code} {Q:Exit->Act->World->Prop} {a:Act} {gf:Nat} {lb:Array Value} (hg:a.eval g = .func (.func gf) #[] lb) (eg:∀ args w,(callFunc gf args).run P w = .ok (.enter gf args) w)
  {enc:Nat->Array Value} {N:Nat} {w0:World} {Kp:Nat->Prop} (hseq:qx7 P gf lb enc N Kp w0) (hKp:∀ b,Kp b->b < w0.heap.size) (hb0:Fr (λb=>¬ Kp b) w0 w) (hps:∀ k,(enc k).size=ps.size)
  (I:Nat->(Nat->Prop)->World->Prop) (Ix:Code->Nat->(Nat->Prop)->World->Prop) (hI:qy2 Kp I) (hIx:∀ c,qy2 Kp (Ix c))
  (T:Nat->Prop) (hT0:∀ b,T b->¬ Kp b) (hT:Bnd T w) (h0:I 0 T w)
  (A:Nat->Act->(Nat->Prop)->World->Prop) (hA:∀ a',qy2 Kp (λk T W=>A k a' T W))
  (hassign:∀ (l k:Nat) (T:Nat->Prop) (W:World) (K:Act->World->Prop),k < N->I k T W->Bnd T W->(∀ a' T' W',Fr T W W'->Grw T T' W W'->A k a' T' W'->K a' W') ->
   assign.wpIn (Fence.wide.inRound l) 0 P (Exit.then K (λ_ _ _=>False)) { tmps:=(ps.zip (enc k)).foldl (λt (p,v)=>t.setIfInBounds p v) a.tmps,defers:=[] } W)
  (hbody:∀ (l k:Nat) (a':Act) (T:Nat->Prop) (W:World),k < N->A k a' T W->Bnd T W->body.wpIn (Fence.wide.inRound l) 0 P (qv2 I Ix k T W) a' W)
  (hdone:∀ (D:Nat) (T':Nat->Prop) (W:World),w.heap.size<=D->¬ T' D->Fr T w W->Grw T T' w W->I N T' W->W.heap[D]?=some (.deferred (some []))->Q .normal { a with defers:={ target := .collected D,args:=#[] } :: a.defers } W)
  (hstop:∀ (D:Nat) (c:Code) (k:Nat) (T':Nat->Prop) (W:World),k<=N->w.heap.size<=D->¬ T' D->Fr T w W->Grw T T' w W->Ix c k T' W->W.heap[D]?=some (.deferred (some []))->c.wpIn Fence.wide n P Q { a with defers:={ target := .collected D,args:=#[] } :: a.defers } W) :
  (Code.rangeFunc g ps assign body).wpIn Fence.wide n P Q a w:=by
 refine wpIn_rangeFunc ?_;intro fn hfn;show ∃ _,_;obtain⟨hc,h5⟩:∃ hc:LoopState->Option Code->Loop,hc=λst pe=>{ state:=st,pending:=pe,fn,tmps:=a.tmps,params:=ps,assign,body,defers:=w.heap.size }:=⟨_,rfl⟩
 obtain⟨W1,H0⟩:∃ W1,(w.alloc (.deferred (some []))).alloc (.loop (hc .ready none))=W1:=⟨_,rfl⟩
 have Hf:W1.heap[w.heap.size + 1]?=some (.loop (hc .ready none)):=by
  rw[<- H0];have:=World.alloc_heap_new (w.alloc (.deferred (some []))) (.loop (hc .ready none));rwa [World.size_alloc]at this
 have He:W1.heap[w.heap.size]?=some (.deferred (some [])):=by
  rw[<- H0];exact(Below.heap_alloc _ _ _ zp).trans (World.alloc_heap_new w _)
 have hsz1:W1.heap.size=w.heap.size + 2:=by rw[<- H0];simp
 have H4:∀ S,Fr S w W1:=λS=>by rw[<- H0];exact((Fr.refl S w).alloc _).alloc _
 have Hh:Fr (λb=>¬ Kp b) w0 W1:=hb0.trans (H4 _);have hss:=hb0.size;have ht:¬ Kp (w.heap.size + 1):=λh=>by have:=hKp _ h;omega
 refine⟨w.heap.size + 1,[{ target := .collected w.heap.size,args:=#[] }],W1,{ target := .fn (.func gf) lb,args:=#[.func (.yield (w.heap.size + 1)) #[] #[]] },W1,gf,
  #[.func (.yield (w.heap.size + 1)) #[] #[]] ++ lb,W1,?_,?_,?_,?_,(λh=>by cases h),callsIn_wide.2 ?_⟩
 .rw[<- H0,h5];exact run_enterLoop_outer _ _ _ _ _
 .simp only[resolve,hg];simp[go_sem]
 .intro f' hf';trivial
 .simp[invoke,go_sem,eg]
 refine(hseq (w.heap.size + 1)
   (λk T W=>∃ T0,I k T0 W/\(∀ b,T b↔qgt T0 w.heap.size (w.heap.size + 1) b)/\¬ T0 w.heap.size/\¬ T0 (w.heap.size + 1)/\W.heap[w.heap.size + 1]?=some (.loop (hc .ready none))/\W.heap[w.heap.size]?=some (.deferred (some [])))
   (λk T W=>∃ c T0,Ix c k T0 W/\(∀ b,T b↔qgt T0 w.heap.size (w.heap.size + 1) b)/\¬ T0 w.heap.size/\¬ T0 (w.heap.size + 1)/\W.heap[w.heap.size + 1]?=some (.loop (hc .done (some c)))/\W.heap[w.heap.size]?=some (.deferred (some [])))
   (qgt T w.heap.size (w.heap.size + 1)) W1 Hh ?_ ?_ ?_ ?_ ?_ ?_).mono ?_
 .rintro k T1 W W' ⟨T0,hi,h6,h8,h9,hl,hk⟩ hf;refine⟨T0,hI _ _ _ _ hi (hf.mono λb _ h=>⟨λh'=>h.1 ((h6 b).2 (.inl h')),h.2⟩),h6,h8,h9,?_,?_⟩
  .exact(hf.block _ (Array.getElem?_eq_some_iff.1 hl).1 (λh=>h.1 ((h6 _).2 (.inr (.inr rfl))))).trans hl
  .exact(hf.block _ (Array.getElem?_eq_some_iff.1 hk).1 (λh=>h.1 ((h6 _).2 (.inr (.inl rfl))))).trans hk
 .rintro k T1 W W' ⟨c,T0,hi,h6,h8,h9,hl,hk⟩ hf;refine⟨c,T0,hIx _ _ _ _ _ hi (hf.mono λb _ h=>⟨λh'=>h.1 ((h6 b).2 (.inl h')),h.2⟩),h6,h8,h9,?_,?_⟩
  .exact(hf.block _ (Array.getElem?_eq_some_iff.1 hl).1 (λh=>h.1 ((h6 _).2 (.inr (.inr rfl))))).trans hl
  .exact(hf.block _ (Array.getElem?_eq_some_iff.1 hk).1 (λh=>h.1 ((h6 _).2 (.inr (.inl rfl))))).trans hk
 .rintro b (h | rfl | rfl)
  .exact hT0 b h
  .exact λh=>by have:=hKp _ h;omega
  .exact λh=>by have:=hKp _ h;omega
 .rintro b (h | rfl | rfl)
  .have:=hT b h;omega
  .omega
  .omega
 ·
  rintro k T1 W H3 ⟨T0,hi,h6,h8,h9,hl,hk⟩ Hc;have Hb:Bnd T0 W:=λb hb=>Hc b ((h6 b).2 (.inl hb));have hlt:w.heap.size + 1 < W.heap.size:=(Array.getElem?_eq_some_iff.1 hl).1;have hy:=run_yield (P:=P) (args:=enc k) hl (by rw[h5];exact hps k);rw[h5]at hy
  refine⟨fn,_,assign,body,hy,roundIn_of_wpIn hfn (hassign _ k T0 W _ H3 hi Hb ?_)⟩;clear hy;intro a' Ta Wa hfa hga hax;have H2:¬ Ta w.heap.size:=λh=>(hga _ h).1.elim h8 (λh=>by omega);have hv:¬ Ta (w.heap.size + 1):=λh=>(hga _ h).1.elim h9 (λh=>by omega);have Ha:=(hfa.block _ zo h9).trans hl;have Hk:=(hfa.block _ zo h8).trans hk;have H6:w.heap.size + 1 < Wa.heap.size:=(Array.getElem?_eq_some_iff.1 Ha).1;refine⟨_,run_beginRound Ha (by rw[h5]),?_⟩;obtain⟨Wb,H1⟩:∃ Wb,Wa.putObj (w.heap.size + 1) (.loop { hc .ready none with state := .busy })=Wb:=⟨_,rfl⟩
  rw[H1];have Hn:Wb.heap[w.heap.size + 1]?=some (.loop { hc .ready none with state := .busy }):=by rw[<- H1];exact World.putObj_heap_same H6
  have Hm:Wb.heap[w.heap.size]?=some (.deferred (some [])):=by rw[<- H1];exact(World.putObj_heap_other zo).trans Hk
  have hszb:Wb.heap.size=Wa.heap.size:=by rw[<- H1];simp
  have H8:∀ S:Nat->Prop,S (w.heap.size + 1)->Fr S Wa Wb:=λS hS=>by rw[<- H1];exact(Fr.refl S Wa).putObj (λ_=>hS) _
  refine wpIn_mono (hbody _ k a' Ta Wb H3 (hA a' k Ta _ _ hax (H8 _ ⟨hv,ht⟩)) (λb hb=>by have:=(hga b hb).2;omega)) ?_;have fin:∀ (jump:Option Code) (W3:World) (T3:Nat->Prop),Fr Ta Wb W3->Grw Ta T3 Wb W3 ->
    ∃ W4,(Instr.endRound (w.heap.size + 1) jump).run P W3 = .ok (.bool jump.isNone) W4/\(∀ S:Nat->Prop,S (w.heap.size + 1)->Fr S W3 W4)/\W4.heap.size=W3.heap.size/\¬ T3 w.heap.size/\¬ T3 (w.heap.size + 1) /\
     W4.heap[w.heap.size + 1]?=some (.loop (hc (if jump.isNone then .ready else .done) jump))/\W4.heap[w.heap.size]?=some (.deferred (some [])) /\
     Fr T1 W W4/\Grw T1 (qgt T3 w.heap.size (w.heap.size + 1)) W W4:=λjump W3 T3 ha hd=>by
   have h7:¬ T3 w.heap.size:=λh=>(hd _ h).1.elim H2 (λh=>by omega);have h3:¬ T3 (w.heap.size + 1):=λh=>(hd _ h).1.elim hv (λh=>by omega);have H9:=(ha.block _ zo hv).trans Hn;have Hj:=(ha.block _ zo H2).trans Hm;have H5:=(Array.getElem?_eq_some_iff.1 H9).1;have he:=run_endRound (P:=P) jump H9;have hh:Fr T1 W W3:=((hfa.mono λb _ h=>(h6 b).2 (.inl h)).trans' (H8 T1 ((h6 _).2 (.inr (.inr rfl)))) (λ_ _ h=>h)).trans' ha (λb hb h=>by
    rcases(hga b h).1 with h' | h'
    .exact(h6 b).2 (.inl h')
    .omega)
   refine⟨_,by rw[h5]at he ⊢;exact he,λS hS=>(Fr.refl S W3).putObj (λ_=>hS) _,zp,h7,h3,World.putObj_heap_same H5,(World.putObj_heap_other zo).trans Hj,?_,?_⟩
   .exact hh.putObj (λ_=>(h6 _).2 (.inr (.inr rfl))) _
   .have hs:=ha.size;have hsa:=hfa.size;rintro b (h | rfl | rfl)
    .obtain⟨h1,h2⟩:=hd b h;refine⟨?_,by simpa using h2⟩;rcases h1 with h1 | h1
     .rcases(hga b h1).1 with h4 | h4
      .exact .inl ((h6 b).2 (.inl h4))
      .exact .inr h4
     .exact .inr zo
    .exact⟨.inl ((h6 _).2 (.inr (.inl rfl))),by simp;omega⟩
    .exact⟨.inl ((h6 _).2 (.inr (.inr rfl))),by simp;omega⟩
  rintro e a3 W3 hp;cases e with
  | normal =>
   obtain⟨T3,ha,hd,hn⟩:=hp;obtain⟨W4,hr,hj,H7,h7,h3,hu,hq,hh,hm⟩:=fin none W3 T3 ha hd;exact⟨_,_,hr,_,hh,hm,.inl ⟨rfl,T3,hI _ _ _ _ hn (hj _ ⟨h3,ht⟩),λb=>Iff.rfl,h7,h3,hu,hq⟩⟩
  | ret =>
   obtain⟨T3,ha,hd,hn⟩:=hp;obtain⟨W4,hr,hj,H7,h7,h3,hu,hq,hh,hm⟩:=fin (some .ret) W3 T3 ha hd;exact⟨_,_,hr,_,hh,hm,.inr ⟨rfl,.ret,T3,hIx _ _ _ _ _ hn (hj _ ⟨h3,ht⟩),λb=>Iff.rfl,h7,h3,hu,hq⟩⟩
  | exit id =>
   obtain⟨T3,ha,hd,hn⟩:=hp;obtain⟨W4,hr,hj,H7,h7,h3,hu,hq,hh,hm⟩:=fin (some (.exit id)) W3 T3 ha hd;exact⟨_,_,hr,_,hh,hm,.inr ⟨rfl,.exit id,T3,hIx _ _ _ _ _ hn (hj _ ⟨h3,ht⟩),λb=>Iff.rfl,h7,h3,hu,hq⟩⟩
  | goto t =>
   obtain⟨T3,ha,hd,hn⟩:=hp;obtain⟨W4,hr,hj,H7,h7,h3,hu,hq,hh,hm⟩:=fin (some (.goto t)) W3 T3 ha hd;exact⟨_,_,hr,_,hh,hm,.inr ⟨rfl,.goto t,T3,hIx _ _ _ _ _ hn (hj _ ⟨h3,ht⟩),λb=>Iff.rfl,h7,h3,hu,hq⟩⟩
  | panic ch=>exact hp.elim
  | outgrown=>exact hp.elim
 .have h6:¬ T w.heap.size:=λh=>by have:=hT _ h;omega
  have Hg:¬ T (w.heap.size + 1):=λh=>by have:=hT _ h;omega
  exact⟨T,hI _ _ _ _ h0 (H4 _),λb=>Iff.rfl,h6,Hg,Hf,He⟩
 ·
  have hx:∀ (Te T0:Nat->Prop) (W2:World),Fr (qgt T w.heap.size (w.heap.size + 1)) W1 W2->Grw (qgt T w.heap.size (w.heap.size + 1)) Te W1 W2->(∀ b,Te b↔qgt T0 w.heap.size (w.heap.size + 1) b)->¬ T0 w.heap.size->¬ T0 (w.heap.size + 1)->∀ o,Fr T w (W2.putObj (w.heap.size + 1) o)/\Grw T T0 w (W2.putObj (w.heap.size + 1) o):=λTe T0 W2 hf hg hz h8 h9 o=>by
   constructor
   .refine Fr.putObj (((H4 T)).trans' hf (λb hb h=>?_)) (λh=>by omega) o;rcases h with h | rfl | rfl
    .exact h
    .omega
    .omega
   .intro b hb;obtain⟨h1,h2⟩:=hg b ((hz b).2 (.inl hb));refine⟨?_,by simpa using h2⟩;rcases h1 with (h1 | rfl | rfl) | h1
    .exact .inl h1
    .exact absurd hb h8
    .exact absurd hb h9
    .exact .inr zo
  rintro e W2 ⟨⟨v,rfl⟩,Te,hf,hg,(⟨T0,hi,hz,h8,h9,hl,hk⟩ | ⟨k,H3,c,T0,hi,hz,h8,h9,hl,hk⟩)⟩
  .obtain⟨h1,h2⟩:=hx Te T0 W2 hf hg hz h8 h9 (.loop { hc .ready none with state := .exhausted });have he:=run_endLoop (P:=P) hl (by rw[h5];simp);refine⟨none,_,by rw[h5]at he;exact he,?_⟩;exact hdone _ T0 _ nL h8 (by rw[h5]at h1;exact h1) (by rw[h5]at h2;exact h2) (hI _ _ _ _ hi ((Fr.refl _ W2).putObj (λ_=>⟨h9,ht⟩) _)) ((World.putObj_heap_other zo).trans hk)
  .obtain⟨h1,h2⟩:=hx Te T0 W2 hf hg hz h8 h9 (.loop { hc .done (some c) with state := .exhausted });have he:=run_endLoop (P:=P) hl (by rw[h5];simp);refine⟨some c,_,by rw[h5]at he;exact he,?_⟩;exact hstop _ c k T0 _ H3 nL h8 (by rw[h5]at h1;exact h1) (by rw[h5]at h2;exact h2) (hIx _ _ _ _ _ hi ((Fr.refl _ W2).putObj (λ_=>⟨h9,ht⟩) _)) ((World.putObj_heap_other zo).trans hk)
section
variable{P:Program} {n:Nat}
end
theorem q8p{F:Fence} {nF:Nat} {P:Program} {ops:Array Oper} {rest:List Oper} {o:Oper} {a:Act} {Q:Exit->Act->World->Prop} (w:World) (hgd:o.guard=none) (s x:Operand) (t:TypeId)
  (ho:o.op = .call { callee := .builtin .append,args:=#[s,x],argTypes:=#[t,t] })
  (base:Nat) (e:TypeId) (i:TypeInfo) (z:Value) (size bytes m:Nat) (ht:P.underlying t=some (.slice e)) (hi:P.info? e=some i) (hz:i.zero=some z)
  (hsize:i.size=size) (hby:i.bytes=bytes) (hzs:z.cells.size=size) (hsz:0 < size) (hb8:bytes<=1000000)
  (v:Value) (n:Nat) (xs:List Value) (hs:a.eval s=v) (hown:w.ownsRow base e size v n xs) (cs:Array Value) (hcs:cs.size=m * size) (h1:∀ u ∈ cs.toList,u.oneCell'=true)
  (hx:a.eval x = .slice (some ⟨w.heap.size,0,none⟩) m m) (hn:n + m<=1000001) (hbase:base<=w.heap.size)
  (h:∀ v' w',w'.ownsRow base e size v' (n + m) (xs ++ cs.toList)->Fr (λk=>v.ownBlock=some k) w w'->(v'.ownBlock=v.ownBlock\/∃ g,v'.ownBlock=some g/\w.heap.size<=g)->wpListIn F nF P ops Q rest (a.put o.dst v') w') :
  wpListIn F nF P ops Q (o :: rest) a (w.alloc (.cells cs e)):=by
 have h0:(n + m) * bytes<=140737488355328:=Nat.le_trans (Nat.mul_le_mul hn hb8) zd;refine wpListIn_append_own_at (w:=w.alloc (.cells cs e)) hgd s x t ho base e i z size bytes ht hi hz hsize hby hzs hsz v n xs hs (hown.alloc _) ⟨w.heap.size,0,none⟩ m m cs.toList hx (by simpa using hcs) ?_ h1 (by unfold maxLen;omega) h0 (by simp;omega) ?_
 .intro j u hu;have h4:(⟨w.heap.size,0,none⟩:Addr).add j=⟨w.heap.size,j,none⟩:=by rw[q11,Nat.zero_add]
  rw[h4,cell_of_row _ _ j cs e (0,0) (heap_alloc_new w _)];simpa using hu
 .intro v' w' h2 h3 _ h5;refine h v' w' h2 ?_ ?_
  .exact((Fr.refl _ w).alloc _).grown h3 (λk _ hk=>hk)
  .rcases h5 with h5 | h5
   .exact .inl h5
   .exact .inr ⟨_,h5,zp⟩
end
namespace Ca
def _root_.Go.Proofs.YtncfcbohiodnnaaGreat.Md.v(m:Md):Value := .agg #[ii m.frame,m.wins.v]
def _root_.Go.Proofs.YtncfcbohiodnnaaGreat.Fm.v(x:Fm):Value := .agg (Fm.lw x)
theorem turn_any(x:Cf) {w:World} (hx:x.ok w) (mode want:Int) :
  cP 183 #[x.v,ii mode,ii want] w λe w'=>e = .returned (ii (turnS x.modes.l.length mode want))/\bW w w':=by
 have hn:=hx.2.2.1.1.len;have hb:=zA w (.cells #[x.parts.v,x.chans.v,x.modes.v,x.pw.levels.v,x.pw.naps.v,ii x.pw.sw,ii x.pw.idle,ii x.pw.change,ii x.pw.quant,ii x.pw.slow,ii x.pw.ppm,x.shed.down.v,x.shed.up.v] 33);have HT:Hid (turnS x.modes.l.length mode want=if 0<=want/\want < x.modes.l.length then want else mode):=rfl;simp only[Hd.v]at hb;simp only[Cf.v];by_cases h1:0<=want
 .by_cases h2:want < x.modes.l.length
  .refine inC ?_;go_in;go_wp2_with fail;go_ret;exact⟨by rw[HT.out,if_pos ⟨h1,h2⟩];rfl,hb⟩
  .refine inC ?_;go_in;go_wp2_with fail;go_ret;exact⟨by rw[HT.out,if_neg zo];rfl,hb⟩
 .refine inC ?_;go_in;go_wp2_with fail;go_ret;exact⟨by rw[HT.out,if_neg zo];rfl,hb⟩
theorem qt6:(Tryz.prog.info? 175).map (λi=>(i.zero,i.size,i.bytes))=some (some (.agg #[ii 0,ii 0,ii 0]),3,24):=zk
theorem qhq(m:Md) (at_:Int) (k:Nat) (hk:k < m.wins.l.length):(m.wins.l.take (k + 1)).map (slotS at_)=(m.wins.l.take k).map (slotS at_) ++ [slotS at_ (atD Wn0 m.wins.l k)]:=by
 rw[q4l Wn0 _ _ hk,List.map_append];rfl
theorem slots_any(m:Md) {w:World} (hm:m.ok w) (h100:m.wins.l.length<=1000) (at_:Int) (_ha:i64 at_) :
  cP 65 #[m.v,ii at_] w λe w'=>∃ v,e = .returned v/\w'.ownsRow w.heap.size 175 3 v (slotsS m at_).length ((slotsS m at_).flatMap St.f)/\bW w w':=by
 obtain⟨i0,h9,hb,hd,he⟩:=info_parts qt6;have hu:Tryz.prog.underlying 172=some (.slice 175):=zk;have h6:=qhq m at_;obtain⟨fr,⟨WA,wc,wl⟩⟩:=m;have hw:=hm.2;have h5:=hw.1;simp only[]at h5 h100 h6;have HN:=h5.len;simp only[Md.v,Hd.v];unfold i64 at _ha;unfold slotsS;simp only[];refine inC ?_;go_in;go_upto_region 1 with fail;have h4:=zA w (.cells #[ii fr,.slice WA wl.length wc] 94);have b0:=Blk.new w 94 #[ii fr,.slice WA wl.length wc];generalize w.alloc (.cells #[ii fr,.slice WA wl.length wc] 94)=w0 at h4 b0 ⊢;have c1:w0.cell? ⟨w.heap.size,1,none⟩=some (.slice WA wl.length wc):=b0.cell 1;go_wp2_with fail;obtain⟨wo,rfl⟩:∃ wo:World,wo=w:=⟨_,rfl⟩
 go_loopw [5,11] (λv i wr=>∃ k:Nat,k<=wl.length/\i = .int .i64 (k:Int)/\wr.ownsRow wo.heap.size 175 3 v k (((wl.take k).map (slotS at_)).flatMap St.f)/\bW wo wr) (λ_ i _=>wl.length - (intOf i).toNat)
 case atStart=>exact⟨0,zo,rfl,World.ownsRow_nil _ _ _ _,h4⟩
 case round =>
  clear c1 b0 h4;obtain⟨k,hk,rfl,h0,h3⟩:=hrel;by_cases h8:k < wl.length
  .obtain⟨bb,o,rfl,hbb,hc⟩:=(h5.keep h3).at_ Wn0 h8;have x0:wr.cell? ⟨bb,o + k * 3,none⟩=some (ii (atD Wn0 wl k).part):=hc 0 _ rfl;have x1:wr.cell? ⟨bb,o + k * 3 + 1,none⟩=some (ii (atD Wn0 wl k).start):=hc 1 _ rfl;have x2:wr.cell? ⟨bb,o + k * 3 + 2,none⟩=some (ii (atD Wn0 wl k).len):=hc 2 _ rfl;have HS:=zhd (h6 k h8);clear hc h6;generalize atD Wn0 wl k=q at x0 x1 x2 HS;obtain⟨q0,q1,q2⟩:=q;simp only[slotS]at x0 x1 x2 HS;go_upto_region 5 with fail;have b6:=Blk.new wr 96 #[ii q0,ii q1,ii q2];have h2:=zA wr (.cells #[ii q0,ii q1,ii q2] 96);generalize wr.alloc (.cells #[ii q0,ii q1,ii q2] 96)=w3 at b6 h2 ⊢;have h7:=h3.trans (h2.mono h3.size);have h1:=q74 h0 h2;generalize wr.heap.size=g6 at b6 ⊢;have y0:w3.cell? ⟨g6,0,none⟩=some (ii q0):=b6.cell 0;have y1:w3.cell? ⟨g6,1,none⟩=some (ii q1):=b6.cell 1;have y2:w3.cell? ⟨g6,2,none⟩=some (ii q2):=b6.cell 2;have hz3:=h7.size;clear x0 x1 x2 h0 h2;go_wp2_with (at_builtin;refine q6r w3 zr _ _ 172 zr wo.heap.size 175 i0 _ 3 24 hu h9 hb hd he rfl zd zd _ k _ zr h1 #[ii q0,ii (wrap64 (at_ + q1)),ii (wrap64 (wrap64 (at_ + q1) + q2))] rfl (by simp[Value.oneCell']) zr zo zo ?_;intro v' w4 hown4 hf4 hat4);refine⟨⟨k + 1,zo,by go_num,?_,?_⟩,by simp[intOf];omega⟩
   .rw[HS.out,List.flatMap_append];exact hown4
   .exact qlp h7 h1 hf4
  .obtain rfl:k=wl.length:=zo;go_wp2_with fail;go_ret;rw[List.length_map];rw[List.take_length]at h0
   exact⟨_,rfl,h0,h3⟩
end Ca
namespace Ca
def q85(x:Cf) (p:Pg) (f:Fm):Pg×Bool:=match stepS x p f with
 | none=>(Pg0,false)
 | some q=>(q,true)
theorem qpn{x:Cf} (hx:x.ok w) {p:Pg} (hp:PgOk x p) {f:Fm} (_hf:f.ok w) :
  cP 125 #[p.v,x.v,f.v] w λe w'=>e = .returned (.tuple #[(q85 x p f).1.v,.bool (q85 x p f).2])/\bW w w':=by
 have hn:=hx.2.2.1.1.len;obtain⟨he,ha,hm,hl⟩:=hp;have hb:=((((zA w (.cells #[ii p.at_,ii p.end_,ii p.mode,ii p.level] 104)).alloc zp (.cells (Cf.lw x) 33)).alloc (by simp;omega) (.cells (Fm.lw f) 78)).alloc (by simp;omega) (.cells #[ii Pg0.at_,ii Pg0.end_,ii Pg0.mode,ii Pg0.level] 104))
 simp only[Pg0]at hb;have b0:=(((Blk.new w 104 #[ii p.at_,ii p.end_,ii p.mode,ii p.level]).alloc (.cells (Cf.lw x) 33)).alloc (.cells (Fm.lw f) 78)).alloc (.cells #[ii Pg0.at_,ii Pg0.end_,ii Pg0.mode,ii Pg0.level] 104);have b1:=((Blk.new (w.alloc (.cells #[ii p.at_,ii p.end_,ii p.mode,ii p.level] 104)) 33 (Cf.lw x)).alloc (.cells (Fm.lw f) 78)).alloc (.cells #[ii Pg0.at_,ii Pg0.end_,ii Pg0.mode,ii Pg0.level] 104);have b2:=(Blk.new ((w.alloc (.cells #[ii p.at_,ii p.end_,ii p.mode,ii p.level] 104)).alloc (.cells (Cf.lw x) 33)) 78 (Fm.lw f)).alloc (.cells #[ii Pg0.at_,ii Pg0.end_,ii Pg0.mode,ii Pg0.level] 104);have b3:=Blk.new (((w.alloc (.cells #[ii p.at_,ii p.end_,ii p.mode,ii p.level] 104)).alloc (.cells (Cf.lw x) 33)).alloc (.cells (Fm.lw f) 78)) 104 #[ii Pg0.at_,ii Pg0.end_,ii Pg0.mode,ii Pg0.level];simp only[World.size_alloc]at b1 b2 b3;simp only[Pg0]at b0 b1 b2 b3;simp only[Pg.v,Fm.v];simp only[Cf.v];refine inC ?_;go_in;go_upto_region 1 with fail;generalize (((w.alloc (.cells #[ii p.at_,ii p.end_,ii p.mode,ii p.level] 104)).alloc (.cells (Cf.lw x) 33)).alloc (.cells (Fm.lw f) 78)).alloc (.cells #[ii 0,ii 0,ii 0,ii 0] 104)=w1 at hb b0 b1 b2 b3 ⊢;have c0:w1.cell? ⟨w.heap.size + 1,0,none⟩=some (.slice x.parts.A x.parts.l.length x.parts.c):=b1.cell 0;have c1:w1.cell? ⟨w.heap.size + 1,1,none⟩=some (.slice x.chans.A x.chans.l.length x.chans.c):=b1.cell 1;have c2:w1.cell? ⟨w.heap.size + 1,2,none⟩=some (.slice x.modes.A x.modes.l.length x.modes.c):=b1.cell 2;have c3:w1.cell? ⟨w.heap.size + 1,3,none⟩=some (.slice x.pw.levels.A x.pw.levels.l.length x.pw.levels.c):=b1.cell 3;have c4:w1.cell? ⟨w.heap.size + 1,4,none⟩=some (.slice x.pw.naps.A x.pw.naps.l.length x.pw.naps.c):=b1.cell 4;have c5:w1.cell? ⟨w.heap.size + 1,5,none⟩=some (ii x.pw.sw):=b1.cell 5;have c6:w1.cell? ⟨w.heap.size + 1,6,none⟩=some (ii x.pw.idle):=b1.cell 6;have c7:w1.cell? ⟨w.heap.size + 1,7,none⟩=some (ii x.pw.change):=b1.cell 7;have c8:w1.cell? ⟨w.heap.size + 1,8,none⟩=some (ii x.pw.quant):=b1.cell 8;have c9:w1.cell? ⟨w.heap.size + 1,9,none⟩=some (ii x.pw.slow):=b1.cell 9;have h9:w1.cell? ⟨w.heap.size + 1,10,none⟩=some (ii x.pw.ppm):=b1.cell 10;have hc:w1.cell? ⟨w.heap.size + 1,11,none⟩=some (.slice x.shed.down.A x.shed.down.l.length x.shed.down.c):=b1.cell 11;have hd:w1.cell? ⟨w.heap.size + 1,12,none⟩=some (.slice x.shed.up.A x.shed.up.l.length x.shed.up.c):=b1.cell 12;have p1:w1.cell? ⟨w.heap.size,1,none⟩=some (ii p.end_):=b0.cell 1;have p2:w1.cell? ⟨w.heap.size,2,none⟩=some (ii p.mode):=b0.cell 2;have p3:w1.cell? ⟨w.heap.size,3,none⟩=some (ii p.level):=b0.cell 3;have f0:w1.cell? ⟨w.heap.size + 1 + 1,0,none⟩=some (ii f.reading):=b2.cell 0;have f1:w1.cell? ⟨w.heap.size + 1 + 1,1,none⟩=some (ii f.mode):=b2.cell 1;have hs:=hb.size;have l0:=b0.lt;have l1:=b1.lt;have l2:=b2.lt;have h3:=q1k.keep hx hb;obtain⟨q,hq⟩:∃ q:Pg,q=⟨p.end_,0,turnS x.modes.l.length p.mode f.mode,q46 x.shed.down.l x.shed.up.l p.level f.reading⟩:=⟨_,rfl⟩
 have HQ:=zhd hq;clear hq;go_cut [8] (λv W=>∃ g,v = .pointer (some ⟨g,0,none⟩)/\Blk W g 104 #[.int .i64 q.at_,.int .i64 q.end_,.int .i64 q.mode,.int .i64 q.level]/\bW w1 W/\w1.heap.size<=g)
 case first =>
  apply z2o 17 16 [10,11,12,13,14,15,16,17,18,19,20,21,22,23,24,25,8] [[],[0],[],[],[3],[],[5],[2,4,6],[],[8],[],[10],[],[12],[9,11,13],[1,7,14]] [_,_,_,_,_,_,_,_,_,_,_,_,_,_,_,_,undef] 104 #[ii 0,ii 0,ii 0,ii 0] zk zk zd
  case hs =>
   refine⟨⟨⟨⟨⟨⟨⟨⟨⟨⟨⟨⟨⟨⟨⟨⟨⟨trivial,?_⟩,?_⟩,?_⟩,?_⟩,?_⟩,?_⟩,?_⟩,?_⟩,?_⟩,?_⟩,?_⟩,?_⟩,?_⟩,?_⟩,?_⟩,?_⟩,λh=>absurd rfl h⟩
   all_goals
    intro _ X u hB;simp only[frX,setL,z2t,List.foldl,List.setIfInBounds_toArray,List.set_cons_succ,List.set_cons_zero,List.getD_cons_zero,List.getD_cons_succ,Nat.reduceEqDiff,reduceIte];have k0:=(b0.keep hB).cell;have k1:=(b1.keep hB).cell;have k2:=(b2.keep hB).cell;have m0:=(b0.keep hB).lt;have m1:=(b1.keep hB).lt;have m2:=(b2.keep hB).lt;have hT:=turn_any x (w:=u) (q1k.keep h3 hB) p.mode f.mode;have hN:=next_any (w:=u) (qjb.keep h3.2.2.2.2 hB).1 (qjb.keep h3.2.2.2.2 hB).2 p.level f.reading hl;refine q1g rfl rfl (λK' hK'=>?_);go_wp2_with (first | (refine hT.mono ?_;rintro _ v1 ⟨rfl,hv⟩) | (refine hN.mono ?_;rintro _ v1 ⟨rfl,hv⟩));refine hK' _ _ rfl ⟨rfl,?_⟩
    first | exact bR | exact hv
  case hf =>
   intro X u hB;simp only[frX,z2t,List.foldl,List.setIfInBounds_toArray,List.set_cons_succ,List.set_cons_zero,List.getD_cons_zero,List.getD_cons_succ,Nat.reduceEqDiff,reduceIte];refine q1g rfl rfl (λK' hK'=>?_);go_wp2_with fail;exact hK' _ _ rfl ⟨u.heap.size,rfl,zA u _,Blk.new _ _ _,nL⟩
  case hz =>
   intro X u q hB hg hq k hwq;have h5:=hg 15 zd zd;simp only[List.getD_cons_zero,List.getD_cons_succ]at h5 hq;simp only[frX,List.foldl,List.setIfInBounds_toArray,List.set_cons_succ,List.set_cons_zero];rw[h5,hq];clear hg hq h5;have kc:=k.cell;have kf:=k.frozen;have kl:=k.lt;refine q1g rfl rfl (λK' hK'=>?_);go_wp2_with fail;have nK:=Blk.row (vs:=[ii p.end_,ii 0,ii (turnS x.modes.l.length p.mode f.mode),ii (q46 x.shed.down.l x.shed.up.l p.level f.reading)]) k rfl;have nB:=Below.row (g:=q) [ii p.end_,ii 0,ii (turnS x.modes.l.length p.mode f.mode),ii (q46 x.shed.down.l x.shed.up.l p.level f.reading)] 0 hB hwq;refine hK' _ _ rfl ?_;obtain rfl:=HQ.out;go_wp2_with fail;go_meet
   case rel=>exact⟨q,rfl,nK,nB,hwq⟩
 case rest =>
  obtain⟨g,rfl,bq,hB,hg⟩:=hcut;clear f0 f1 p1 p2 p3 c0 c1 c2 c3 c4 c5 c6 c7 c8 c9 h9 hc hd;have h4:=hb.trans (hB.mono hb.size);have br:=b3.below hB b3.lt;have bc:=b1.below hB b1.lt;have hj:=q1k.keep h3 hB;have h0:w.heap.size<=w.heap.size + 1 + 1 + 1:=zo;have h6:w.heap.size + 1 + 1 + 1 < g:=by have:=b3.lt;omega
  have k2:wc.cell? ⟨w.heap.size + 1,2,none⟩=some (.slice x.modes.A x.modes.l.length x.modes.c):=bc.cell 2;have hq:=HQ.out;clear HQ b0 b1 b2 b3 bc;have h7:0<=turnS x.modes.l.length p.mode f.mode:=by unfold turnS;split <;> omega
  have hS:stepS x p f=if turnS x.modes.l.length p.mode f.mode < 0\/(x.modes.l.length:Int)<=turnS x.modes.l.length p.mode f.mode then none else
   if (atD Md0 x.modes.l (turnS x.modes.l.length p.mode f.mode).toNat).frame < 1\/1152921504606846976 - p.end_ < (atD Md0 x.modes.l (turnS x.modes.l.length p.mode f.mode).toNat).frame then none else
   some ⟨p.end_,p.end_ + (atD Md0 x.modes.l (turnS x.modes.l.length p.mode f.mode).toNat).frame,turnS x.modes.l.length p.mode f.mode,q46 x.shed.down.l x.shed.up.l p.level f.reading⟩:=rfl
  generalize turnS x.modes.l.length p.mode f.mode=m at h7 hS hq;obtain⟨k,rfl⟩:=Int.eq_ofNat_of_zero_le h7;rw[Int.toNat_natCast]at hS
  subst hq;simp only at bq;generalize q46 x.shed.down.l x.shed.up.l p.level f.reading=lv at bq hS;have q0:wc.cell? ⟨g,0,none⟩=some (ii p.end_):=bq.cell 0;have q1:wc.cell? ⟨g,1,none⟩=some (ii 0):=bq.cell 1;have q2:wc.cell? ⟨g,2,none⟩=some (ii (k:Int)):=bq.cell 2;have q3:wc.cell? ⟨g,3,none⟩=some (ii lv):=bq.cell 3;have fq:∀ i,wc.frozen? ⟨g,i,none⟩=false:=bq.frozen;have fr:∀ i,wc.frozen? ⟨w.heap.size + 1 + 1 + 1,i,none⟩=false:=br.frozen;have r0:wc.cell? ⟨w.heap.size + 1 + 1 + 1,0,none⟩=some (ii 0):=br.cell 0;have r1:wc.cell? ⟨w.heap.size + 1 + 1 + 1,1,none⟩=some (ii 0):=br.cell 1;have r2:wc.cell? ⟨w.heap.size + 1 + 1 + 1,2,none⟩=some (ii 0):=br.cell 2;have r3:wc.cell? ⟨w.heap.size + 1 + 1 + 1,3,none⟩=some (ii 0):=br.cell 3;have hlq:=bq.lt;have hh:=br.lt;clear h3 hb hB hg hs l0 l1 l2;generalize hgg:w.heap.size + 1 + 1 + 1=gr at h0 h6 br fr r0 r1 r2 r3 hh ⊢;generalize w.heap.size + 1=gc at k2 ⊢;clear hgg;by_cases hk:k < x.modes.l.length
  .obtain⟨mb,mo,hA,hmb,h8⟩:=(qe9.keep hj.2.2.1 bR).1.at_ Md0 hk;have m0:wc.cell? ⟨mb,mo + k * 2,none⟩=some (ii (atD Md0 x.modes.l k).frame):=h8 0 _ rfl;rw[hA]at k2
   clear hA h8;rw[if_neg zo]at hS
   generalize (atD Md0 x.modes.l k).frame=long at m0 hS;by_cases h1:long < 1
   .rw[if_pos zo]at hS
    have HN:Hid (q85 x p f=(Pg0,false)):=by unfold Hid q85;rw[hS]
    clear hS;go_wp2_with fail;have rK:Blk (setRow wc gr 0 [ii 0,ii 0,ii 0,ii 0]) gr 104 _:=Blk.row br rfl;have rB:=Below.row (g:=gr) [ii 0,ii 0,ii 0,ii 0] 0 h4 h0;unfold setRow at rK rB;unfold setRow at rK rB;unfold setRow at rK rB;unfold setRow at rK rB;unfold setRow at rK rB;generalize (((wc.setCell ⟨gr,0,none⟩ (ii 0)).setCell ⟨gr,1,none⟩ (ii 0)).setCell ⟨gr,2,none⟩ (ii 0)).setCell ⟨gr,3,none⟩ (ii 0)=w9 at rK rB ⊢;have y0:w9.cell? ⟨gr,0,none⟩=some (ii 0):=rK.cell 0;have y1:w9.cell? ⟨gr,1,none⟩=some (ii 0):=rK.cell 1;have y2:w9.cell? ⟨gr,2,none⟩=some (ii 0):=rK.cell 2;have y3:w9.cell? ⟨gr,3,none⟩=some (ii 0):=rK.cell 3;refine bodyPost_ret (v := .tuple #[.agg #[ii 0,ii 0,ii 0,ii 0],.bool false]) (by simp[results,Tryz.results125,go_sem,y0,y1,y2,y3]) rfl ⟨?_,rB⟩;rw[HN.out];rfl
   .by_cases h2:1152921504606846976 - p.end_ < long
    .rw[if_pos zo]at hS
     have HN:Hid (q85 x p f=(Pg0,false)):=by unfold Hid q85;rw[hS]
     clear hS;go_wp2_with fail;have rK:Blk (setRow wc gr 0 [ii 0,ii 0,ii 0,ii 0]) gr 104 _:=Blk.row br rfl;have rB:=Below.row (g:=gr) [ii 0,ii 0,ii 0,ii 0] 0 h4 h0;unfold setRow at rK rB;unfold setRow at rK rB;unfold setRow at rK rB;unfold setRow at rK rB;unfold setRow at rK rB;generalize (((wc.setCell ⟨gr,0,none⟩ (ii 0)).setCell ⟨gr,1,none⟩ (ii 0)).setCell ⟨gr,2,none⟩ (ii 0)).setCell ⟨gr,3,none⟩ (ii 0)=w9 at rK rB ⊢;have y0:w9.cell? ⟨gr,0,none⟩=some (ii 0):=rK.cell 0;have y1:w9.cell? ⟨gr,1,none⟩=some (ii 0):=rK.cell 1;have y2:w9.cell? ⟨gr,2,none⟩=some (ii 0):=rK.cell 2;have y3:w9.cell? ⟨gr,3,none⟩=some (ii 0):=rK.cell 3;refine bodyPost_ret (v := .tuple #[.agg #[ii 0,ii 0,ii 0,ii 0],.bool false]) (by simp[results,Tryz.results125,go_sem,y0,y1,y2,y3]) rfl ⟨?_,rB⟩;rw[HN.out];rfl
    .rw[if_neg zo]at hS
     have HN:Hid (q85 x p f=(⟨p.end_,p.end_ + long,(k:Int),lv⟩,true)):=by unfold Hid q85;rw[hS]
     clear hS;go_wp2_with fail;have sB:=h4.setCell (p:=⟨g,1,none⟩) (by simp;omega) (ii (p.end_ + long));have sK:Blk (wc.setCell ⟨g,1,none⟩ (ii (p.end_ + long))) gr 104 #[ii 0,ii 0,ii 0,ii 0]:=br.far (p:=⟨g,1,none⟩) (by simp;omega) _;have rK:Blk (setRow (wc.setCell ⟨g,1,none⟩ (ii (p.end_ + long))) gr 0 [ii p.end_,ii (p.end_ + long),ii (k:Int),ii lv]) gr 104 _:=Blk.row sK rfl;have rB:=Below.row (g:=gr) [ii p.end_,ii (p.end_ + long),ii (k:Int),ii lv] 0 sB h0;unfold setRow at rK rB;unfold setRow at rK rB;unfold setRow at rK rB;unfold setRow at rK rB;unfold setRow at rK rB;generalize ((((wc.setCell ⟨g,1,none⟩ (ii (p.end_ + long))).setCell ⟨gr,0,none⟩ (ii p.end_)).setCell ⟨gr,1,none⟩ (ii (p.end_ + long))).setCell ⟨gr,2,none⟩ (ii (k:Int))).setCell ⟨gr,3,none⟩ (ii lv)=w9 at rK rB ⊢;have y0:w9.cell? ⟨gr,0,none⟩=some (ii p.end_):=rK.cell 0;have y1:w9.cell? ⟨gr,1,none⟩=some (ii (p.end_ + long)):=rK.cell 1;have y2:w9.cell? ⟨gr,2,none⟩=some (ii (k:Int)):=rK.cell 2;have y3:w9.cell? ⟨gr,3,none⟩=some (ii lv):=rK.cell 3;refine bodyPost_ret (v := .tuple #[.agg #[ii p.end_,ii (p.end_ + long),ii (k:Int),ii lv],.bool true]) (by simp[results,Tryz.results125,go_sem,y0,y1,y2,y3]) rfl ⟨?_,rB⟩;rw[HN.out]
  .rw[if_pos zo]at hS
   have HN:Hid (q85 x p f=(Pg0,false)):=by unfold Hid q85;rw[hS]
   clear hS;go_wp2_with fail;have rK:Blk (setRow wc gr 0 [ii 0,ii 0,ii 0,ii 0]) gr 104 _:=Blk.row br rfl;have rB:=Below.row (g:=gr) [ii 0,ii 0,ii 0,ii 0] 0 h4 h0;unfold setRow at rK rB;unfold setRow at rK rB;unfold setRow at rK rB;unfold setRow at rK rB;unfold setRow at rK rB;generalize (((wc.setCell ⟨gr,0,none⟩ (ii 0)).setCell ⟨gr,1,none⟩ (ii 0)).setCell ⟨gr,2,none⟩ (ii 0)).setCell ⟨gr,3,none⟩ (ii 0)=w9 at rK rB ⊢;have y0:w9.cell? ⟨gr,0,none⟩=some (ii 0):=rK.cell 0;have y1:w9.cell? ⟨gr,1,none⟩=some (ii 0):=rK.cell 1;have y2:w9.cell? ⟨gr,2,none⟩=some (ii 0):=rK.cell 2;have y3:w9.cell? ⟨gr,3,none⟩=some (ii 0):=rK.cell 3;refine bodyPost_ret (v := .tuple #[.agg #[ii 0,ii 0,ii 0,ii 0],.bool false]) (by simp[results,Tryz.results125,go_sem,y0,y1,y2,y3]) rfl ⟨?_,rB⟩;rw[HN.out];rfl
end Ca
theorem qg6{P:Program} {ops:Array Oper} {rest:List Oper} {o:Oper} {a:Act} {Q:Exit->Act->World->Prop} (w:World) (hgd:o.guard=none) (s x:Operand) (t:TypeId)
  (ho:o.op = .call { callee := .builtin .append,args:=#[s,x],argTypes:=#[t,t] })
  (base:Nat) (e:TypeId) (i:TypeInfo) (z:Value) (size bytes:Nat) (ht:P.underlying t=some (.slice e)) (hi:P.info? e=some i) (hz:i.zero=some z)
  (hsize:i.size=size) (hby:i.bytes=bytes) (hzs:z.cells.size=size) (hsz:0 < size) (hb8:bytes<=1000000)
  (v:Value) (n:Nat) (xs:List Value) (hs:a.eval s=v) (hown:w.ownsRow base e size v n xs) (cs:Array Value) (hcs:cs.size=size) (h1:∀ u ∈ cs.toList,u.oneCell'=true)
  (hx:a.eval x = .slice (some ⟨w.heap.size,0,none⟩) 1 1) (hn:n<=100000000) (hbase:base<=w.heap.size)
  (h:∀ v' w',w'.ownsRow base e size v' (n + 1) (xs ++ cs.toList)->Fr (λk=>v.ownBlock=some k) w w'->(v'.ownBlock=v.ownBlock\/∃ g,v'.ownBlock=some g/\w.heap.size<=g)->wpList P ops Q rest (a.put o.dst v') w') :
  wpList P ops Q (o :: rest) a (w.alloc (.cells cs e)):=by
 have h0:(n + 1) * bytes<=140737488355328:=Nat.le_trans (Nat.mul_le_mul (show n + 1<=100000001 by omega) hb8) zd;refine wpList_append_own_at (w.alloc (.cells cs e)) hgd s x t ho base e i z size bytes ht hi hz hsize hby hzs hsz v n xs hs (hown.alloc _) ⟨w.heap.size,0,none⟩ 1 1 cs.toList hx (by simpa using hcs) ?_ h1 (by unfold maxLen;omega) h0 (by simp;omega) ?_
 .intro j u hu;have h4:(⟨w.heap.size,0,none⟩:Addr).add j=⟨w.heap.size,j,none⟩:=by rw[q11,Nat.zero_add]
  rw[h4,cell_of_row _ _ j cs e (0,0) (heap_alloc_new w _)];simpa using hu
 .intro v' w' h2 h3 _ h5;refine h v' w' h2 ?_ ?_
  .exact((Fr.refl _ w).alloc _).grown h3 (λk _ hk=>hk)
  .rcases h5 with h5 | h5
   .exact .inl h5
   .exact .inr ⟨_,h5,zp⟩
structure WrC(W:World) (B0 g:Nat) (T:Nat->Prop) (l:List UInt8) (lg:Bool):Prop where
 blk:∃ v,Blk W g 134 #[v,.bool lg]/\W.ownsRow (g + 1) 5 1 v l.length (l.map bv)/\∀ b,v.ownBlock=some b->T b
 tg:T g
 lo:∀ b,T b->B0<=b
 bnd:Bnd T W
theorem WrC.lt{g:Nat} {T:Nat->Prop} {l:List UInt8} {lg:Bool} (h:WrC W B0 g T l lg):g < W.heap.size:=h.bnd g h.tg
theorem WrC.fr{g:Nat} {T S:Nat->Prop} {l:List UInt8} {lg:Bool} (h:WrC W B0 g T l lg) (hf:Fr S W W') (hS:∀ b,T b->¬ S b):WrC W' B0 g T l lg:=by
 obtain⟨⟨v,h1,h2,h3⟩,h4,h5,h6⟩:=h;exact⟨⟨v,h1.fr hf (hS g h4),q5d h2 hf (λb _ hb=>hS b (h3 b hb)),h3⟩,h4,h5,λb hb=>Nat.lt_of_lt_of_le (h6 b hb) hf.size⟩
theorem WrC.keep{g:Nat} {T:Nat->Prop} {l:List UInt8} {lg:Bool} (h:WrC W B0 g T l lg) (hb:bW W W'):WrC W' B0 g T l lg :=
 h.fr (fO hb (λ_=>False)) (λ_ _ h=>h)
def Wro(W:World) (B0 g:Nat) (T:Nat->Prop) (l:List UInt8) (lg:Bool) (e:Ending) (W':World):Prop:=e = .returned (.tuple #[])/\∃ T',WrC W' B0 g T' l lg/\Fr T W W'/\Grw T T' W W'
theorem q9n{g:Nat} {T:Nat->Prop} {l:List UInt8} {lg:Bool} (h:WrC W B0 g T l lg) (hB:B0<=W.heap.size) (hl:l.length<=90000000) (x:UInt8) :
  cP 140 #[pp g,.slice (some ⟨W.heap.size,0,none⟩) 1 1] (W.alloc (.cells #[bv x] 5)) (Wro W B0 g T (l ++ [x]) lg):=by
 obtain⟨i0,h9,hc,hd,he⟩:=info_parts byte_info;have hgl:=h.lt;obtain⟨⟨v,h1,h4,h5⟩,h6,h7,h8⟩:=h;have h2:=h1.alloc (.cells #[bv x] 5);have c0:=h2.cell 0;refine inC ?_;go_in;go_wp2_with (at_builtin;refine qg6 W zr _ _ 38 zr (g + 1) 5 i0 _ 1 1 Tryz.underlying38 h9 hc hd he rfl zd zd _ l.length _ zr h4 #[bv x] rfl (by simp[bv,Value.oneCell']) zr zo zo ?_;intro v' w2 hown2 hf2 hat2;obtain⟨A',c',rfl,-,-⟩:=Sl.of_own hown2;have h0:=h1.fr hf2 (λe=>qe0 h4 (Nat.lt_succ_self g) e.symm);have hc2:w2.cell? ⟨g,0,none⟩=some v:=h0.cell 0;have hz2':w2.frozen? ⟨g,0,none⟩=false:=h0.frozen 0);go_end0;have h3:Fr (λk=>k=g) w2 (w2.setCell ⟨g,0,none⟩ (.slice A' (l.length + 1) c')):=Fr.setCell (S:=λk=>k=g) (Fr.refl _ w2) (p:=⟨g,0,none⟩) (λ_=>rfl) _;have hsz:=hf2.size;refine⟨rfl,λb=>T b\/(W.heap.size<=b/\b < w2.heap.size),⟨⟨_,h0.set_ 0 _,?_,λb hb=>?_⟩,.inl h6,λb hb=>?_,λb hb=>?_⟩,(hf2.mono (λk _ hk=>h5 k hk)).setCell (p:=⟨g,0,none⟩) (λ_=>h6) _,λb hb=>?_⟩
 .rw[List.length_append,List.length_singleton,List.map_append];exact quh hown2 h3 (λk hk=>by omega)
 .have ha:=(hown2.lt _ hb).2;rcases hat2 with h | ⟨g',h,hg'⟩
  .exact .inl (h5 b (h ▸ hb))
  .rw[h]at hb
   cases hb;exact .inr ⟨hg',ha⟩
 .rcases hb with hb | hb
  .exact h7 b hb
  .omega
 .rcases hb with hb | hb
  .have:=h8 b hb;simp;omega
  .simpa using hb.2
 .rcases hb with hb | hb
  .exact⟨.inl hb,by have:=h8 b hb;simp;omega⟩
  .exact⟨.inr hb.1,by simpa using hb.2⟩
theorem q86{g:Nat} {T:Nat->Prop} {l:List UInt8} {lg:Bool} (h:WrC W B0 g T l lg) (hB:B0<=W.heap.size) (hl:l.length<=80000000) {n:Int} (hn:i64 n) :
  cP 84 #[pp g,ii n] W (Wro W B0 g T (l ++ qi4 n) lg):=by
 have h7:=qy5 hn;have HV:Hid (qi4 n=vb 10 (tnd n)):=rfl;have hgl:=h.lt;refine inC ?_;go_in;go_wp2_with fail;refine(qjr hn).mono ?_;rintro e w1 ⟨rfl,rfl⟩;generalize tnd n=u0 at h7 HV ⊢;have hd:u0 < 128 ^ 11:=Nat.lt_of_lt_of_le h7 zd;go_wp2_with fail;go_loopw [4] (λu wr=>∃ (k uu:Nat) (dn:List UInt8) (T':Nat->Prop),k<=10/\u = .int .u64 (uu:Int)/\uu < 18446744073709551616/\uu < 128 ^ (11 - k)/\dn.length=k/\Hid (qi4 n=dn ++ vb (10 - k) uu)/\WrC wr B0 g T' (l ++ dn) lg/\Fr T W wr/\Grw T T' W wr) (λu _=>(intOf u).toNat)
 case atStart=>exact⟨0,u0,[],T,zo,rfl,h7,hd,rfl,HV,by simpa using h,Fr.refl _ _,Grw.refl h.bnd⟩
 case round =>
  obtain⟨k,uu,dn,T',hk,rfl,hul,ha,hc,HD,hw,h0,h2⟩:=hrel;have h1:(l ++ dn).length<=90000000:=by simp;omega
  have h9:=Nat.le_trans hB h0.size;have hglw:=hw.lt;by_cases h4:128<=uu
  .have h10:k < 10:=by
    rcases Nat.lt_or_ge k 10 with h | h
    .exact h
    .obtain rfl:k=10:=zo;simp at ha;omega
   have hb:uu / 128 < 128 ^ (11 - (k + 1)):=Nat.div_lt_of_lt_mul (by rw[Nat.mul_comm,<- Nat.pow_succ,show(11 - (k + 1)).succ=11 - k by omega];exact ha);have h3:Hid (qi4 n=(dn ++ [ob (uu % 128 + 128)]) ++ vb (10 - (k + 1)) (uu / 128)):=by
    unfold Hid;rw[HD.out,show 10 - k=(10 - (k + 1)) + 1 by omega,qv9 h4,List.append_assoc];rfl
   have HO:=zhd (z0g uu);go_wp2_with fail;rw[HO.out];refine(q9n hw h9 h1 _).mono ?_;rintro e w2 ⟨rfl,T2,h8,h5,h6⟩;go_wp2_with fail;exact⟨⟨k + 1,uu / 128,dn ++ [ob (uu % 128 + 128)],T2,zo,zp,zo,hb,by simp[hc],h3,by rw[<- List.append_assoc];exact h8,h0.grw h2 h5,h2.trans h0.size h6⟩,by simp[intOf];omega⟩
  .have HO:Hid (Value.int .u8 (uu:Int)=bv (ob uu)):=by
    have:=qy8 uu zo;simpa [Hid] using this.symm
   have h3:Hid (qi4 n=dn ++ [ob uu]):=by unfold Hid;rw[HD.out,qva zo]
   go_wp2_with fail;rw[HO.out];refine(q9n hw h9 h1 _).mono ?_;rintro e w2 ⟨rfl,T2,h8,h5,h6⟩;go_wp2_with fail;go_end0;exact⟨rfl,T2,by rw[h3.out,<- List.append_assoc];exact h8,h0.grw h2 h5,h2.trans h0.size h6⟩
def qtb(b:Bool):List UInt8:=[if b then 1 else 0]
theorem qbm{g:Nat} {T:Nat->Prop} {l:List UInt8} {lg:Bool} (h:WrC W B0 g T l lg) (hB:B0<=W.heap.size) (hl:l.length<=80000000) (b:Bool) :
  cP 77 #[pp g,.bool b] W (Wro W B0 g T (l ++ qtb b) lg):=by
 have hgl:=h.lt;cases b with
 | true =>
  refine inC ?_;go_in;go_wp2_with fail;refine(q9n h hB zo 1).mono ?_;rintro e w3 ⟨rfl,h3⟩;go_wp2_with fail;go_end0;exact⟨rfl,h3⟩
 | false =>
  refine inC ?_;go_in;go_wp2_with fail;refine(q9n h hB zo 0).mono ?_;rintro e w3 ⟨rfl,h3⟩;go_wp2_with fail;go_end0;exact⟨rfl,h3⟩
def q87(l:List Int):List UInt8:=l.flatMap qi4
theorem ql8(l:List Int) {k:Nat} (h:k < l.length):q87 (l.take (k + 1))=q87 (l.take k) ++ qi4 (at0 l k):=by
 unfold q87;rw[List.take_succ_eq_append_getElem h,q2v h,List.flatMap_append,show[l[k]].flatMap qi4=qi4 l[k] ++ [] from rfl,List.append_nil]
theorem qg7(l:List Int):(q87 l).length<=11 * l.length:=by
 induction l with
 | nil=>simp[q87]
 | cons x l ih =>
  have:=q9a x;have e:q87 (x :: l)=qi4 x ++ q87 l:=rfl;rw[e,List.length_append,List.length_cons];omega
theorem qpr{g:Nat} {T:Nat->Prop} {l:List UInt8} {lg:Bool} (h:WrC W B0 g T l lg) (hB:B0<=W.heap.size) (hl:l.length<=70000000) {A:Option Addr} {n c:Nat} {ns:List Int} (hs:SlI W A n c ns) (hn:n<=1000) (hA:∀ b o,0 < n->A=some ⟨b,o,none⟩->¬ T b) :
  cP 39 #[pp g,.slice A n c] W (Wro W B0 g T (l ++ q87 ns) lg):=by
 have hnl:=hs.2.1;have hgl:=h.lt;refine inC ?_;go_in;go_wp2_with fail;go_loopw [8] (λi wr=>∃ (k:Nat) (T':Nat->Prop),k<=n/\i = .int .i64 k/\WrC wr B0 g T' (l ++ q87 (ns.take k)) lg/\Fr T W wr/\Grw T T' W wr) (λi _=>n - (intOf i).toNat)
 case atStart=>exact⟨0,T,zo,rfl,by simpa [q87] using h,Fr.refl _ _,Grw.refl h.bnd⟩
 case round =>
  obtain⟨k,T',hk,rfl,hw,h0,h1⟩:=hrel;have h2:=Nat.le_trans hB h0.size;have hglw:=hw.lt;by_cases h8:k < n
  .have h9:SlI wr A n c ns:=⟨hs.1.fr h0 hA,hs.2⟩
   obtain⟨b,o,rfl,hb,h4⟩:=h9.at_ h8;have hi:=hs.rng k;have HT:=zhd (ql8 ns (show k < ns.length by omega));have h7:=qg7 (ns.take k);rw[List.length_take]at h7
   generalize at0 ns k=x at h4 hi HT;go_wp2_with fail;refine(q86 hw h2 (by simp only[List.length_append];omega) hi).mono ?_;rintro e w3 ⟨rfl,T2,h3,h5,h6⟩;go_wp2_with fail;exact⟨⟨k + 1,T2,zo,by go_num,by rw[HT.out,<- List.append_assoc];exact h3,h0.grw h1 h5,h1.trans h0.size h6⟩,by simp[intOf];omega⟩
  .obtain rfl:k=n:=zo;have HT:Hid (ns.take k=ns):=List.take_of_length_le zo;rw[HT.out]at hw
   go_wp2_with fail;go_end0;exact⟨rfl,T',hw,h0,h1⟩
theorem ql9{g:Nat} {T:Nat->Prop} {l:List UInt8} {lg:Bool} (h:WrC W B0 g T l lg) (hl:l.length<=90000000) :
  cP 44 #[pp g] W λe w'=>∃ v,e = .returned v/\w'.ownsRow W.heap.size 5 1 v l.length (l.map bv)/\bW W w':=by
 have hgl:=h.lt;obtain⟨⟨v,h1,h4,h5⟩,h6,h7,h8⟩:=h;have c0:=h1.cell 0;obtain⟨A',c',rfl,hs,-⟩:=SlB.of_own h4;refine inC ?_;go_in;go_wp2_with fail;refine(q7g hs hl).mono ?_;rintro e w2 ⟨v2,rfl,h0,h2⟩;go_wp2_with fail;go_ret;exact⟨v2,rfl,h0,h2⟩
theorem WrC.setLong{g:Nat} {T:Nat->Prop} {l:List UInt8} {lg:Bool} (h:WrC W B0 g T l lg) (lg2:Bool):WrC (W.setCell ⟨g,1,none⟩ (.bool lg2)) B0 g T l lg2:=by
 obtain⟨⟨v,h1,h2,h3⟩,h4,h5,h6⟩:=h;refine⟨⟨v,by simpa using h1.set_ 1 (.bool lg2),q5d h2 ((Fr.refl (· = g) W).setCell (p:=⟨g,1,none⟩) (λ_=>rfl) _) (λb hb _ h=>by omega),h3⟩,h4,h5,λb hb=>by simpa using h6 b hb⟩
end Go.Proofs.YtncfcbohiodnnaaGreat
