/- Parts of this seat's claims. -/
import Derived.Test.YtncfcbohiodnnaaGreatW31
import Derived.Test.YtncfcbohiodnnaaGreatW32
set_option maxRecDepth 100000
set_option maxHeartbeats 6400000
namespace Go.Proofs.YtncfcbohiodnnaaGreat
open Go.RowKit
variable{w w' W wa wo W':World} {c n pt r B j b m mb q base cap id B0:Nat} {A:Option Addr} {a code what:Int} {cs:Array Value}
abbrev Sen:=List (Int×List (List UInt8))
def q70(cf:Cf) (win:Int) (st:Sen×List Ps×List Mg) (k:Nat):Sen×List Ps×List Mg :=
 ((ofS st.1 st.2.1 (atD Ch0 cf.chans.l k).fr.port).2.1,(ofS st.1 st.2.1 (atD Ch0 cf.chans.l k).fr.port).2.2,st.2.2 ++ (ofS st.1 st.2.1 (atD Ch0 cf.chans.l k).fr.port).1.map λb=>⟨k,win,b⟩)
theorem qap(cf:Cf) (win:Int):∀ (ks:List Nat) (seen:Sen) (l:List Ps) (out:List Mg),q2i cf win ks seen l out=((ks.foldl (q70 cf win) (seen,l,out)).2.2,(ks.foldl (q70 cf win) (seen,l,out)).2.1)
 | [],_,_,_=>rfl
 | k :: ks,seen,l,out=>by
  unfold q2i;rw[List.foldl_cons];dsimp only;cases h:seen.lookup (atD Ch0 cf.chans.l k).fr.port with
  | some bs =>
   dsimp only;rw[qap cf win ks];have:q70 cf win (seen,l,out) k=(seen,l,out ++ bs.map λb=>⟨k,win,b⟩):=by unfold q70 ofS;rw[h]
   rw[this]
  | none =>
   dsimp only;rw[qap cf win ks];have:q70 cf win (seen,l,out) k=(seen ++ [((atD Ch0 cf.chans.l k).fr.port,(q0x l (atD Ch0 cf.chans.l k).fr.port).1)],(q0x l (atD Ch0 cf.chans.l k).fr.port).2,out ++ (q0x l (atD Ch0 cf.chans.l k).fr.port).1.map λb=>⟨k,win,b⟩):=by unfold q70 ofS;rw[h]
   rw[this]
theorem qiw(cf:Cf) (win:Int):∀ (ks:List Nat) (st:Sen×List Ps×List Mg),st.2.2.length<=(ks.foldl (q70 cf win) st).2.2.length
 | [],_=>nL
 | k :: ks,st=>by
  rw[List.foldl_cons];exact Nat.le_trans (by unfold q70;simp) (qiw cf win ks _)
theorem qom(cf:Cf) (win:Int) (ks:List Nat) (i:Nat) (st:Sen×List Ps×List Mg):((ks.take i).foldl (q70 cf win) st).2.2.length<=(ks.foldl (q70 cf win) st).2.2.length:=by
 conv=>rhs;rw[<- List.take_append_drop i ks,List.foldl_append]
 exact qiw cf win _ _
def Mh.v(m:Mh):Value := .agg #[ii m.chan,ii m.win,m.d.hq]
def FlL(pt:Nat):Lb->Prop:=λy=>(∃ j:Nat,y = .bx pt j)\/y = .sys 9\/y = .sys 11
structure Fl(W w0:World) (o0:Gh) (cf:Cf) (pt p:Nat) (A:Option Addr) (cap:Nat) (qs:List Nat) (g0 g mb rg ch:Nat) (w:World) (o:Gh) (ss:List Dd) (l:List Ps) (ms:List Mh):Prop where
 M:Mv (FlL pt) o0 w0 o w
 B:Bas W w o
 c:q1t w o (.sys 10) g0 33 (Cf.lw cf)
 D:DdR w o pt p g mb A cap qs ss l
 kr:q1t w o (.sys 10) rg 437 #[.chan (some ch)]
 hc:∃ s r,w.heap[ch]?=some (.chan 4096 (ms.map Mh.v).toArray false s r false)
 lc:o ch = .sys 11
 dm:∀ m ∈ ms,Dat w o m.d/\m.d.l.length<=1000
section
variable{W w0 w:World} {o0 o:Gh} {cf:Cf} {pt p:Nat} {A:Option Addr} {cap:Nat} {qs:List Nat} {g0 g mb rg ch:Nat} {ss:List Dd} {l:List Ps} {ms:List Mh}
theorem DdR.go{L:Lb->Prop} {o':Gh} (D:DdR w o pt p g mb A cap qs ss l) (m:Mv L o w o' w') (hd:¬ L .data) (hb:∀ j,¬ L (.bx pt j)) (hp:∀ j,¬ L (.prt pt j)) (hr:¬ L (.prs pt)) (h9:¬ L (.sys 9)) (h10:¬ L (.sys 10)):DdR w' o' pt p g mb A cap qs ss l :=
 ⟨D.k.fr m.f (by rw[D.lg];exact h10),(m.a g D.k.lt).trans D.lg,(m.a mb D.m.lt).trans D.lm,D.m.fr m.f (by rw[D.lm];exact h9),λs hs=>(D.d s hs).go m hd (λj _=>hb j),D.P.go' m hr (λi _=>⟨hp i,hb i⟩) hd,D.e,D.n⟩
theorem Fl.blw(F:Fl W w0 o0 cf pt p A cap qs g0 g mb rg ch w o ss l ms) {o':Gh} (m:Mv (λ_=>False) o w o' w'):Fl W w0 o0 cf pt p A cap qs g0 g mb rg ch w' o' ss l ms:=by
 obtain⟨s,r,h⟩:=F.hc;have h0:=(Array.getElem?_eq_some_iff.1 h).1;exact⟨F.M.trans (m.mono λ_ h=>h.elim),F.B.go m id,F.c.go m id,F.D.go m id (λ_=>id) (λ_=>id) id id id,F.kr.go m id,⟨s,r,(m.f.block ch h0 id).trans h⟩,(m.a ch h0).trans F.lc,λy hy=>⟨(F.dm y hy).1.go m id,(F.dm y hy).2⟩⟩
theorem Fl.put(F:Fl W w0 o0 cf pt p A cap qs g0 g mb rg ch w o ss l ms) {m:Mh} (hm:Dat w o m.d) (hl:m.d.l.length<=1000) {s r:Nat} (h:w'.heap[ch]?=some (.chan 4096 ((ms.map Mh.v).toArray.push m.v) false s r false)) (f:Fr (λk=>k=ch) w w'):Fl W w0 o0 cf pt p A cap qs g0 g mb rg ch w' o ss l (ms ++ [m]):=by
 have mv:Mv (λy=>y = .sys 11) o w o w':=Mv.of f λk hk=>by rw[hk];exact F.lc
 refine⟨F.M.trans (mv.mono λ_ h => .inr (.inr h)),F.B.go mv zp,F.c.go mv zp,F.D.go mv zp zp zp zp zp zp,F.kr.go mv zp,⟨s,r,by rw[h];simp⟩,F.lc,λy hy=>?_⟩;rcases List.mem_append.1 hy with hy | hy
 .exact⟨(F.dm y hy).1.go mv zp,(F.dm y hy).2⟩
 .rw[List.mem_singleton.1 hy];exact⟨hm.go mv zp,hl⟩
theorem Fl.of{o':Gh} {ss':List Dd} {l':List Ps} (F:Fl W w0 o0 cf pt p A cap qs g0 g mb rg ch w o ss l ms) (m:Mv (λy=>(∃ j:Nat,y = .bx pt j)\/y = .sys 9) o w o' w') (D:DdR w' o' pt p g mb A cap qs ss' l'):Fl W w0 o0 cf pt p A cap qs g0 g mb rg ch w' o' ss' l' ms:=by
 obtain⟨s,r,h⟩:=F.hc;have h0:=(Array.getElem?_eq_some_iff.1 h).1;exact⟨F.M.trans (m.mono λ_ h=>h.elim .inl λh => .inr (.inl h)),F.B.go m zp,F.c.go m zp,D,F.kr.go m zp,⟨s,r,(m.f.block ch h0 (by rw[F.lc];simp)).trans h⟩,(m.a ch h0).trans F.lc,λy hy=>⟨(F.dm y hy).1.go m zp,(F.dm y hy).2⟩⟩
end
def FnL:Lb->Prop:=λy=>qft y\/y = .sys 9\/y = .sys 11\/y = .sys 12\/y = .sys 13
theorem FnL.nd:¬ FnL .data:=by rintro(h | h | h | h | h);exact qft.nd h;all_goals cases h
theorem FnL.nf:¬ FnL .free:=by rintro(h | h | h | h | h);exact qft.nf h;all_goals cases h
theorem FnL.n10:¬ FnL (.sys 10):=by rintro(h | h | h | h | h);exact qft.ns h;all_goals cases h
theorem FnL.n3:¬ FnL (.sys 3):=by rintro(h | h | h | h | h);exact qft.ns h;all_goals cases h
structure Tl(W w0:World) (o0:Gh) (cf:Cf) (c:Nat->Nat) (x:Nat->Cx) (n:Nat) (pA:Option Addr) (pc g0 rg ch:Nat) (all:List Mh) (w:World) (o:Gh) (cs:List Ce) (A:Option Addr) (cA:Nat) (ot buf:List Mh):Prop where
 M:Mv FnL o0 w0 o w
 B:Bas W w o
 kc:q1t w o (.sys 10) g0 33 (Cf.lw cf)
 kr:q1t w o (.sys 10) rg 437 #[.chan (some ch)]
 hc:∃ s r,w.heap[ch]?=some (.chan 4096 (buf.map Mh.v).toArray false s r false)
 lc:o ch = .sys 11
 R:CsR w o c x cs
 cn:cs.length=n
 dm:∀ m ∈ all,Dat w o m.d/\m.d.l.length<=1000
 a:Sl w pA n pc 1 (qc7 x n)
 la:∀ b f,0 < n->pA=some ⟨b,f,none⟩->o b = .sys 3
 ge:∀ k,q02 A k->w0.heap.size<=k
 out:q4q w o (.sys 12) 122 3 A ot.length cA (ot.flatMap Mh.f)
section
variable{W w0 w w':World} {o0 o o':Gh} {cf:Cf} {c:Nat->Nat} {x:Nat->Cx} {n:Nat} {pA:Option Addr} {pc g0 rg ch:Nat} {all:List Mh} {cs:List Ce} {A:Option Addr} {cA:Nat} {ot buf:List Mh}
theorem Tl.step{L:Lb->Prop} (T:Tl W w0 o0 cf c x n pA pc g0 rg ch all w o cs A cA ot buf) (m:Mv L o w o' w') (hl:∀ y,L y->FnL y) (h12:¬ L (.sys 12)) {buf':List Mh} (hc:∃ s r,w'.heap[ch]?=some (.chan 4096 (buf'.map Mh.v).toArray false s r false)) {cs':List Ce} (R:CsR w' o' c x cs') (hn:cs'.length=n):Tl W w0 o0 cf c x n pA pc g0 rg ch all w' o' cs' A cA ot buf':=by
 obtain⟨s,r,h⟩:=T.hc;have h2:=(Array.getElem?_eq_some_iff.1 h).1;have h0:¬ L (.sys 10):=λh=>FnL.n10 (hl _ h);exact⟨T.M.trans (m.mono hl),T.B.go m λh=>FnL.nf (hl _ h),T.kc.go m h0,T.kr.go m h0,hc,(m.a ch h2).trans T.lc,R,hn,λy hy=>⟨(T.dm y hy).1.go m λh=>FnL.nd (hl _ h),(T.dm y hy).2⟩,T.a.fr m.f (λb f hn e h=>by rw[T.la b f hn e]at h;exact FnL.n3 (hl _ h)),λb f hn e=>(m.a b (by obtain⟨b',f',e',h1,_⟩:=T.a.2.2.2.2 hn;rw[e]at e';cases e';exact h1)).trans (T.la b f hn e),T.ge,T.out.go m h12⟩
theorem Tl.blw(T:Tl W w0 o0 cf c x n pA pc g0 rg ch all w o cs A cA ot buf) (m:Mv (λ_=>False) o w o' w'):Tl W w0 o0 cf c x n pA pc g0 rg ch all w' o' cs A cA ot buf:=by
 obtain⟨s,r,h⟩:=T.hc;exact T.step m (λ_ h=>h.elim) id ⟨s,r,(m.f.block ch (Array.getElem?_eq_some_iff.1 h).1 id).trans h⟩ (T.R.go m (λ_ h=>h.elim) id) T.cn
theorem Tl.take(T:Tl W w0 o0 cf c x n pA pc g0 rg ch all w o cs A cA ot buf) (f:Fr (λk=>k=ch) w w') {buf':List Mh} (hc:∃ s r,w'.heap[ch]?=some (.chan 4096 (buf'.map Mh.v).toArray false s r false)):Tl W w0 o0 cf c x n pA pc g0 rg ch all w' o cs A cA ot buf':=by
 have mv:Mv (λy=>y = .sys 11) o w o w':=Mv.of f λk hk=>by rw[hk];exact T.lc
 exact T.step mv (λy h => .inr (.inr (.inl h))) zp hc (T.R.go mv (by rintro _ rfl;rfl) zp) T.cn
theorem Tl.deliver(T:Tl W w0 o0 cf c x n pA pc g0 rg ch all w o cs A cA ot buf) (m:Mv qft o w o' w') {g:Mg} (R:CsR w' o' c x (q0v cf cs g)):Tl W w0 o0 cf c x n pA pc g0 rg ch all w' o' (q0v cf cs g) A cA ot buf:=by
 obtain⟨s,r,h⟩:=T.hc;refine T.step m (λy h => .inl h) qft.ns ⟨s,r,(m.f.block ch (Array.getElem?_eq_some_iff.1 h).1 (by rw[T.lc];exact qft.ns)).trans h⟩ R ?_;rw[<- T.cn];unfold q0v;split
 .rfl
 .dsimp only;split
  .rfl
  .rw[List.length_set]
theorem Tl.cell(T:Tl W w0 o0 cf c x n pA pc g0 rg ch all w o cs A cA ot buf) {q:Nat} (hq:o q = .sys 13) (f:Fr (λk=>k=q) w w'):Tl W w0 o0 cf c x n pA pc g0 rg ch all w' o cs A cA ot buf:=by
 have mv:Mv (λy=>y = .sys 13) o w o w':=Mv.of f λk hk=>by rw[hk];exact hq
 obtain⟨s,r,h⟩:=T.hc;exact T.step mv (λy h => .inr (.inr (.inr (.inr h)))) zp ⟨s,r,(mv.f.block ch (Array.getElem?_eq_some_iff.1 h).1 (by rw[T.lc];simp)).trans h⟩ (T.R.go mv (by rintro _ rfl;rfl) zp) T.cn
theorem Tl.app(T:Tl W w0 o0 cf c x n pA pc g0 rg ch all w o cs A cA ot buf) {y:Mh} {A':Option Addr} {c':Nat} (own:Own w' 122 3 A' (ot.length + 1) c' (ot.flatMap Mh.f ++ y.f)) (hf:Fr (q02 A) w w') (hat:∀ k,q02 A' k->q02 A k\/w.heap.size<=k):Mv (λl=>l = .sys 12) o w (lay w o (.sys 12)) w'/\Tl W w0 o0 cf c x n pA pc g0 rg ch all w' (lay w o (.sys 12)) cs A' c' (ot ++ [y]) buf:=by
 have m:Mv (λl=>l = .sys 12) o w (lay w o (.sys 12)) w':=Mv.lay (S:=q02 A) _ hf (λk _ hk=>T.out.2 k hk);obtain⟨s,r,h⟩:=T.hc;have h0:=(Array.getElem?_eq_some_iff.1 h).1;refine⟨m,T.M.trans (m.mono λy h => .inr (.inr (.inr (.inl h)))),T.B.go m zp,T.kc.go m zp,T.kr.go m zp,⟨s,r,(m.f.block ch h0 (by rw[T.lc];simp)).trans h⟩,(m.a ch h0).trans T.lc,T.R.go m (by rintro _ rfl;rfl) zp,T.cn,λy hy=>⟨(T.dm y hy).1.go m zp,(T.dm y hy).2⟩,T.a.fr m.f (λb f hn e h=>by rw[T.la b f hn e]at h;simp at h),λb f hn e=>(m.a b (by obtain⟨b',f',e',h1,_⟩:=T.a.2.2.2.2 hn;rw[e]at e';cases e';exact h1)).trans (T.la b f hn e),λk hk=>(hat k hk).elim (T.ge k) (λh=>Nat.le_trans T.M.f.size h),?_,λk hk=>?_⟩
 .rw[List.length_append,List.flatMap_append];simpa using own
 .by_cases h:k < w.heap.size
  .exact(q0l h).trans (T.out.2 k ((hat k hk).resolve_right zo))
  .exact q07 zo
end
theorem qc9(y:Mh) (rs:List Mh):0 < (((y :: rs).map Mh.v).toArray).size/\(((y :: rs).map Mh.v).toArray).getD 0 undef = .agg #[ii y.chan,ii y.win,y.d.hq]/\(((y :: rs).map Mh.v).toArray).extract 1 (((y :: rs).map Mh.v).toArray).size=(rs.map Mh.v).toArray:=⟨zp,rfl,by simp;exact List.take_of_length_le zp⟩
theorem qon:ElemOf 56 122 3 40:=q1l (z := .agg #[ii 0,ii 0,.slice none 0 0]) zk zk rfl zd zd
def qca(cf:Cf) (p:Nat):List Nat:=q6v cf p
theorem qiy(cf:Cf) (p:Nat):q92 cf p (chN cf)=(qca cf p).map λ(j:Nat)=>(j:Int):=rfl
theorem qoq(cf:Cf) (p:Nat) {j:Nat} (h:j ∈ qca cf p):j < cf.chans.l.length:=by
 unfold qca q6v at h;rw[List.mem_filter,List.mem_range]at h
 omega
theorem qsk{a k h:Nat} (h1:a + h<=4096) (h2:n=min k h) (h3:m=a) (h4:k < h):m + n < 4096:=zo
theorem qhl{k:Nat} (h:k < n) (hn:n<=100000):wrap64 ((k:Int) + 1)=((k + 1:Nat):Int):=by unfold wrap64;omega
theorem qza{o o':Gh} {c:Nat->Nat} {x:Nat->Cx} {cs:List Ce} {p:Nat} {l:List Ps} (R:CsR w o c x cs) (hp:p < cs.length) (m:Mv (FlL p) o w o' w') (T:PsR w' o' p (x p).p (x p).pA (x p).pc (x p).pq l):CsR w' o' c x (cs.set p (setPts (atD Ce0 cs p) l)):=λq hq=>by
 rw[List.length_set]at hq
 rw[Me.atD_set _ _ _ _ _ hp];by_cases e:q=p
 .subst e;rw[if_pos rfl];have R:=R q hq;exact⟨R.k.go m (by simp[FlL]),R.tr.go m (by simp[FlL]),λi hi=>by obtain⟨hp,hd,T⟩:=R.tk i hi;exact⟨hp,hd,T.go m (by simp[FlL]) (by simp[FlL])⟩,R.tb.go m (by simp[FlL]),R.me.go m (by simp[FlL]),T,R.ob.go m (by simp[FlL]) (by simp[FlL]) (by simp[FlL]),R.mn.go m (by simp[FlL]),SkO.go R.sk m (by simp[FlL]),R.ev.go m (by simp[FlL])⟩
 .rw[if_neg e];exact(R q hq).go m (λl h=>by
   rcases h with ⟨j,rfl⟩ | rfl | rfl
   .simpa [Lb.part] using λe'=>e e'.symm
   .simp[Lb.part]
   .simp[Lb.part]) (by simp[FlL])
def qsl:Value->Nat
 | .slice _ n _=>n
 | _=>0
def qu4(w:World) (o:Gh) (c:Nat->Nat) (x:Nat->Cx) (cs':List Ce) (gs:List Mg) (e:Ending) (w':World):Prop :=
 ∃ (B:Option Addr) (cB:Nat) (ms:List Mh) (o':Gh),e = .returned (.slice B ms.length cB)/\ms.map Mh.g=gs/\Own w' 122 3 B ms.length cB (ms.flatMap Mh.f)/\(∀ k,q02 B k->w.heap.size<=k)/\(∀ m ∈ ms,Dat w' o' m.d)/\Mv FnL o w o' w'/\CsR w' o' c x cs'
theorem qor{o:Gh} {c:Nat->Nat} {x:Nat->Cx} {cs:List Ce} {cf:Cf} (hcf:q54.ok W cf.chans) (B:Bas W w o) {pA:Option Addr} {pc:Nat} (h0:Sl w pA cs.length pc 1 (qc7 x cs.length)) (hal:∀ b f,0 < cs.length->pA=some ⟨b,f,none⟩->o b = .sys 3) (hln:cs.length<=1000) (R:CsR w o c x cs) {p:Nat} (hp:p < cs.length) {win:Int} (hlen:(q2i cf win (q6v cf p) [] (atD Ce0 cs p).pts []).1.length<=4096) :
  cP 130 #[.agg (Cf.lw cf),ii p,ii win,.slice pA cs.length pc] w λe w'=>qu4 w o c x ((q2i cf win (q6v cf p) [] (atD Ce0 cs p).pts []).1.foldl (q0v cf) (cs.set p (setPts (atD Ce0 cs p) (q2i cf win (q6v cf p) [] (atD Ce0 cs p).pts []).2))) (q2i cf win (q6v cf p) [] (atD Ce0 cs p).pts []).1 e w':=by
 obtain⟨ST,H6⟩:∃ ST,ST=λk=>((qca cf p).take k).foldl (q70 cf win) ([],(atD Ce0 cs p).pts,[]):=⟨_,rfl⟩
 have hD:q2i cf win (q6v cf p) [] (atD Ce0 cs p).pts []=((ST (qca cf p).length).2.2,(ST (qca cf p).length).2.1):=by
  rw[qap,H6];simp only[List.take_length];rfl
 rw[hD]at hlen ⊢
 have Ha:=zhd H6;have a1:Hid (∀ k,(ST k).2.2.length<=4096):=λk=>by
  refine Nat.le_trans ?_ hlen;rw[H6];simp only[List.take_length];exact qom cf win _ k _
 clear hD H6 hlen;have b1:bW w (w.alloc (.cells (Cf.lw cf) 33)):=zv;have kc:=Blk.new w 33 (Cf.lw cf);obtain⟨pb,pf,Hn,hpb,hpc⟩:=qok (h0.keep b1) hp;have hq1:decide ((p:Int) < 0)=false:=decide_eq_false zo;have hq2:decide ((cs.length:Int)<=p)=false:=decide_eq_false zo;have hq3:decide (cs.length<=p)=false:=decide_eq_false zo;have he:=zhd h0;have a2:=zhd hln;have HP:=zhd hp;rw[Hn];have bg:=zhd Hn;clear Hn h0 hln hp;refine inC ?_;go_in;go_upto_region 1 with fail;generalize w.alloc (.cells (Cf.lw cf) 33)=w1 at *;obtain⟨g0,Hj⟩:∃ g0,g0=w.heap.size:=⟨_,rfl⟩
 rw[<- Hj]at kc ⊢
 have bc:=zhd Hj;clear Hj;obtain⟨cc,lc⟩:=kc.cl;have hmm:∀ w,(Instr.makeMap 351 none).run Tryz.prog w = .ok (.map (some w.heap.size)) (w.alloc (.map #[] 0)):=λw=>by kernel_rfl
 go_upto_region 4 with fail;have o1:∃ o1,Mv (λ_=>False) o w o1 w1/\o1 g0 = .sys 10:=⟨lay w o (.sys 10),Mv.lay (S:=λ_=>False) _ (fO b1 _) (λ_ _ h=>h.elim),q07 (by have:=bc.out;omega)⟩
 obtain⟨o1,m1,l1⟩:=o1;have am:=qz8 w1;have m2:Mv (λ_=>False) o1 w1 (lay w1 o1 (.sys 9)) (w1.alloc (.map #[] 0)):=Mv.lay (S:=λ_=>False) _ ((Fr.refl _ w1).alloc _) (λ_ _ h=>h.elim);have b7:lay w1 o1 (.sys 9) w1.heap.size = .sys 9:=q07 nL;have kd:=Blk.new (w1.alloc (.map #[] 0)) 353 #[pp ((x p).p),.map (some w1.heap.size)];have m3:=(Mv.lay (S:=λ_=>False) (o:=lay w1 o1 (.sys 9)) (.sys 10) ((Fr.refl _ (w1.alloc (.map #[] 0))).alloc (.cells #[pp ((x p).p),.map (some w1.heap.size)] 353)) (λ_ _ h=>h.elim):Mv (λ_=>False) _ _ _ _)
 have ld:lay (w1.alloc (.map #[] 0)) (lay w1 o1 (.sys 9)) (.sys 10) (w1.alloc (.map #[] 0)).heap.size = .sys 10:=q07 nL;have H2:=(m3.a w1.heap.size zp).trans b7;have H5:=am.fr m3.f id;have M3:=(m1.trans m2).trans m3;have Hs:=(kc.fr m2.f id).fr m3.f id;have b2:=(m3.a g0 (by simp;omega)).trans ((m2.a g0 lc).trans l1);simp only[World.size_alloc]at kd ld H5;generalize lay (w1.alloc (.map #[] 0)) (lay w1 o1 (.sys 9)) (.sys 10)=o3 at *;generalize (w1.alloc (.map #[] 0)).alloc (.cells #[pp ((x p).p),.map (some w1.heap.size)] 353)=w3 at *;clear m2 m3 am b7 m1 l1 cc;generalize w1.heap.size=mb at *;go_upto_region 5 with (go_at_call 194;refine(qsi).mono ?_;rintro _ _ ⟨rfl,rfl⟩)
 have m4:Mv (λ_=>False) o3 w3 (lay w3 o3 (.sys 11)) (w3.alloc (.chan 4096 #[] false 0 0 false)):=Mv.lay (S:=λ_=>False) _ ((Fr.refl _ w3).alloc _) (λ_ _ h=>h.elim);have b5:lay w3 o3 (.sys 11) w3.heap.size = .sys 11:=q07 nL;have kr:=Blk.new (w3.alloc (.chan 4096 #[] false 0 0 false)) 437 #[.chan (some w3.heap.size)];have m5:=(Mv.lay (S:=λ_=>False) (o:=lay w3 o3 (.sys 11)) (.sys 10) ((Fr.refl _ (w3.alloc (.chan 4096 #[] false 0 0 false))).alloc (.cells #[.chan (some w3.heap.size)] 437)) (λ_ _ h=>h.elim):Mv (λ_=>False) _ _ _ _)
 have lr:lay (w3.alloc (.chan 4096 #[] false 0 0 false)) (lay w3 o3 (.sys 11)) (.sys 10) (w3.alloc (.chan 4096 #[] false 0 0 false)).heap.size = .sys 10:=q07 nL;have aj:((w3.alloc (.chan 4096 #[] false 0 0 false)).alloc (.cells #[.chan (some w3.heap.size)] 437)).heap[w3.heap.size]?=some (.chan 4096 #[] false 0 0 false):=by
  rw[heap_alloc_old _ _ zp];exact heap_alloc_new w3 _
 have H1:=(m5.a w3.heap.size zp).trans b5;have h7:=m4.trans m5;have M5:=M3.trans h7;have H7:=Hs.fr h7.f id;have b3:=(h7.a g0 Hs.lt).trans b2;have ab:=H5.fr h7.f id;have H3:=(h7.a mb H5.lt).trans H2;have az:=kd.fr h7.f id;have b6:=(h7.a (mb + 1) kd.lt).trans ld;simp only[World.size_alloc]at kr lr;generalize lay (w3.alloc (.chan 4096 #[] false 0 0 false)) (lay w3 o3 (.sys 11)) (.sys 10)=o5 at *;generalize (w3.alloc (.chan 4096 #[] false 0 0 false)).alloc (.cells #[.chan (some w3.heap.size)] 437)=w5 at *;clear m4 m5 h7 b5 b2 H2 ld Hs H5 kd M3;generalize w3.heap.size=ch at *;have F0:Fl W w o cf p (x p).p (x p).pA (x p).pc (x p).pq g0 (mb + 1) mb (ch + 1) ch w5 o5 [] (atD Ce0 cs p).pts []:=⟨M5.mono (λ_ h=>h.elim),B.go M5 id,⟨H7,b3⟩,⟨az,b6,H3,ab,(λs h=>by cases h),(R p HP.out).ps.go M5 (λh=>h) (λ_ h=>h) (λ_ h=>h) id,(λa h=>by cases h),(λa h=>by cases h)⟩,⟨kr,lr⟩,⟨0,0,aj⟩,H1,(λy h=>by cases h)⟩
 have Hx:=zhd F0;have hO:=qof (w:=w5) (cf:=cf) (q54.keep hcf F0.B.b) (p:=p);rw[qiy]at hO
 obtain⟨cc,lc⟩:=H7.cl;clear H7 b3 ab H3 az b6 H1 kr lr aj M5 F0;go_upto_region 6 with (go_at_call 195;refine(hO).mono ?_;rintro _ w6 ⟨oA,oc,rfl,ae,ad,ag⟩)
 have F6:=Hx.out.blw (Mv.lay (S:=λ_=>False) (.sys 10) (fO ag _) (λ_ _ h=>h.elim));have ap:∀ k,q02 oA k->lay w5 o5 (.sys 10) k = .sys 10:=λk hk=>q07 (ad k hk);have ar:∀ z ∈ (qca cf p).map (λ(j:Nat)=>(j:Int)),i64 z:=λz hz=>by
  obtain⟨j,hj,rfl⟩:=List.mem_map.1 hz;have:=qoq cf p hj;have:=hcf.1.1.2.1;have:=hcf.1.1.2.2.1;unfold maxLen at this;unfold i64;omega
 generalize lay w5 o5 (.sys 10)=o6 at *;have Hy:=zhd F6;have a7:=zhd ae;have a6:=zhd ar;have a3:=zhd ap;clear Hx ad ag F6 ae ar ap hO cc lc;have a4:Hid ((qca cf p).length<=100000):=by
  have h1:(qca cf p).length=(q92 cf p (chN cf)).length:=by rw[qiy,List.length_map]
  have h2:=qfm cf p (chN cf);have:chN cf<=16:=by unfold chN;omega
  show _<=_;omega
 go_loopw [38] (λi wr=>∃ (k:Nat) (ss:List Dd) (ms:List Mh) (o':Gh),i = .int .i64 k/\k<=(qca cf p).length/\Fl W w o cf p (x p).p (x p).pA (x p).pc (x p).pq g0 (mb + 1) mb (ch + 1) ch wr o' ss (ST k).2.1 ms/\Hid (ss.map Dd.s=(ST k).1/\ms.map Mh.g=(ST k).2.2)/\Mv (FlL p) o6 w6 o' wr) (λi _=>(qca cf p).length - (intOf i).toNat)
 case atStart=>exact⟨0,[],[],o6,rfl,Nat.zero_le _,by rw[Ha.out];exact Hy.out,by rw[Ha.out];exact⟨rfl,rfl⟩,Mv.refl _ _ _⟩
 case round =>
  obtain⟨k,ss,ms,o',rfl,an,F,ha,M6⟩:=hrel;by_cases hk:k < (qca cf p).length
  .have ax:wrap64 ((k:Int) + 1)=((k + 1:Nat):Int):=qhl hk a4.out;obtain⟨j,hj⟩:∃ j,j=(qca cf p)[k]:=⟨_,rfl⟩
   have ak:j ∈ qca cf p:=by rw[hj];exact List.getElem_mem hk
   have Hk:=qoq cf p ak;have hr:ST (k + 1)=q70 cf win (ST k) j:=by
    rw[Ha.out];simp only;rw[List.take_succ_eq_append_getElem hk,List.foldl_append,<- hj];rfl
   have O6:=a7.out.fr M6.f (λq hq=>by rw[a3.out q hq];simp[FlL]);obtain⟨ob,of,Hm,br,aq⟩:=(qi2.sl O6 a6.out).at_ (by simpa using hk);have au:at0 ((qca cf p).map λ(j:Nat)=>(j:Int)) k=(j:Int):=by rw[q2v (by simpa using hk),List.getElem_map,<- hj]
   rw[au]at aq
   rw[Hm];obtain⟨af,hf',Hc,bn,He⟩:=(q54.keep hcf F.B.b).1.at_ Ch0 Hk;rw[show qzt.sz=4 from rfl]at He
   have bs:i64 (atD Ch0 cf.chans.l j).fr.port:=(hcf.2 _ (q9v Ch0 Hk)).1.2;have z1:=He 1 _ rfl;obtain⟨cc,lc⟩:=F.c.1.cl;have b4:decide (cf.chans.l.length<=j)=false:=decide_eq_false zo;simp only[Cf.lw,Hc]at cc;have HK:=zhd hk;have H9:=zhd hr;have HCA:=zhd Hc;have HJL:=zhd Hk;have HOA:=zhd Hm;have hkk:k < (qca cf p).length:=hk;clear He au hr hj ak O6 Hc Hm;go_upto_region 9 with (go_at_call 196;refine(qwa F.D bs).mono ?_;rintro _ w7 ⟨s,Hu,o7,rfl,hs,e1,e2,m7,D7⟩)
   have F7:=F.of m7 D7;have q1:(ST (k + 1)).1=Hu.map Dd.s:=by rw[H9.out];unfold q70;rw[<- ha.out.1];exact e2.symm
   have q2:(ST (k + 1)).2.1=(ofS (ss.map Dd.s) (ST k).2.1 (atD Ch0 cf.chans.l j).fr.port).2.2:=by rw[H9.out];unfold q70;rw[<- ha.out.1]
   have q3:(ST (k + 1)).2.2=(ST k).2.2 ++ (s.hs.map Hd.l).map λb=>⟨j,win,b⟩:=by rw[H9.out];unfold q70;rw[<- ha.out.1,e1]
   rw[<- q2]at F7
   have M7:=M6.trans (m7.mono (L':=FlL p) λ_ h=>h.elim .inl λh => .inr (.inl h));have bh:=zhd q1;have a8:=zhd q3;have ba:=zhd F7;have bf:=zhd M7;have bx:=(F7.D.n s hs).1;have be:Hid (ms.length=(ST k).2.2.length):=by rw[<- ha.out.2,List.length_map];exact rfl
   clear q1 q2 q3 e1 e2 F7 M7 m7 D7 z1 cc lc F M6 br aq bn;go_loopw [52] (λi wz=>∃ (k2:Nat) (h8:List Mh) (o2:Gh),i = .int .i64 k2/\k2<=s.hs.length/\Fl W w o cf p (x p).p (x p).pA (x p).pc (x p).pq g0 (mb + 1) mb (ch + 1) ch wz o2 Hu (ST (k + 1)).2.1 (ms ++ h8)/\Hid (h8.map Mh.g=((s.hs.take k2).map Hd.l).map λb=>⟨j,win,b⟩)/\Mv (FlL p) o6 w6 o2 wz) (λi _=>s.hs.length - (intOf i).toNat)
   case atStart=>exact⟨0,[],o7,rfl,Nat.zero_le _,by rw[List.append_nil];exact ba.out,rfl,bf.out⟩
   case round =>
    obtain⟨k2,h8,o2,rfl,hx,F,HG,M⟩:=hrel;by_cases h5:k2 < s.hs.length
    .have ay:wrap64 ((k2:Int) + 1)=((k2 + 1:Nat):Int):=qhl h5 (Nat.le_trans bx zd);have S:=F.D.d s hs;obtain⟨y,hy⟩:∃ y,y=s.hs[k2]:=⟨_,rfl⟩
     have Hr:y ∈ s.hs:=by rw[hy];exact List.getElem_mem h5
     obtain⟨sb,sf,Hp,hsb,av⟩:=S.sl.2.2.2.2 (Nat.lt_of_le_of_lt (Nat.zero_le _) h5);have zc:wr.cell? ⟨sb,sf + k2,none⟩=some y.v:=av k2 _ (by rw[List.getElem?_map,List.getElem?_eq_getElem h5,<- hy];rfl);unfold Hd.v at zc;rw[Hp];have Hq:=(F.D.n s hs).2 y Hr;have b9:Hid ((ms ++ h8).length < 4096):=by
      have h1:=a1.out (k + 1);have h2:=congrArg List.length HG.out;rw[a8.out]at h1
      simp only[List.length_append,List.length_map,List.length_take]at h1 h2;show(ms ++ h8).length < 4096;rw[List.length_append];exact qsk h1 h2 be.out h5
     have HY:Hid (s.hs.take (k2 + 1)=s.hs.take k2 ++ [y]):=by rw[List.take_succ_eq_append_getElem h5,<- hy];exact rfl
     have Hz:=zhd h5;have bj:=zhd Hq;have bp:=q2l (S.da y Hr).1 (Nat.le_trans Hq zd:y.l.length<=1000000);have HSB:=zhd Hp;clear hy av Hq Hp Hr S;go_wp2_with (first
      | ((go_at_call 98;refine(bp).mono ?_;rintro _ w8 ⟨vA,vc,rfl,hv,bz,bm⟩);obtain⟨o8,m8,l8⟩:∃ o8,Mv (λ_=>False) o2 wr o8 w8/\∀ b f,vA=some ⟨b,f,none⟩->o8 b = .data:=⟨lay wr o2 .data,Mv.lay (S:=λ_=>False) _ (fO bm _) (λ_ _ h=>h.elim),λb f e=>q07 (bz b f e)⟩;have F8:=F.blw m8;obtain⟨sx,rx,h4⟩:=F8.hc)
      | (go_at_call 197;refine(qsh F8.kr.1 h4 (by simpa using b9.out)).mono ?_;rintro _ w9 ⟨rfl,h9,f9⟩))
     have bq:Dat w8 o8 ⟨vA,vc,y.l⟩:=⟨hv,λb f _ e=>l8 b f e⟩
     have F9:=F8.put (m:=⟨j,win,⟨vA,vc,y.l⟩⟩) bq bj.out h9 f9;rw[List.append_assoc]at F9
     refine⟨⟨k2 + 1,h8 ++ [⟨j,win,⟨vA,vc,y.l⟩⟩],o8,by rw[ay],Hz.out,F9,?_,(M.trans (m8.mono λ_ h=>h.elim)).trans (Mv.of f9 λb hb=>by rw[hb];exact .inr (.inr F8.lc))⟩,by rw[ay];exact Nat.sub_lt_sub_left Hz.out (Nat.lt_succ_self _)⟩;show(h8 ++ [_]).map Mh.g=_;rw[List.map_append,HG.out,HY.out,List.map_append,List.map_append];rfl
    .obtain rfl:k2=s.hs.length:=Nat.le_antisymm hx (Nat.le_of_not_lt h5);clear hx h5;go_wp2_with fail;refine⟨⟨k + 1,Hu,ms ++ h8,o2,by rw[ax],HK.out,F,⟨bh.out.symm,?_⟩,M⟩,by rw[ax];exact Nat.sub_lt_sub_left HK.out (Nat.lt_succ_self _)⟩;rw[List.map_append,ha.out.2,HG.out,a8.out,List.take_length]
  .obtain rfl:k=(qca cf p).length:=Nat.le_antisymm an (Nat.le_of_not_lt hk);clear an hk;have HF:=zhd F;have hf:=zhd ha.out.2;have a9:=qza R HP.out F.M F.D.P;have ht:∀ b f,0 < cs.length->pA=some ⟨b,f,none⟩->o' b = .sys 3:=λb f hn e=>(F.M.a b (by obtain⟨b',f',e',af,_⟩:=he.out.2.2.2.2 hn;rw[e]at e';cases e';exact af)).trans (hal b f hn e);have T:Tl W w o cf c x cs.length pA pc g0 (ch + 1) ch ms wr o' (cs.set p (setPts (atD Ce0 cs p) (ST (qca cf p).length).2.1)) none 0 [] ms:=⟨F.M.mono (λy h=>by rcases h with ⟨j,rfl⟩ | h | h;exact .inl ⟨p,j,.inr rfl⟩;exact .inr (.inl h);exact .inr (.inr (.inl h))),F.B,F.c,F.kr,F.hc,F.lc,a9,List.length_set,F.dm,he.out.fr F.M.f (λb f hn e h=>by rw[hal b f hn e]at h;simp[FlL]at h),ht,(λk h=>by cases h),Own.nil _ _ _,(λk h=>by cases h)⟩
   have HT:=zhd T;have bd:Hid (ms.length<=4096):=by
    have:=a1.out (qca cf p).length;rw[<- hf.out,List.length_map]at this
    exact this
   clear ha M6 a9 ht F HF T a4 a7 a6 a3 Hy;generalize hcs1:cs.set p (setPts (atD Ce0 cs p) (ST (qca cf p).length).2.1)=cs1 at HT;have Hv:=zhd hcs1;clear hcs1;have hcn:cs.length<=1000:=a2.out;cases ms with
   | nil =>
    obtain⟨sx,rx,h4⟩:=HT.out.hc;go_upto_region 16 with (go_at_call 198;refine(qc8 HT.out.kr.1 h4).mono ?_;rintro _ w9 ⟨rfl,ah⟩)
    have HR:=zhd ((HT.out.blw (Mv.below ah)).blw (Mv.below (w':=w9.alloc (.cells #[ii 0,ii 0,.slice none 0 0] 122)) zv));clear HT ah h4;generalize w9.alloc (.cells #[ii 0,ii 0,.slice none 0 0] 122)=w10 at *;go_loopw [15,16,17] (λv15 _ v17 wl=>v15 = .slice none 0 0/\v17 = .bool false/\Tl W w o cf c x cs.length pA pc g0 (ch + 1) ch [] wl o' cs1 none 0 [] []) (λ_ _ _ _=>0)
    case atStart=>exact⟨rfl,rfl,HR.out⟩
    case round =>
     clear HR;obtain⟨rfl,rfl,T⟩:=hrel;have HR:=zhd T;clear T;go_wp2_with fail;go_returns;refine⟨none,0,[],o',rfl,hf.out,HR.out.out.1,HR.out.ge,λm hm=>absurd hm List.not_mem_nil,HR.out.M,?_⟩;have:=HR.out.R;rw[<- Hv.out]at this
     rw[<- hf.out];exact this
   | cons y0 rs0 =>
    obtain⟨sx,rx,h4⟩:=HT.out.hc;go_upto_region 16 with (go_at_call 198;refine(qfv HT.out.kr.1 h4 (qc9 y0 rs0).1 (qc9 y0 rs0).2.1).mono ?_;rintro _ w9 ⟨rfl,h9,f9⟩)
    rw[(qc9 y0 rs0).2.2]at h9
    have T9:=HT.out.take f9 ⟨_,_,h9⟩;have kq:=Blk.new w9 122 #[ii y0.chan,ii y0.win,y0.d.hq];obtain⟨o9,m9,l9⟩:∃ o9,Mv (λ_=>False) o' w9 o9 (w9.alloc (.cells #[ii y0.chan,ii y0.win,y0.d.hq] 122))/\o9 w9.heap.size = .sys 13:=⟨lay w9 o' (.sys 13),Mv.lay (S:=λ_=>False) _ ((Fr.refl _ w9).alloc _) (λ_ _ h=>h.elim),q07 nL⟩
    have aa:=zhd (T9.blw m9);have a0:=zhd (show q1t _ o9 (.sys 13) w9.heap.size 122 #[ii y0.chan,ii y0.win,y0.d.hq] from⟨kq,l9⟩);clear T9 kq m9 l9 HT f9 h9 h4;generalize w9.alloc (.cells #[ii y0.chan,ii y0.win,y0.d.hq] 122)=w10 at *;generalize w9.heap.size=q0 at *;go_loopw [15,16,17] (λv15 v16 v17 wl=>∃ (dn rs:List Mh) (o2:Gh) (A:Option Addr) (cA q:Nat) (y:Mh) (b:Bool),v15 = .slice A dn.length cA/\v16 = .pointer (some ⟨q,0,none⟩)/\v17 = .bool b/\Tl W w o cf c x cs.length pA pc g0 (ch + 1) ch (y0 :: rs0) wl o2 ((dn.map Mh.g).foldl (q0v cf) cs1) A cA dn rs/\q1t wl o2 (.sys 13) q 122 #[.int .i64 y.chan,.int .i64 y.win,y.d.hq]/\Hid (y0 :: rs0=if b=true then dn ++ y :: rs else dn)/\Hid (b=false->rs = [])) (λv15 _ _ _=>(rs0.length + 1) - (qsl v15))
    case atStart=>exact⟨[],rs0,o9,none,0,q0,y0,true,rfl,rfl,rfl,aa.out,a0.out,rfl,λh=>nomatch h⟩
    case round =>
     clear aa a0;obtain⟨dn,rs,o2,A,cA,q,y,b,rfl,rfl,rfl,T,kq,HY,HB⟩:=hrel;obtain⟨kc,lc⟩:=T.kc.1.cl;obtain⟨cq,lq⟩:=kq.1.cl;cases b with
     | false =>
      have HR:=zhd T;clear T kc lc cq lq kq;go_wp2_with fail;go_returns;have hy:y0 :: rs0=dn:=HY.out;refine⟨A,cA,dn,o2,rfl,by rw[<- hy];exact hf.out,HR.out.out.1,HR.out.ge,λm hm=>(HR.out.dm m (by rw[hy];exact hm)).1,HR.out.M,?_⟩;have:=HR.out.R;rw[<- hy,hf.out,<- Hv.out]at this
      exact this
     | true =>
      have h0:y0 :: rs0=dn ++ y :: rs:=HY.out;have Hg:=T.dm y (by rw[h0];simp);have Hf:=qfu (cs:=(dn.map Mh.g).foldl (q0v cf) cs1) (q54.keep hcf T.B.b) (by rw[T.cn];exact T.a) (by rw[T.cn];exact a2) T.R (m:=y) Hg.1 Hg.2;rw[T.cn,bg.out]at Hf
      have h3:=zhd h0;clear h0 Hg;go_upto_region 19 with ((go_at_call 199;refine(Hf).mono ?_;rintro _ w8 ⟨⟨bb,rfl⟩,o8,m8,R8⟩);have T8:=T.deliver m8 R8;have kq:=kq.go m8 qft.ns;obtain⟨cq,lq⟩:=kq.1.cl)
      have H8:Hid (dn.length < rs0.length + 1/\dn.length<=100000000000):=by
       have h1:=congrArg List.length h3.out;have h2:=bd.out;simp only[List.length_append,List.length_cons]at h1 h2;exact⟨zo,zo⟩
      have a5:=zhd T8.out.1;go_upto_region 20 with (at_builtin;refine q2k qon w8 zr _ _ zr zr a5.out #[ii y.chan,ii y.win,y.d.hq] rfl (by simp[Value.oneCell']) zr H8.out.2 ?_;intro A' c' w5 own5 hf5 hat5)
      obtain⟨m9,T9⟩:=T8.app (y:=y) own5 hf5 hat5;have Ht:=kq.go m9 zp;generalize lay w8 o8 (.sys 12)=o9 at *;obtain⟨cq,lq⟩:=Ht.1.cl;clear own5 hf5 hat5 a5 T8 kq T Hf R8 m8 m9 kc lc;go_upto_region 17 with fail;have kn:=Blk.new w5 122 #[ii y.chan,ii y.win,y.d.hq];obtain⟨hd,b8,b0⟩:∃ hd,Mv (λ_=>False) o9 w5 hd (w5.alloc (.cells #[ii y.chan,ii y.win,y.d.hq] 122))/\hd w5.heap.size = .sys 13:=⟨lay w5 o9 (.sys 13),Mv.lay (S:=λ_=>False) _ ((Fr.refl _ w5).alloc _) (λ_ _ h=>h.elim),q07 nL⟩
      have hg:=T9.blw b8;have H4:=zhd b0;clear T9 b8 b0 Ht cq lq;generalize w5.alloc (.cells #[ii y.chan,ii y.win,y.d.hq] 122)=w10 at *;generalize w5.heap.size=q2 at *;obtain⟨sx,rx,h4⟩:=hg.hc;have bu:q2≠ch:=λe=>by rw[Blk,e,h4]at kn;cases kn
      cases rs with
      | nil =>
       go_wp2_with ((go_at_call 198;refine(qc8 hg.kr.1 h4).mono ?_;rintro _ h6 ⟨rfl,hu⟩);have Hb:=hg.blw (Mv.below hu);have kn:=kn.keep hu;have cn:=kn.cell;have fn:=kn.frozen;have ln:=kn.lt);have Hh:Fr (λk=>k=q2) h6 (((h6.setCell ⟨q2,0,none⟩ (ii 0)).setCell ⟨q2,1,none⟩ (ii 0)).setCell ⟨q2,2,none⟩ (.slice none 0 0)):=(((Fr.refl (λk=>k=q2) h6).setCell (p:=⟨q2,0,none⟩) (λ_=>rfl) _).setCell (p:=⟨q2,1,none⟩) (λ_=>rfl) _).setCell (p:=⟨q2,2,none⟩) (λ_=>rfl) _;have hh:=Hb.cell H4.out Hh;have H0:q1t _ hd (.sys 13) q2 122 _:=⟨((kn.set_ 0 (ii 0)).set_ 1 (ii 0)).set_ 2 (.slice none 0 0),H4.out⟩
       generalize ((h6.setCell ⟨q2,0,none⟩ (ii 0)).setCell ⟨q2,1,none⟩ (ii 0)).setCell ⟨q2,2,none⟩ (.slice none 0 0)=w12 at hh H0 ⊢;refine⟨⟨dn ++ [y],[],hd,A',c',q2,⟨0,0,⟨none,0,[]⟩⟩,false,by rw[List.length_append];rfl,rfl,rfl,by rw[List.map_append,List.foldl_append];exact hh,H0,?_,λ_=>rfl⟩,?_⟩
       .show y0 :: rs0=_;rw[h3.out];simp
       .show(rs0.length + 1) - (dn.length + 1) < (rs0.length + 1) - dn.length;have:=H8.out.1;omega
      | cons y2 rs2 =>
       go_wp2_with ((go_at_call 198;refine(qfv hg.kr.1 h4 (qc9 y2 rs2).1 (qc9 y2 rs2).2.1).mono ?_;rintro _ h6 ⟨rfl,bk,ac⟩);have Hb:=hg.take ac ⟨_,_,bk.trans (by rw[(qc9 y2 rs2).2.2])⟩;have kn:=kn.fr ac bu;have cn:=kn.cell;have fn:=kn.frozen;have ln:=kn.lt);have Hh:Fr (λk=>k=q2) h6 (((h6.setCell ⟨q2,0,none⟩ (ii y2.chan)).setCell ⟨q2,1,none⟩ (ii y2.win)).setCell ⟨q2,2,none⟩ (y2.d.hq)):=(((Fr.refl (λk=>k=q2) h6).setCell (p:=⟨q2,0,none⟩) (λ_=>rfl) _).setCell (p:=⟨q2,1,none⟩) (λ_=>rfl) _).setCell (p:=⟨q2,2,none⟩) (λ_=>rfl) _;have hh:=Hb.cell H4.out Hh;have H0:q1t _ hd (.sys 13) q2 122 _:=⟨((kn.set_ 0 (ii y2.chan)).set_ 1 (ii y2.win)).set_ 2 (y2.d.hq),H4.out⟩
       generalize ((h6.setCell ⟨q2,0,none⟩ (ii y2.chan)).setCell ⟨q2,1,none⟩ (ii y2.win)).setCell ⟨q2,2,none⟩ (y2.d.hq)=w12 at hh H0 ⊢;refine⟨⟨dn ++ [y],rs2,hd,A',c',q2,y2,true,by rw[List.length_append];rfl,rfl,rfl,by rw[List.map_append,List.foldl_append];exact hh,H0,?_,λh=>nomatch h⟩,?_⟩
       .show y0 :: rs0=_;rw[h3.out];simp
       .show(rs0.length + 1) - (dn.length + 1) < (rs0.length + 1) - dn.length;have:=H8.out.1;omega
structure Yx where
 y:Nat
 gx:Gx
 c:Nat->Nat
 x:Nat->Cx
 cA:Option Addr
 cc:Nat
 pA:Option Addr
 pc:Nat
 sb:Nat
 lb:Nat
 la:Nat
 lcap:Nat
 lq:List Nat
 eA:Option Addr
 ec:Nat
 mA:Option Addr
 mc:Nat
 mh:List Mh
 bA:Option Addr
 bc:Nat
 hA:Option Addr
 hc:Nat
 dA:Option Addr
 dc:Nat
 rA:Option Addr
 rc:Nat
 rv:List Value
def qj2(c:Nat->Nat) (n:Nat):List Value:=(List.range n).map λq=>pp (c q)
theorem qoy{c:Nat->Nat} {k:Nat} (h:Sl w A n k 1 (qj2 c n)) {q:Nat} (hq:q < n):∃ b f,A=some ⟨b,f,none⟩/\b < w.heap.size/\w.cell? ⟨b,f + q,none⟩=some (pp (c q)):=by
 obtain⟨_,_,_,_,h5⟩:=h;obtain⟨b,f,e,hb,hc⟩:=h5 zo;exact⟨b,f,e,hb,hc q _ (by unfold qj2;simp[hq])⟩
def Yx.cells(x:Yx) (cf:Cf) (s:Sy):Array Value:=#[.slice x.eA s.evs.length x.ec,.slice x.mA x.mh.length x.mc,.slice x.bA s.bounds.length x.bc,.slice none 0 0,ii 0,ii 0,ii 0,ii 0,.slice x.hA s.sheds.length x.hc,.slice x.dA s.modes.length x.dc,.slice x.rA x.rv.length x.rc,ii s.late,pp x.gx.g,cf.parts.hq,cf.chans.hq,cf.modes.hq,cf.pw.levels.hq,cf.pw.naps.hq,ii cf.pw.sw,ii cf.pw.idle,ii cf.pw.change,ii cf.pw.quant,ii cf.pw.slow,ii cf.pw.ppm,cf.shed.down.hq,cf.shed.up.hq,.slice x.cA cf.parts.l.length x.cc,.slice x.pA cf.parts.l.length x.pc,.slice (some ⟨x.sb,0,none⟩) cf.parts.l.length cf.parts.l.length,pp x.lb]
def SlL(w:World) (o:Gh) (l:Lb) (A:Option Addr) (n c:Nat) (xs:List Value):Prop:=Sl w A n c 1 xs/\∀ b f,0 < n->A=some ⟨b,f,none⟩->o b=l
theorem SlL.go{L:Lb->Prop} {o o':Gh} {l:Lb} {xs:List Value} (h:SlL w o l A n c xs) (m:Mv L o w o' w') (hl:¬ L l):SlL w' o' l A n c xs :=
 ⟨h.1.fr m.f (λb f hn e h'=>by rw[h.2 b f hn e]at h';exact hl h'),λb f hn e=>(m.a b (by obtain⟨b',f',e',h0,_⟩:=h.1.2.2.2.2 hn;rw[e]at e';cases e';exact h0)).trans (h.2 b f hn e)⟩
structure LdL(w:World) (o:Gh) (lb la lcap:Nat) (lq:List Nat) (cf:Cf) (cy:List Int):Prop where
 H:LdR w lb la lcap lq cf cy
 b:o lb = .sys 3
 a:o la = .sys 3
 q:∀ k,k ∈ lq->o k = .sys 4
 al:la < w.heap.size
theorem LdL.go{L:Lb->Prop} {o o':Gh} {lb la lcap:Nat} {lq:List Nat} {cf:Cf} {cy:List Int} (h:LdL w o lb la lcap lq cf cy) (m:Mv L o w o' w') (h3:¬ L (.sys 3)) (h4:¬ L (.sys 4)):LdL w' o' lb la lcap lq cf cy:=by
 refine⟨h.H.fr m.f (by rw[h.b];exact h3) (by rw[h.a];exact h3) (λk hk=>by rw[h.q k hk];exact h4),(m.a _ h.H.kb.lt).trans h.b,(m.a _ h.al).trans h.a,λk hk=>(m.a k ?_).trans (h.q k hk),Nat.lt_of_lt_of_le h.al m.f.size⟩;obtain⟨i,hi,rfl⟩:=List.getElem_of_mem hk;have:=(h.H.q i (by rw[<- h.H.ql];exact hi)).lt;rwa [show atN lq i=lq[i] by simp[atN,List.getElem?_eq_getElem hi]]at this
structure GvL(W w:World) (o:Gh) (x:Gx) (c:Pw) (s:Gv):Prop where
 N:Gn W w w x c s
 l:∀ k,GS x k->o k = .sys 1
 f:o x.fb = .sys 2
theorem Gn.lt{w0:World} {x:Gx} {c:Pw} {s:Gv} (N:Gn W w0 w x c s) {k:Nat} (h:GS x k):k < w.heap.size:=by
 rcases h with rfl | rfl | rfl | rfl | rfl
 .exact N.k.lt
 .exact N.P.b.lt
 .exact N.P.m.b.lt
 .exact N.P.m.c.lt
 .exact N.n.lt
theorem GvL.go{L:Lb->Prop} {o o':Gh} {x:Gx} {c:Pw} {s:Gv} (h:GvL W w o x c s) (m:Mv L o w o' w') (hf:¬ L .free) (hW:∀ k,k < W.heap.size->o k = .free) (h1:¬ L (.sys 1)) (h2:¬ L (.sys 2)):GvL W w' o' x c s:=by
 have g:=λk (hk:GS x k)=>(by rw[h.l k hk];exact h1:¬ L (o k))
 have N:=h.N;refine⟨⟨N.b.trans (m.f.below (λk hk hs=>hf (by rw[hW k hk]at hs;exact hs)) N.b.size),Fr.refl _ _,N.hc,N.k.fr m.f (g _ (.inl rfl)),N.P.fr m.f (g _ (.inr (.inl rfl))) (g _ (.inr (.inr (.inl rfl)))) (g _ (.inr (.inr (.inr (.inl rfl))))),N.f.fr m.f (by rw[h.f];exact h2),N.n.fr m.f (g _ (.inr (.inr (.inr (.inr rfl))))),N.le,N.ne,N.nn,N.nf,N.i,N.nl⟩,λk hk=>(m.a k (N.lt hk)).trans (h.l k hk),(m.a _ N.f.lt).trans h.f⟩
theorem GvL.step{o:Gh} {x:Gx} {c:Pw} {s s':Gv} (h:GvL W w o x c s) (N:Gn W w w' x c s'):Mv (λy=>y = .sys 1) o w o w'/\GvL W w' o x c s' :=
 ⟨Mv.of N.F λk hk=>h.l k hk,⟨⟨N.b,Fr.refl _ _,N.hc,N.k,N.P,N.f,N.n,N.le,N.ne,N.nn,N.nf,N.i,N.nl⟩,h.l,h.f⟩⟩
structure SyR(W w:World) (o:Gh) (cf:Cf) (x:Yx) (s:Sy):Prop where
 B:Bas W w o
 hc:q1k.ok W cf
 k:q1t w o (.sys 0) x.y 112 (x.cells cf s)
 G:GvL W w o x.gx cf.pw s.g
 L:LdL w o x.lb x.la x.lcap x.lq cf s.cy
 R:CsR w o x.c x.x s.cs
 cn:s.cs.length=cf.parts.l.length
 ca:SlL w o (.sys 3) x.cA cf.parts.l.length x.cc (qj2 x.c cf.parts.l.length)
 pa:SlL w o (.sys 3) x.pA cf.parts.l.length x.pc (qc7 x.x cf.parts.l.length)
 sn:s.seen.length=cf.parts.l.length
 se:q1t w o (.sys 5) x.sb 3 (s.seen.map λ(j:Nat)=>(ii (j:Int):Value)).toArray
 ev:q4q w o (.sys 6) 67 6 x.eA s.evs.length x.ec (s.evs.flatMap Ev.f)
 ms:q4q w o (.sys 7) 122 3 x.mA x.mh.length x.mc (x.mh.flatMap Mh.f)
 mg:x.mh.map Mh.g=s.msgs
 md:∀ m ∈ x.mh,Dat w o m.d
 bd:q4q w o (.sys 8) 86 3 x.bA s.bounds.length x.bc (s.bounds.flatMap Bd.f)
 sh:q4q w o (.sys 14) 3 1 x.hA s.sheds.length x.hc (s.sheds.map (.int .i64))
 mo:q4q w o (.sys 15) 3 1 x.dA s.modes.length x.dc (s.modes.map (.int .i64))
 cr:q4q w o (.sys 16) 29 1 x.rA x.rv.length x.rc x.rv
 cv:(∀ u ∈ x.rv,u.oneCell'=true)/\x.rv.length=s.creds.length
section
variable{L:Lb->Prop} {W w w':World} {o o':Gh} {cf:Cf} {x:Yx} {s:Sy}
theorem SyR.blw(S:SyR W w o cf x s) (hb:bW w w'):SyR W w' o cf x s:=by
 have m:Mv (λ_=>False) o w o w':=Mv.below hb;exact⟨S.B.go m id,S.hc,S.k.go m id,S.G.go m id S.B.l id id,S.L.go m id id,S.R.blw hb,S.cn,S.ca.go m id,S.pa.go m id,S.sn,S.se.go m id,S.ev.go m id,S.ms.go m id,S.mg,λy hy=>(S.md y hy).go m id,S.bd.go m id,S.sh.go m id,S.mo.go m id,S.cr.go m id,S.cv⟩
theorem SyR.laid(S:SyR W w o cf x s) {l:Lb} (hb:bW w w'):Mv (λ_=>False) o w (lay w o l) w'/\SyR W w' (lay w o l) cf x s:=by
 have m:Mv (λ_=>False) o w (lay w o l) w':=Mv.lay (S:=λ_=>False) l (fO hb _) (λ_ _ h=>h.elim);exact⟨m,S.B.go m id,S.hc,S.k.go m id,S.G.go m id S.B.l id id,S.L.go m id id,S.R.go m (λ_ h=>h.elim) id,S.cn,S.ca.go m id,S.pa.go m id,S.sn,S.se.go m id,S.ev.go m id,S.ms.go m id,S.mg,λy hy=>(S.md y hy).go m id,S.bd.go m id,S.sh.go m id,S.mo.go m id,S.cr.go m id,S.cv⟩
theorem SyR.gov(S:SyR W w o cf x s) {g:Gv} (N:Gn W w w' x.gx cf.pw g):Mv (λy=>y = .sys 1) o w o w'/\SyR W w' o cf x { s with g:=g }:=by
 obtain⟨m,G⟩:=S.G.step N;exact⟨m,S.B.go m zp,S.hc,S.k.go m zp,G,S.L.go m zp zp,S.R.go m (by rintro _ rfl;rfl) zp,S.cn,S.ca.go m zp,S.pa.go m zp,S.sn,S.se.go m zp,S.ev.go m zp,S.ms.go m zp,S.mg,λy hy=>(S.md y hy).go m zp,S.bd.go m zp,S.sh.go m zp,S.mo.go m zp,S.cr.go m zp,S.cv⟩
theorem SyR.led(S:SyR W w o cf x s) {cy:List Int} (H:LdR w' x.lb x.la x.lcap x.lq cf cy) (f:Fr (LdS x.lq) w w'):Mv (λy=>y = .sys 4) o w o w'/\SyR W w' o cf x { s with cy:=cy }:=by
 have m:Mv (λy=>y = .sys 4) o w o w':=Mv.of f λk hk=>S.L.q k hk;exact⟨m,S.B.go m zp,S.hc,S.k.go m zp,S.G.go m zp S.B.l zp zp,⟨H,S.L.b,S.L.a,S.L.q,Nat.lt_of_lt_of_le S.L.al m.f.size⟩,S.R.go m (by rintro _ rfl;rfl) zp,S.cn,S.ca.go m zp,S.pa.go m zp,S.sn,S.se.go m zp,S.ev.go m zp,S.ms.go m zp,S.mg,λy hy=>(S.md y hy).go m zp,S.bd.go m zp,S.sh.go m zp,S.mo.go m zp,S.cr.go m zp,S.cv⟩
theorem SyR.cell(S:SyR W w o cf x s) {p:Nat} (hp:p < cf.parts.l.length) (m:Mv (PaL p) o w o' w') {x':Cx} {c':Ce} (hx:x'.p=(x.x p).p) (R:CeR w' o' p (x.c p) x' c'):SyR W w' o' cf { x with x:=λq=>if q=p then x' else x.x q } { s with cs:=s.cs.set p c' }:=by
 have hs:∀ i,¬ PaL p (.sys i):=λi h=>by simp[PaL,Lb.part]at h
 have h0:qc7 (λq=>if q=p then x' else x.x q) cf.parts.l.length=qc7 x.x cf.parts.l.length:=by
  unfold qc7;refine List.map_congr_left λq _=>?_;by_cases e:q=p
  .subst e;simp[hx]
  .simp[e]
 have hR:=S.R.put (by rw[S.cn];exact hp) m (λl h=>h) R;exact⟨S.B.go m PaL.nf,S.hc,S.k.go m (hs _),S.G.go m PaL.nf S.B.l (hs _) (hs _),S.L.go m (hs _) (hs _),hR,by rw[List.length_set];exact S.cn,S.ca.go m (hs _),by rw[h0];exact S.pa.go m (hs _),S.sn,S.se.go m (hs _),S.ev.go m (hs _),S.ms.go m (hs _),S.mg,λy hy=>(S.md y hy).go m PaL.nd,S.bd.go m (hs _),S.sh.go m (hs _),S.mo.go m (hs _),S.cr.go m (hs _),S.cv⟩
end
end Go.Proofs.YtncfcbohiodnnaaGreat
