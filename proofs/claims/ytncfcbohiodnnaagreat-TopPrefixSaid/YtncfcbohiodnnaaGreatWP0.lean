/- Parts of this seat's claims. -/
import Derived.Test.YtncfcbohiodnnaaGreatW39
set_option maxRecDepth 100000
set_option maxHeartbeats 6400000
namespace Go.Proofs.YtncfcbohiodnnaaGreat
open Go.RowKit
variable{w w' W wa wo W':World} {c n pt r B j b m mb q base cap id B0:Nat} {A:Option Addr} {a code what:Int} {cs:Array Value}
theorem qud{l:List UInt8} (h:SlB w A n c l):(convert 38 9 (.slice A n c)).run Tryz.prog w = .ok (.string ⟨l.toArray⟩) w :=
 qcn 38 9 5 zk zk zk h
def qtf(w:World) (e:Ending) (w':World):Prop:=e = .returned (.bool true)/\bW w w'
theorem q1u(a:Int):(a != a)=false:=zp
theorem qld{B:Option Addr} {d:Nat} {l:List Ev} (h1:SlG w A n c 6 Ev.f l) (h2:SlG w B n d 6 Ev.f l):cP 16 #[.slice A n c,.slice B n d] w (qtf w):=by
 have hn:=h1.len;have e0:((n:Int) != n)=false:=q1u _;obtain⟨wo,rfl⟩:∃ wo:World,wo=w:=⟨_,rfl⟩
 refine inC ?_;go_in;go_wp2_with fail;go_loopw [5] (λi wr=>∃ k:Nat,k<=n/\i = .int .i64 k/\bW wo wr) (λi _=>n - (intOf i).toNat)
 case atStart=>exact⟨0,Nat.zero_le _,rfl,bR⟩
 case round =>
  obtain⟨k,hk,rfl,h3⟩:=hrel;by_cases h4:k < n
  .obtain⟨b,o,hA,hb,hc⟩:=(h1.keep h3).at_ Ev0 h4;obtain⟨b',o',hB,hb',h0⟩:=(h2.keep h3).at_ Ev0 h4;have c0:wr.cell? ⟨b,o + k * 6,none⟩=some (ii (atD Ev0 l k).part):=hc 0 _ rfl;have c1:=hc 1 _ rfl;have c2:=hc 2 _ rfl;have c3:=hc 3 _ rfl;have c4:=hc 4 _ rfl;have c5:=hc 5 _ rfl;have d0:wr.cell? ⟨b',o' + k * 6,none⟩=some (ii (atD Ev0 l k).part):=h0 0 _ rfl;have d1:=h0 1 _ rfl;have d2:=h0 2 _ rfl;have d3:=h0 3 _ rfl;have d4:=h0 4 _ rfl;have d5:=h0 5 _ rfl;generalize atD Ev0 l k=x at *;have n0:=q1u x.part;have n1:=q1u x.win;have n2:=q1u x.proc;have n3:=q1u x.call;have n4:=q1u x.code;have n5:=q1u x.value;rw[hA,hB];clear hc h0 h1 h2 hA hB;go_wp2_with fail;refine wp_region_quiet_lit zk zk ?_;simp only[List.append]
   repeat(go_big_quiet_step (fail))
   refine wpQuiet_nil ?_;rintro _ ⟨nq,rfl⟩;go_wp2_with fail;exact⟨⟨k + 1,zo,by go_num,q19 h3 nq⟩,by simp[intOf];omega⟩
  .obtain rfl:k=n:=zo;go_wp2_with fail;go_ret;exact⟨rfl,h3⟩
theorem qle{B:Option Addr} {d:Nat} {l:List Bd} (h1:SlG w A n c 3 Bd.f l) (h2:SlG w B n d 3 Bd.f l):cP 18 #[.slice A n c,.slice B n d] w (qtf w):=by
 have hn:=h1.len;have e0:((n:Int) != n)=false:=q1u _;obtain⟨wo,rfl⟩:∃ wo:World,wo=w:=⟨_,rfl⟩
 refine inC ?_;go_in;go_wp2_with fail;go_loopw [5] (λi wr=>∃ k:Nat,k<=n/\i = .int .i64 k/\bW wo wr) (λi _=>n - (intOf i).toNat)
 case atStart=>exact⟨0,Nat.zero_le _,rfl,bR⟩
 case round =>
  obtain⟨k,hk,rfl,h0⟩:=hrel;by_cases h4:k < n
  .obtain⟨b,o,hA,hb,hc⟩:=(h1.keep h0).at_ ⟨0,0,0⟩ h4;obtain⟨b',o',hB,hb',h3⟩:=(h2.keep h0).at_ ⟨0,0,0⟩ h4;generalize atD (⟨0,0,0⟩:Bd) l k=x at *;have c0:wr.cell? ⟨b,o + k * 3,none⟩=some (ii x.due):=hc 0 _ rfl;have c1:=hc 1 _ rfl;have c2:=hc 2 _ rfl;have d0:wr.cell? ⟨b',o' + k * 3,none⟩=some (ii x.due):=h3 0 _ rfl;have d1:=h3 1 _ rfl;have d2:=h3 2 _ rfl;have n0:=q1u x.due;have n1:=q1u x.at_;have n2:=q1u x.part;rw[hA,hB];clear hc h3 h1 h2 hA hB;go_wp2_with ((with_reducible refine qe4 [] ?_);simp only[q03];(repeat(go_big_quiet_step (fail)));refine wpQuiet_nil ?_);exact⟨⟨k + 1,zo,by go_num,h0.drew⟩,by simp[intOf];omega⟩
  .obtain rfl:k=n:=zo;go_wp2_with fail;go_ret;exact⟨rfl,h0⟩
theorem qht{B:Option Addr} {d:Nat} {l:List Int} (hln:l.length=n) (h1:Sl w A n c 1 (l.map (.int .i64))) (h2:Sl w B n d 1 (l.map (.int .i64))):cP 19 #[.slice A n c,.slice B n d] w (qtf w):=by
 have hn:=h1.len_le;have e0:((n:Int) != n)=false:=q1u _;have HL:=zhd hln;clear hln;obtain⟨wo,rfl⟩:∃ wo:World,wo=w:=⟨_,rfl⟩
 refine inC ?_;go_in;go_wp2_with fail;go_loopw [5] (λi wr=>∃ k:Nat,k<=n/\i = .int .i64 k/\bW wo wr) (λi _=>n - (intOf i).toNat)
 case atStart=>exact⟨0,Nat.zero_le _,rfl,bR⟩
 case round =>
  obtain⟨k,hk,rfl,h0⟩:=hrel;by_cases h4:k < n
  .obtain⟨b,o,hA,hb,hc⟩:=(h1.keep h0).at_ zo;obtain⟨b',o',hB,hb',h3⟩:=(h2.keep h0).at_ zo;have hg:(l.map (Value.int .i64))[k]?=some (ii (at0 l k)):=by rw[List.getElem?_map];simp[at0,List.getD,List.getElem?_eq_getElem (show k < l.length by rw[HL.out];exact h4)]
   have c0:wr.cell? ⟨b,o + k,none⟩=some (ii (at0 l k)):=hc k _ hg;have d0:wr.cell? ⟨b',o' + k,none⟩=some (ii (at0 l k)):=h3 k _ hg;clear hg;generalize at0 l k=x at *;have n0:=q1u x;rw[hA,hB];clear hc h3 h1 h2 hA hB;go_wp2_with ((with_reducible refine qe4 [] ?_);simp only[q03];(repeat(go_big_quiet_step (fail)));refine wpQuiet_nil ?_);exact⟨⟨k + 1,zo,by go_num,h0.drew⟩,by simp[intOf];omega⟩
  .obtain rfl:k=n:=zo;go_wp2_with fail;go_ret;exact⟨rfl,h0⟩
theorem qlf{B:Option Addr} {d:Nat} {l m:List Mh} (hlm:l.map Mh.g=m.map Mh.g) (h1:SlG w A n c 3 Mh.f l) (h2:SlG w B n d 3 Mh.f m) (k1:∀ x ∈ l,SlB w x.d.A x.d.l.length x.d.c x.d.l) (k2:∀ x ∈ m,SlB w x.d.A x.d.l.length x.d.c x.d.l):cP 17 #[.slice A n c,.slice B n d] w (qtf w):=by
 have hn:=h1.len;have e0:((n:Int) != n)=false:=q1u _;have hg:Hid (∀ k,k < n->(atD ⟨0,0,⟨none,0,[]⟩⟩ l k).g=(atD ⟨0,0,⟨none,0,[]⟩⟩ m k).g):=λk hk=>by
  have e1:k < l.length:=by rw[h1.2.1];exact hk
  have e2:k < m.length:=by rw[h2.2.1];exact hk
  rw[q0s e1,q0s e2];have:=congrArg (·[k]?) hlm;simpa [List.getElem?_eq_getElem e1,List.getElem?_eq_getElem e2] using this
 have HL:=zhd h1.2.1;have HM:=zhd h2.2.1;clear hlm;obtain⟨wo,rfl⟩:∃ wo:World,wo=w:=⟨_,rfl⟩
 refine inC ?_;go_in;go_wp2_with fail;go_loopw [5] (λi wr=>∃ k:Nat,k<=n/\i = .int .i64 k/\bW wo wr) (λi _=>n - (intOf i).toNat)
 case atStart=>exact⟨0,Nat.zero_le _,rfl,bR⟩
 case round =>
  obtain⟨k,hk,rfl,h0⟩:=hrel;by_cases h3:k < n
  .obtain⟨b,o,hA,hb,hc⟩:=(h1.keep h0).at_ ⟨0,0,⟨none,0,[]⟩⟩ h3;obtain⟨b',o',hB,hb',h4⟩:=(h2.keep h0).at_ ⟨0,0,⟨none,0,[]⟩⟩ h3;have hs:=(k1 _ (q0h (d:=⟨0,0,⟨none,0,[]⟩⟩) (l:=l) (k:=k) (by rw[HL.out];exact h3))).keep h0;have ht:=(k2 _ (q0h (d:=⟨0,0,⟨none,0,[]⟩⟩) (l:=m) (k:=k) (by rw[HM.out];exact h3))).keep h0;have hq:=hg.out k h3;generalize atD (⟨0,0,⟨none,0,[]⟩⟩:Mh) l k=x at *;generalize atD (⟨0,0,⟨none,0,[]⟩⟩:Mh) m k=y at *;obtain⟨x1,x2,xA,xc,xl⟩:=x;obtain⟨y1,y2,yA,yc,yl⟩:=y;injection hq with q1 q2 q3
   subst q1 q2;dsimp only at q3 hs ht;subst q3;have c0:wr.cell? ⟨b,o + k * 3,none⟩=some (ii x1):=hc 0 _ rfl;have c1:=hc 1 _ rfl;have c2:wr.cell? ⟨b,o + k * 3 + 2,none⟩=some (.slice xA xl.length xc):=hc 2 _ rfl;have d0:wr.cell? ⟨b',o' + k * 3,none⟩=some (ii x1):=h4 0 _ rfl;have d1:=h4 1 _ rfl;have d2:wr.cell? ⟨b',o' + k * 3 + 2,none⟩=some (.slice yA xl.length yc):=h4 2 _ rfl;have s1:∀ z,(convert 38 9 (.slice xA xl.length xc)).run Tryz.prog (q38 (λ_=>False) wr z) = .ok (.string ⟨xl.toArray⟩) (q38 (λ_=>False) wr z):=λz=>qud (SlB.fr (S:=λ_=>False) hs (q96 _ _ _) (λ_ _ _ _ h=>h));have s2:∀ z,(convert 38 9 (.slice yA xl.length yc)).run Tryz.prog (q38 (λ_=>False) wr z) = .ok (.string ⟨xl.toArray⟩) (q38 (λ_=>False) wr z):=λz=>qud (SlB.fr (S:=λ_=>False) ht (q96 _ _ _) (λ_ _ _ _ h=>h));have n0:=q1u x1;have n1:=q1u x2;rw[hA,hB];clear hc h4 h1 h2 hA hB hs ht k1 k2 hg;go_wp2_with ((with_reducible refine qe4 [] ?_);simp only[q03];(repeat(go_big_quiet_step (fail)));refine wpQuiet_nil ?_);exact⟨⟨k + 1,zo,by go_num,h0.drew⟩,by simp[intOf];omega⟩
  .obtain rfl:k=n:=zo;go_wp2_with fail;go_ret;exact⟨rfl,h0⟩
theorem qck(cf:Cf):∀ (l:List Fm) (p:Ca.Pg) (k:Nat),Ca.pagesS cf p (l.take k)=(Ca.pagesS cf p l).take k
 | [],p,k=>by simp[Ca.pagesS]
 | f :: fs,p,0=>by simp[Ca.pagesS]
 | f :: fs,p,k + 1=>by
  rw[List.take_succ_cons,Ca.pagesS,Ca.pagesS];cases Ca.stepS cf p f with
  | none=>simp
  | some q=>dsimp only;rw[qck cf fs q k,List.take_succ_cons]
theorem qpv(cf:Cf) (p:Nat) (en:Int):∀ (n:Nat) (s:Sy),(q3e cf p en n s).sheds=s.sheds
 | 0,s=>rfl
 | n + 1,s=>by
  unfold q3e;split
  .rfl
  .rw[qpv cf p en n];rfl
theorem qww(cf:Cf) (p:Ca.Pg) (s:Sy) (x:Wn):(q4e cf p s x).sheds=s.sheds:=by
 unfold q4e qbf;dsimp only;split
 .rfl
 .show(q3e _ _ _ _ _).sheds=_;rw[qpv];rfl
theorem qpw(cf:Cf) (p:Ca.Pg):∀ (l:List Wn) (s:Sy),(l.foldl (q4e cf p) s).sheds=s.sheds
 | [],_=>rfl
 | x :: l,s=>by rw[List.foldl_cons,qpw cf p l,qww]
theorem quf(cf:Cf):∀ (l:List (Ca.Pg×Fm)) (s:Sy),(qdz cf s l).sheds.length=s.sheds.length + l.length
 | [],_=>rfl
 | x :: l,s=>by
  show(qdz cf (q1x cf s x.1 x.2) l).sheds.length=_;rw[quf cf l];have:(q1x cf s x.1 x.2).sheds=s.sheds ++ [x.1.level]:=by
   unfold q1x z1v;dsimp only;rw[qpw];rfl
  rw[this,List.length_append,List.length_singleton,List.length_cons];omega
structure PfI(a b:Sy) (k:Nat):Prop where
 ev:a.evs <+: b.evs
 ms:a.msgs <+: b.msgs
 bd:a.bounds <+: b.bounds
 sh:a.sheds <+: b.sheds
 n:a.sheds.length=k
 mt:a.g.pl.m.total<=b.g.pl.m.total
theorem qzp{cf:Cf} {sc:Sc} (hb:q2d cf sc=true) {k:Nat} (hk:k<=sc.frames.l.length) (A:Option Addr) (c:Nat):PfI (qhr cf ⟨sc.progs,⟨A,c,sc.frames.l.take k⟩⟩) (qhr cf sc) k:=by
 have G:CfG cf:=qds (by unfold q2d at hb;simp only[Bool.and_eq_true]at hb;exact hb.1);have hfr:sc.frames.l.length<=64:=by unfold q2d qxe at hb;simp only[Bool.and_eq_true,decide_eq_true_eq]at hb;exact hb.2.1
 have hP:=(q84 G sc.frames.l Ca.Pg0 ⟨zd,by have:=G.m1;show(0:Int) < _;omega⟩ zd (by show(0:Int) + _<=_;omega)).1;unfold qhr;dsimp only;rw[qck,show((Ca.pagesS cf Ca.Pg0 sc.frames.l).take k).zip (sc.frames.l.take k)=((Ca.pagesS cf Ca.Pg0 sc.frames.l).zip sc.frames.l).take k from(List.take_zipWith).symm];have hz:((Ca.pagesS cf Ca.Pg0 sc.frames.l).zip sc.frames.l).length=sc.frames.l.length:=by rw[List.length_zip,hP,Nat.min_self]
 generalize (Ca.pagesS cf Ca.Pg0 sc.frames.l).zip sc.frames.l=L at *;have g0:=qty cf (q3i cf sc) (List.nil_prefix (l:=L.take k));have g1:=qty cf (q3i cf sc) (List.take_prefix k L);have m0:=g0.mt ⟨by show(0:Int)<=0;decide,by show(0:Int)<=4611686018427387904;decide⟩;have m1:=g1.mt ⟨m0.1,m0.2⟩;refine⟨g1.ev,g1.ms,g1.bd,g1.sh,?_,m1.1⟩;show(qdz cf (q3i cf sc) (L.take k)).sheds.length=k;rw[quf,List.length_take,hz];show 0 + _=k;omega
def qli(cf:Cf) (sc:Sc) (q:Rs) (S:Sy) (z:Int) (W:World):Prop:=(z=0->q2d cf sc=true/\S=qhr cf sc/\∃ B,RsR B W q S)/\(q2d cf sc=true->z=0)
theorem qli.keep{cf:Cf} {sc:Sc} {q:Rs} {S:Sy} {z:Int} (h:qli cf sc q S z W) (hb:bW W W'):qli cf sc q S z W' :=
 ⟨λh0=>let ⟨a,b,B,r⟩:=h.1 h0;⟨a,b,B,r.keep hb⟩,h.2⟩
theorem SlG.lo{α : Type} {f : α->List Value} {sz:Nat} {l:List α} (h:SlG w A n c sz f l):∀ b o,0 < n->A=some ⟨b,o,none⟩->b < w.heap.size:=λb o hn e=>by
 obtain⟨b',o',e',hb,-⟩:=h.1.at_ hn;rw[e]at e'
 cases e';exact hb
theorem qli.fr{cf:Cf} {sc:Sc} {q:Rs} {S:Sy} {z:Int} {g:Nat} (h:qli cf sc q S z W) (f:Fr (λk=>k=g) W W') (hg:W.heap.size<=g):qli cf sc q S z W' :=
 ⟨λh0=>let ⟨a,b,B,r⟩:=h.1 h0;⟨a,b,B,r.ev.fr f (λb o hn e=>by have:=r.ev.lo b o hn e;omega),r.ms.fr f (λb o hn e=>by have:=r.ms.lo b o hn e;omega),r.mg,λm hm=>(r.md m hm).fr f (λb o hn e=>by obtain⟨b',o',e',hb,-⟩:=(r.md m hm).at_ hn;rw[e]at e';cases e';omega),r.bd.fr f (λb o hn e=>by have:=r.bd.lo b o hn e;omega),r.sh.fr f (λb o hn e=>by obtain⟨b',o',e',hb,-⟩:=r.sh.at_ (show 0 < _ by omega);rw[e]at e';cases e';omega),r.ow,r.od,r.le⟩,h.2⟩
theorem qli.fr2{cf:Cf} {sc:Sc} {q:Rs} {S:Sy} {z:Int} {g:Nat} (h:(z=0->q2d cf sc=true/\S=qhr cf sc/\RsR B W q S)/\(q2d cf sc=true->z=0)) (f:Fr (λk=>k=g) W W') (hg:g < B):qli cf sc q S z W' :=
 ⟨λh0=>let ⟨a,b,r⟩:=h.1 h0;⟨a,b,B,r.fr f (λk hk=>by rw[hk];exact hg)⟩,h.2⟩
def z22(w:World) (cf:Cf) (sc:Sc) (e:Ending) (w':World):Prop:=∃ (q:Rs) (S:Sy) (z:Int),e = .returned (.tuple #[.agg (q.cells S),ii z])/\((z=0->q2d cf sc=true/\S=qhr cf sc/\RsR w.heap.size w' q S)/\(q2d cf sc=true->z=0))/\bW w w'
theorem qzq{cf:Cf} {sc:Sc} (hx:q1k.ok w cf) (hs:q73.ok w sc) (hcap:∀ p,p < cf.parts.l.length->(atD Pt0 cf.parts.l p).cap<=400) :
  cP 13 #[.agg (Cf.lw cf),.agg #[sc.progs.hq,sc.frames.hq]] w (z22 w cf sc):=by
 refine(qhs hx hs hcap).mono ?_;rintro e w' ⟨h1,h2,h3⟩;cases hb:q2d cf sc with
 | true =>
  obtain⟨q,he,hr⟩:=h1 hb;exact⟨q,qhr cf sc,0,he,⟨λ_=>⟨hb,rfl,hr⟩,λ_=>rfl⟩,h3⟩
 | false =>
  obtain⟨z,hz,he⟩:=h2 hb;exact⟨⟨none,0,none,0,[],none,0,none,0,0,0,0,0,none,0,none,0,none,0,0⟩,q3i cf sc,z,he,⟨λh=>absurd h hz,λh=>by rw[hb]at h;cases h⟩,h3⟩
theorem Sl.head{sz:Nat} {xs:List Value} (h:Sl w A n c sz xs) {k:Nat} (hk:k<=n):Sl w A k c sz (xs.take (k * sz)):=by
 obtain⟨hl,hnc,h2,h0,h1⟩:=h;refine⟨?_,zo,h2,λhn=>by have:=h0 hn;omega,λhp=>?_⟩
 .rw[List.length_take,hl];exact Nat.min_eq_left (Nat.mul_le_mul_right _ hk)
 .obtain⟨b,o,rfl,hb,hc⟩:=h1 zo;refine⟨b,o,rfl,hb,λj u hu=>?_⟩;rw[List.getElem?_take]at hu
  split at hu
  .exact hc _ u hu
  .cases hu
theorem SlG.head{α : Type} {f : α->List Value} {sz:Nat} {l:List α} (h:SlG w A n c sz f l) {k:Nat} (hk:k<=n):SlG w A k c sz f (l.take k):=by
 refine⟨?_,by rw[List.length_take];have:=h.2.1;omega,λx hx=>h.2.2 x (List.mem_of_mem_take hx)⟩;have:=h.1.head hk;have e:=qi3 l h.2.2 0 k;rw[Nat.zero_mul,List.drop_zero,List.drop_zero]at e
 rw[<- e];exact this
theorem qwx{h:Hd Fm} (H:q91.ok w h) {k:Nat} (hk:k<=h.l.length):q91.ok w ⟨h.A,h.c,h.l.take k⟩:=by
 refine⟨?_,λx hx=>H.2 x (List.mem_of_mem_take hx)⟩;have:=H.1.head hk;show SlG w _ (h.l.take k).length _ _ _ _;rw[List.length_take,Nat.min_eq_left hk];exact this
theorem qdv{cf:Cf} {sc:Sc} {N:Nat} (hx:q1k.ok w cf) (hs:q73.ok w sc) (hN:N < 256) :
  cP 5 #[.agg (Cf.lw cf),.agg #[sc.progs.hq,sc.frames.hq],.int .u8 (N:Int)] w λe w'=>e = .returned (.bool true)/\bW w w':=by
 have b0:bW w ((w.alloc (.cells (Cf.lw cf) 33)).alloc (.cells #[sc.progs.hq,sc.frames.hq] 37)):=zv;have kp:=(Blk.new w 33 (Cf.lw cf)).alloc (.cells #[sc.progs.hq,sc.frames.hq] 37);have ks:=Blk.new (w.alloc (.cells (Cf.lw cf) 33)) 37 #[sc.progs.hq,sc.frames.hq];rw[World.size_alloc]at ks
 have HX:=zhd (q1k.keep hx b0);have HS:=zhd (q73.keep hs b0);have hL:=hs.2.1.len;have H6:sc.frames.l.length<=sc.frames.c:=hs.2.1.1.2.1;obtain⟨k,hk⟩:∃ k,k=N % (sc.frames.l.length + 1):=⟨_,rfl⟩
 have Hp:wrap64 ((sc.frames.l.length:Int) + 1)=(sc.frames.l.length:Int) + 1\/True := .inr trivial;have HK:Hid (k<=sc.frames.l.length):=by have:=Nat.mod_lt N (show sc.frames.l.length + 1 > 0 by omega);rw[hk];show _<=_;omega
 have H4:Hid (k=N % (sc.frames.l.length + 1)):=hk;clear hx hs Hp hk;obtain⟨wo,rfl⟩:∃ wo:World,wo=w:=⟨_,rfl⟩
 refine inC ?_;go_in;go_upto_region 1 with fail;generalize (wo.alloc (.cells (Cf.lw cf) 33)).alloc (.cells #[sc.progs.hq,sc.frames.hq] 37)=w1 at *;obtain⟨g,hg⟩:∃ g,g=wo.heap.size:=⟨_,rfl⟩
 rw[<- hg]at kp ks ⊢
 have ha:=zhd kp;have hb:=zhd ks;have hh:=zhd b0;have kc:=kp.cell;have tc:=ks.cell;have lg:=kp.lt;have lt:=ks.lt;have hF:=qpt HX.out HS.out;have HG:=zhd hg;have HL:=zhd hL;have HN:=zhd hN;have H5:=zhd H6;clear kp ks b0 hg hL hN H6;go_upto_region 3 with (first | ((go_at_call 6;refine(hF).mono ?_;rintro _ w2 ⟨b,rfl,Hb,h6⟩);replace kc:=(ha.out.keep h6).cell;replace tc:=(hb.out.keep h6).cell;replace lg:=(ha.out.keep h6).lt;replace lt:=(hb.out.keep h6).lt;have h3:=zhd h6;cases b) | (go_at_call 8;refine(q43 _).mono ?_;rintro _ w3 ⟨rfl,Hk⟩))
 .go_returns;exact⟨rfl,bt (bt hh.out h3.out) Hk⟩
 have h9:=zhd (Hb trivial);have he:=zhd (q1k.keep HX.out h3.out);have hd:=zhd (q73.keep HS.out h3.out);have Hh:=zhd (bt hh.out h3.out);have hr:=zhd (ha.out.keep h3.out);have hu:=zhd (hb.out.keep h3.out);clear hF Hb h6 HX HS ha hb hh HG h3;have Hm:sc.frames.l.length<=70:=h9.out.2.2.1;have m1:wrap64 ((sc.frames.l.length:Int) + 1)=(sc.frames.l.length:Int) + 1:=by unfold wrap64;omega
 have m0:wrap64 (N:Int)=(N:Int):=by have:=HN.out;unfold wrap64;omega
 have m2:(N:Int).tmod ((sc.frames.l.length:Int) + 1)=(k:Int):=by rw[H4.out];rfl
 have m3:wrap64 (k:Int)=(k:Int):=by have:=HK.out;unfold wrap64;omega
 clear Hm;have hf:∀ w',q1k.ok w' cf->q73.ok w' sc->cP 13 #[.agg (Cf.lw cf),.agg #[sc.progs.hq,.slice sc.frames.A k sc.frames.c]] w' (z22 w' cf ⟨sc.progs,⟨sc.frames.A,sc.frames.c,sc.frames.l.take k⟩⟩):=λw' h1 h2=>by
  have h:=qzq (sc:=⟨sc.progs,⟨sc.frames.A,sc.frames.c,sc.frames.l.take k⟩⟩) h1 ⟨h2.1,qwx h2.2 HK.out⟩ (λp hp=>by have:=h9.out.2.1 p hp;omega);dsimp only [Hd.hq]at h;rw[List.length_take,Nat.min_eq_left HK.out]at h
  exact h
 have Hn:(k:Int)<=(sc.frames.c:Int):=by have:=HK.out;have:=H5.out;omega
 obtain⟨hz,h5⟩:∃ hz:Sc,hz=⟨sc.progs,⟨sc.frames.A,sc.frames.c,sc.frames.l.take k⟩⟩:=⟨_,rfl⟩
 rw[<- h5]at hf
 have h8:=zhd h5;clear h5;go_upto_region 4 with fail;go_cut [8,9] (λv z W=>∃ gr q S e,v = .pointer (some ⟨gr,0,none⟩)/\z = .int .i64 e/\Blk W gr 62 (q.cells S)/\Hid (qli cf hz q S e W)/\bW w2 W)
 case first =>
  refine qdq (λ_=>False) [0,1,2,3,4,5,6,7] 8 12 [9,10,11,13,14] [(8,0),(0,0),(3,0)] zk zk ?_ ?_
  .simp only[q71,q25,List.take,List.drop,List.cons_append,List.nil_append]
   repeat(go_big_quiet_step (fail))
   refine wpQuiet_nil (q04 rfl (λK' hK'=>?_));go_wp2_with fail;refine(hf w2.drew (q1k.keep he.out (Below.drew (Below.refl _ w2))) (q73.keep hd.out (Below.drew (Below.refl _ w2)))).mono ?_;rintro _ v1 ⟨q,S,e,rfl,HQ,bQ⟩;have HQ:=zhd HQ;unfold Rs.cells;have vB:bW w2 v1:=Below.trans (Below.drew (Below.refl _ w2)) bQ;refine hK' _ _ rfl (q01 (fO vB _)) ?_;clear hK' K'
   try simp only[q25,List.take,List.drop]
   repeat(go_big_quiet_step (fail))
   refine wpQuiet_nil (q04 rfl (λK' hK'=>?_));go_wp2_with fail;have aB:=(zA v1 (.cells #[.slice none 0 0,.slice none 0 0,.slice none 0 0,.slice none 0 0,ii 0,ii 0,ii 0,ii 0,.slice none 0 0,.slice none 0 0,.slice none 0 0,ii 0] 62))
   have aK:=(Blk.new v1 62 #[.slice none 0 0,.slice none 0 0,.slice none 0 0,.slice none 0 0,ii 0,ii 0,ii 0,ii 0,.slice none 0 0,.slice none 0 0,.slice none 0 0,ii 0])
   refine hK' _ _ rfl (q01 (fO (vB.trans (aB.mono vB.size)) _)) ?_;clear hK' K';generalize (v1.alloc (.cells #[.slice none 0 0,.slice none 0 0,.slice none 0 0,.slice none 0 0,ii 0,ii 0,ii 0,ii 0,.slice none 0 0,.slice none 0 0,.slice none 0 0,ii 0] 62))=v2 at aB aK ⊢;have zB:=vB.trans (aB.mono vB.size);have zK:=aK;have zg:=vB.size
   try simp only[List.take,List.drop]
   repeat(go_big_quiet_step (fail))
   refine wpQuiet_nil (q04 rfl (λK' hK'=>?_));have zz:=zK.cell;have zf:=zK.frozen;have zl:=zK.lt;go_wp2_with fail;have nK:Blk (setRow v2 v1.heap.size 0 [.slice q.eA S.evs.length q.ec,.slice q.mA S.msgs.length q.mc,.slice q.bA S.bounds.length q.bc,.slice q.gA q.gn q.gc,ii q.i1,ii q.i2,ii q.i3,ii S.g.pl.m.total,.slice q.hA S.sheds.length q.hc,.slice q.dA S.modes.length q.dc,.slice q.rA q.rn q.rc,ii S.late]) v1.heap.size 62 (q.cells S):=Blk.row zK rfl;have nB:=Below.row (g:=v1.heap.size) [.slice q.eA S.evs.length q.ec,.slice q.mA S.msgs.length q.mc,.slice q.bA S.bounds.length q.bc,.slice q.gA q.gn q.gc,ii q.i1,ii q.i2,ii q.i3,ii S.g.pl.m.total,.slice q.hA S.sheds.length q.hc,.slice q.dA S.modes.length q.dc,.slice q.rA q.rn q.rc,ii S.late] 0 zB zg;have nF:=Fr.row (S:=λk=>k=v1.heap.size) (g:=v1.heap.size) [.slice q.eA S.evs.length q.ec,.slice q.mA S.msgs.length q.mc,.slice q.bA S.bounds.length q.bc,.slice q.gA q.gn q.gc,ii q.i1,ii q.i2,ii q.i3,ii S.g.pl.m.total,.slice q.hA S.sheds.length q.hc,.slice q.dA S.modes.length q.dc,.slice q.rA q.rn q.rc,ii S.late] 0 (Fr.refl (λk=>k=v1.heap.size) v2) (λ_=>rfl);refine hK' _ _ rfl (q01 (fO nB _)) ?_;clear hK' K' zf zz
   try simp only[q25,List.take,List.drop]
   repeat(go_big_quiet_step (fail))
   refine wpQuiet_nil ?_;go_wp2_with fail;go_meet
   case rel=>exact⟨v1.heap.size,q,S,e,rfl,rfl,nK,(qli.fr (W:=v1) ⟨λh0=>let ⟨a,b,r⟩:=HQ.out.1 h0;⟨a,b,_,r⟩,HQ.out.2⟩ ((fO aB _).trans nF) nL),nB⟩
  .simp only[q71,q25,List.take,List.drop,List.cons_append,List.nil_append]
   repeat(go_big_quiet_step (fail))
   refine wpQuiet_nil (q04 rfl (λK' hK'=>?_));go_wp2_with fail;have aB:=(zA w2 (.cells #[.slice none 0 0,.slice none 0 0,.slice none 0 0,.slice none 0 0,ii 0,ii 0,ii 0,ii 0,.slice none 0 0,.slice none 0 0,.slice none 0 0,ii 0] 62)).drew;have aK:=(Blk.new w2 62 #[.slice none 0 0,.slice none 0 0,.slice none 0 0,.slice none 0 0,ii 0,ii 0,ii 0,ii 0,.slice none 0 0,.slice none 0 0,.slice none 0 0,ii 0]).drew;refine hK' _ _ rfl (q01 (fO aB _)) ?_;clear hK' K';generalize (w2.alloc (.cells #[.slice none 0 0,.slice none 0 0,.slice none 0 0,.slice none 0 0,ii 0,ii 0,ii 0,ii 0,.slice none 0 0,.slice none 0 0,.slice none 0 0,ii 0] 62)).drew=v1 at aB aK ⊢
   try simp only[q25,List.take,List.drop]
   repeat(go_big_quiet_step (fail))
   refine wpQuiet_nil (q04 rfl (λK' hK'=>?_));go_wp2_with fail;refine(hf v1 (q1k.keep he.out aB) (q73.keep hd.out aB)).mono ?_;rintro _ v2 ⟨q,S,e,rfl,HQ,bQ⟩;have HQ:=zhd HQ;unfold Rs.cells;have zB:=Below.trans aB (bQ.mono aB.size);have zK:=aK.keep bQ;have zg:=Nat.le_refl w2.heap.size;refine hK' _ _ rfl (q01 (fO zB _)) ?_;clear hK' K'
   try simp only[List.take,List.drop]
   repeat(go_big_quiet_step (fail))
   refine wpQuiet_nil (q04 rfl (λK' hK'=>?_));have zz:=zK.cell;have zf:=zK.frozen;have zl:=zK.lt;go_wp2_with fail;have nK:Blk (setRow v2 w2.heap.size 0 [.slice q.eA S.evs.length q.ec,.slice q.mA S.msgs.length q.mc,.slice q.bA S.bounds.length q.bc,.slice q.gA q.gn q.gc,ii q.i1,ii q.i2,ii q.i3,ii S.g.pl.m.total,.slice q.hA S.sheds.length q.hc,.slice q.dA S.modes.length q.dc,.slice q.rA q.rn q.rc,ii S.late]) w2.heap.size 62 (q.cells S):=Blk.row zK rfl;have nB:=Below.row (g:=w2.heap.size) [.slice q.eA S.evs.length q.ec,.slice q.mA S.msgs.length q.mc,.slice q.bA S.bounds.length q.bc,.slice q.gA q.gn q.gc,ii q.i1,ii q.i2,ii q.i3,ii S.g.pl.m.total,.slice q.hA S.sheds.length q.hc,.slice q.dA S.modes.length q.dc,.slice q.rA q.rn q.rc,ii S.late] 0 zB zg;have nF:=Fr.row (S:=λk=>k=w2.heap.size) (g:=w2.heap.size) [.slice q.eA S.evs.length q.ec,.slice q.mA S.msgs.length q.mc,.slice q.bA S.bounds.length q.bc,.slice q.gA q.gn q.gc,ii q.i1,ii q.i2,ii q.i3,ii S.g.pl.m.total,.slice q.hA S.sheds.length q.hc,.slice q.dA S.modes.length q.dc,.slice q.rA q.rn q.rc,ii S.late] 0 (Fr.refl (λk=>k=w2.heap.size) v2) (λ_=>rfl);refine hK' _ _ rfl (q01 (fO nB _)) ?_;clear hK' K' zf zz
   try simp only[q25,List.take,List.drop]
   repeat(go_big_quiet_step (fail))
   refine wpQuiet_nil ?_;go_wp2_with fail;go_meet
   case rel=>exact⟨w2.heap.size,q,S,e,rfl,rfl,nK,qli.fr2 HQ.out nF aK.lt,nB⟩
 case rest =>
 obtain⟨gr,q1,S1,e1,rfl,rfl,KA,h7,B3⟩:=hcut;have KA:=zhd KA;obtain⟨w3,Hf⟩:∃ w3,w3=wc:=⟨_,rfl⟩
 rw[<- Hf]at KA h7 B3 ⊢
 clear Hf kc tc lg lt m0 m1 m2 m3 Hn hf;have kc:=(hr.out.keep B3).cell;have tc:=(hu.out.keep B3).cell;have lg:=(hr.out.keep B3).lt;have lt:=(hu.out.keep B3).lt;have H7:cP 13 #[.agg (Cf.lw cf),.agg #[sc.progs.hq,sc.frames.hq]] w3 λe w'=>∃ q2 S2 e2,e = .returned (.tuple #[.agg #[.slice q2.eA S2.evs.length q2.ec,.slice q2.mA S2.msgs.length q2.mc,.slice q2.bA S2.bounds.length q2.bc,.slice q2.gA q2.gn q2.gc,ii q2.i1,ii q2.i2,ii q2.i3,ii S2.g.pl.m.total,.slice q2.hA S2.sheds.length q2.hc,.slice q2.dA S2.modes.length q2.dc,.slice q2.rA q2.rn q2.rc,ii S2.late],ii e2])/\((e2=0->q2d cf sc=true/\S2=qhr cf sc/\RsR w3.heap.size w' q2 S2)/\(q2d cf sc=true->e2=0))/\bW w3 w' :=
  qzq (q1k.keep he.out B3) (q73.keep hd.out B3) (λp hp=>by have:=h9.out.2.1 p hp;omega)
 have Hg:=zhd (bt Hh.out B3);clear B3;go_upto_region 6 with ((go_at_call 13;refine(H7).mono ?_;rintro _ w4 ⟨q2,S2,e2,rfl,h4,Ha⟩);replace h4:=zhd h4;have H0:=zhd Ha;clear Ha)
 have kb:=Blk.new w4 62 #[.slice q2.eA S2.evs.length q2.ec,.slice q2.mA S2.msgs.length q2.mc,.slice q2.bA S2.bounds.length q2.bc,.slice q2.gA q2.gn q2.gc,ii q2.i1,ii q2.i2,ii q2.i3,ii S2.g.pl.m.total,.slice q2.hA S2.sheds.length q2.hc,.slice q2.dA S2.modes.length q2.dc,.slice q2.rA q2.rn q2.rc,ii S2.late];have hy:=zA w4 (.cells #[.slice q2.eA S2.evs.length q2.ec,.slice q2.mA S2.msgs.length q2.mc,.slice q2.bA S2.bounds.length q2.bc,.slice q2.gA q2.gn q2.gc,ii q2.i1,ii q2.i2,ii q2.i3,ii S2.g.pl.m.total,.slice q2.hA S2.sheds.length q2.hc,.slice q2.dA S2.modes.length q2.dc,.slice q2.rA q2.rn q2.rc,ii S2.late] 62);have hj:=zhd (bt H0.out hy);have h4:Hid (qli cf sc q2 S2 e2 (w4.alloc (.cells #[.slice q2.eA S2.evs.length q2.ec,.slice q2.mA S2.msgs.length q2.mc,.slice q2.bA S2.bounds.length q2.bc,.slice q2.gA q2.gn q2.gc,ii q2.i1,ii q2.i2,ii q2.i3,ii S2.g.pl.m.total,.slice q2.hA S2.sheds.length q2.hc,.slice q2.dA S2.modes.length q2.dc,.slice q2.rA q2.rn q2.rc,ii S2.late] 62))):=⟨λh0=>let ⟨a,b,r⟩:=h4.out.1 h0;⟨a,b,_,r.keep hy⟩,h4.out.2⟩
 obtain⟨gb,Hc⟩:∃ gb,gb=w4.heap.size:=⟨_,rfl⟩
 rw[<- Hc]at kb ⊢
 clear Hc hy kc tc lg lt H7;generalize w4.alloc (.cells #[.slice q2.eA S2.evs.length q2.ec,.slice q2.mA S2.msgs.length q2.mc,.slice q2.bA S2.bounds.length q2.bc,.slice q2.gA q2.gn q2.gc,ii q2.i1,ii q2.i2,ii q2.i3,ii S2.g.pl.m.total,.slice q2.hA S2.sheds.length q2.hc,.slice q2.dA S2.modes.length q2.dc,.slice q2.rA q2.rn q2.rc,ii S2.late] 62)=w5 at *;have ht:=zhd kb;have hn:=zhd (bt Hg.out hj.out);have H3:=zhd (KA.out.keep hj.out);have h7:=zhd (h7.out.keep hj.out);clear kb H0 KA;by_cases z1:e1=0;rotate_left
 .have y1:(e1 != 0)=true:=by simpa using z1
  have HZ:=zhd z1;clear z1;go_wp2_with (go_at_call 8;refine(q43 _).mono ?_;rintro _ w6 ⟨rfl,hv⟩);go_returns;exact⟨rfl,bt hn.out hv⟩
 subst z1;by_cases z2:e2=0;rotate_left
 .have y1:(e2 != 0)=true:=by simpa using z2
  have HZ:=zhd z2;clear z2;go_wp2_with (go_at_call 8;refine(q43 _).mono ?_;rintro _ w6 ⟨rfl,hv⟩);go_returns;exact⟨rfl,bt hn.out hv⟩
 subst z2;obtain⟨-,H8,BA,R1⟩:=h7.out.1 rfl;obtain⟨He,H9,BB,R2⟩:=h4.out.1 rfl;have PF:PfI S1 S2 k:=by
  rw[H8,H9,h8.out];exact qzp He HK.out _ _
 have a1:=PF.ev.length_le;have a2:=PF.ms.length_le;have a3:=PF.bd.length_le;have a5:k<=S2.sheds.length:=by have:=PF.sh.length_le;have:=PF.n;omega
 have a6:=PF.mt;have E1:=zhd R1.ev;have E2:Hid (SlG w5 q2.eA S1.evs.length q2.ec 6 Ev.f S1.evs):=by
  have:=R2.ev.head PF.ev.length_le;rw[<- List.prefix_iff_eq_take.1 PF.ev]at this
  exact this
 have M1:=zhd (And.intro R1.ms (And.intro R1.mg R1.md));have M2:Hid (SlG w5 q2.mA S1.msgs.length q2.mc 3 Mh.f (q2.mh.take S1.msgs.length)/\(q2.mh.take S1.msgs.length).map Mh.g=S1.msgs/\∀ m ∈ q2.mh.take S1.msgs.length,SlB w5 m.d.A m.d.l.length m.d.c m.d.l) :=
  ⟨R2.ms.head PF.ms.length_le,by rw[List.map_take,R2.mg];exact(List.prefix_iff_eq_take.1 PF.ms).symm,λm hm=>R2.md m (List.mem_of_mem_take hm)⟩
 have D1:=zhd R1.bd;have D2:Hid (SlG w5 q2.bA S1.bounds.length q2.bc 3 Bd.f S1.bounds):=by
  have:=R2.bd.head PF.bd.length_le;rw[<- List.prefix_iff_eq_take.1 PF.bd]at this
  exact this
 have H1:Hid (Sl w5 q1.hA k q1.hc 1 (S1.sheds.map (.int .i64))):=by have:=R1.sh;rw[PF.n]at this;exact this
 have H2:Hid (Sl w5 q2.hA k q2.hc 1 (S1.sheds.map (.int .i64))):=by
  have:=R2.sh.head (k:=k) (by rw[<- PF.n];exact PF.sh.length_le);rw[Nat.mul_one,<- List.map_take,<- PF.n,<- List.prefix_iff_eq_take.1 PF.sh]at this
  rw[<- PF.n];exact this
 have Hj:=zhd PF.n;have c1:(S1.evs.length:Int)<=(q2.ec:Int):=by have:=E2.out.1.2.1;omega
 have c2:(S1.msgs.length:Int)<=(q2.mc:Int):=by have:=M2.out.1.1.2.1;omega
 have c3:(S1.bounds.length:Int)<=(q2.bc:Int):=by have:=D2.out.1.2.1;omega
 have c4:(k:Int)<=(q2.hc:Int):=by have:=H2.out.2.1;omega
 have KA:Blk w5 gr 62 #[.slice q1.eA S1.evs.length q1.ec,.slice q1.mA S1.msgs.length q1.mc,.slice q1.bA S1.bounds.length q1.bc,.slice q1.gA q1.gn q1.gc,ii q1.i1,ii q1.i2,ii q1.i3,ii S1.g.pl.m.total,.slice q1.hA k q1.hc,.slice q1.dA S1.modes.length q1.dc,.slice q1.rA q1.rn q1.rc,ii S1.late]:=by have:=H3.out;unfold Rs.cells at this;rw[PF.n]at this;exact this
 have ka:=KA.cell;have kb:=ht.out.cell;have la:=KA.lt;have lb:=ht.out.lt;clear PF H8 H9 He R1 R2 KA H3 ht h7 h4 h8 he hd h9 hr hu H5 HL H4;go_upto_region 10 with fail;refine q77 (λ_=>False) [(8,0),(9,0),(10,0),(8,0),(2,0)] zk zk ?_
 try simp only[q25,List.take,List.drop]
 repeat(go_big_quiet_step (fail))
 refine wpQuiet_nil (q04 rfl (λK' hK'=>?_));go_wp2_with fail;go_at_call 16
 refine(qld (E1.out.keep (Below.drew (Below.refl _ w5))) (E2.out.keep (Below.drew (Below.refl _ w5)))).mono ?_;rintro _ x1 ⟨rfl,b1⟩;have B1:=bt (Below.drew (Below.refl _ w5)) b1;refine hK' _ _ rfl (q01 (fO B1 _)) ?_;clear hK' K' b1
 try simp only[List.take,List.drop]
 repeat(go_big_quiet_step (fail))
 refine wpQuiet_nil (q04 rfl (λK' hK'=>?_));go_wp2_with fail;go_at_call 17
 refine(qlf (M1.out.2.1.trans M2.out.2.1.symm) (M1.out.1.keep B1) (M2.out.1.keep B1) (λm hm=>(M1.out.2.2 m hm).keep B1) (λm hm=>(M2.out.2.2 m hm).keep B1)).mono ?_;rintro _ x2 ⟨rfl,b2⟩;have B2:=bt B1 b2;refine hK' _ _ rfl (q01 (fO B2 _)) ?_;clear hK' K' b2
 try simp only[List.take,List.drop]
 repeat(go_big_quiet_step (fail))
 refine wpQuiet_nil (q04 rfl (λK' hK'=>?_));go_wp2_with fail;go_at_call 18
 refine(qle (D1.out.keep B2) (D2.out.keep B2)).mono ?_;rintro _ x3 ⟨rfl,b3⟩;have B3:=bt B2 b3;refine hK' _ _ rfl (q01 (fO B3 _)) ?_;clear hK' K' b3
 try simp only[List.take,List.drop]
 repeat(go_big_quiet_step (fail))
 refine wpQuiet_nil (q04 rfl (λK' hK'=>?_));go_wp2_with fail;go_at_call 19
 refine(qht Hj.out (H1.out.keep B3) (H2.out.keep B3)).mono ?_;rintro _ x4 ⟨rfl,b4⟩;have B4:=bt B3 b4;refine hK' _ _ rfl (q01 (fO B4 _)) ?_;clear hK' K' b4
 try simp only[List.take,List.drop]
 repeat(go_big_quiet_step (fail))
 refine wpQuiet_nil (q04 rfl (λK' hK'=>?_));go_wp2_with fail;go_at_call 8
 refine(q43 _).mono ?_;rintro _ x5 ⟨rfl,b5⟩;have B5:=bt B4 b5;refine hK' _ _ rfl (q01 (fO B5 _)) ?_;clear hK' K' b5
 try simp only[q25]
 repeat(go_big_quiet_step (fail))
 refine wpQuiet_nil ?_;go_wp2_with fail;go_returns;exact⟨rfl,bt hn.out B5⟩
end Go.Proofs.YtncfcbohiodnnaaGreat
