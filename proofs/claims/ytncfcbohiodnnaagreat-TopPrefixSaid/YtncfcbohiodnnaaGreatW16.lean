/- Parts of this seat's claims. -/
import Derived.Test.YtncfcbohiodnnaaGreatW15
set_option maxRecDepth 100000
set_option maxHeartbeats 6400000
namespace Go.Proofs.YtncfcbohiodnnaaGreat
open Go.RowKit
variable{w w' W wa wo W':World} {c n pt r B j b m mb q base cap id B0:Nat} {A:Option Addr} {a code what:Int} {cs:Array Value}
def isR(ladder level:Int):Bool:=decide (0 < ladder) && decide (ladder<=level)
def q8s(d:Int):Int:=if d <= -1000000\/1000000<=d then 0 else d
def qna(cf:Cf) (s:Sy) (f:Fm):Sy:={ s with g:={ s.g with first:=f.choice,n:=0,drift:=q8s f.drift },cy:=List.replicate cf.parts.l.length 0 }
def q4e(cf:Cf) (p:Ca.Pg) (s:Sy) (x:Wn):Sy:=qbf cf s x p.at_ (isR (atD Pt0 cf.parts.l x.part.toNat).lad p.level)
def z1v(cf:Cf) (s:Sy) (p:Ca.Pg):Sy:={ s with g:=q2p cf.pw s.g p.end_,sheds:=s.sheds ++ [p.level],modes:=s.modes ++ [p.mode],creds:=s.creds ++ [s.cy.map (q9y cf)] }
def q1x(cf:Cf) (s:Sy) (p:Ca.Pg) (f:Fm):Sy:=z1v cf ((atD Md0 cf.modes.l p.mode.toNat).wins.l.foldl (q4e cf p) (qna cf s f)) p
def qdz(cf:Cf) (s:Sy) (l:List (Ca.Pg×Fm)):Sy:=l.foldl (λs x=>q1x cf s x.1 x.2) s
def MtM(m m':Mt):Prop:=0<=m.total/\m.total<=4611686018427387904->m.total<=m'.total/\m'.total<=4611686018427387904
theorem MtM.refl(m:Mt):MtM m m:=λh=>⟨Int.le_refl _,h.2⟩
theorem MtM.trans{a b c:Mt} (h:MtM a b) (k:MtM b c):MtM a c:=λq=>by
 obtain⟨h1,h2⟩:=h q;obtain⟨k1,k2⟩:=k ⟨zo,h2⟩;exact⟨zo,k2⟩
theorem qk2(m:Mt) (kind k n:Int):(qyg m kind k n).total=m.total:=by
 unfold qyg;split
 .rfl
 split
 .rfl
 split
 .rfl
 split <;> rfl
theorem qk3(a b:Int):0<=(q0b a b 1 false).1:=by
 unfold q0b;split
 .simp
 .simp only[Bool.false_eq_true,if_false,Int.add_zero,Int.ediv_one];have:0<=a * b:=Int.mul_nonneg zo zo;split <;> simp[this]
theorem qnb(m:Mt) (kind k p ns:Int):MtM m (q6k m kind k p ns).2:=by
 intro q;unfold q6k;split
 .exact⟨Int.le_refl _,q.2⟩
 .split
  .exact⟨Int.le_refl _,q.2⟩
  .rename_i h;have hn:=qk3 p ns;generalize (q0b p ns 1 false).1=n at *;simp only[qk2];have:¬ wrap64 (4611686018427387904 - m.total) < n:=λe=>h (.inr (.inl e));unfold wrap64 at this ⊢;omega
theorem qyj:∀ (l:List Sp) (x:Pn),MtM x.m (goS x l).2.m
 | [],x=>MtM.refl _
 | s :: l,x=>by
  unfold goS;split
  .exact MtM.trans (b:=(q6k x.m s.kind s.part s.power s.ns).2) (qnb _ _ _ _ _) (qyj l { x with m:=(q6k x.m s.kind s.part s.power s.ns).2,now:=wrap64 (x.now + s.ns) })
  .exact qnb _ _ _ _ _
theorem q9d(x:Pn) (l:List Sp):MtM x.m (q0r x l).2.m:=by
 unfold q0r;split
 .exact qyj l x
 .exact MtM.refl _
theorem qvi(c:Pw) (x:Pn) (u:Int):MtM x.m (q7k c x u).2.m:=by
 unfold q7k;split
 .exact MtM.refl _
 .split
  .exact MtM.refl _
  .dsimp only;split <;> exact q9d _ _
theorem qvj(c:Pw) (x:Pn) (k:Int):MtM x.m (turnS c x k).2.m:=by
 unfold turnS;split
 .exact MtM.refl _
 .split
  .exact MtM.refl _
  .split <;> exact q9d _ _
theorem qyk(c:Pw) (x:Pn) (k n d:Int):MtM x.m (qex c x k n d).2.m:=by
 unfold qex;split
 .exact MtM.refl _
 .split
  .exact MtM.refl _
  .dsimp only;split <;> exact q9d _ _
theorem qyl(c:Pw) (x:Pn) (k n:Int):MtM x.m (qi9 c x k n).2.m:=by
 unfold qi9;split
 .exact MtM.refl _
 .split
  .exact MtM.refl _
  .split <;> exact q9d _ _
theorem q6c(g:Gv):(q05 g).2.pl=g.pl:=by unfold q05;split <;> rfl
theorem qnc(c:Pw) (g:Gv) (u:Int):MtM g.pl.m (q2p c g u).pl.m:=by
 unfold q2p;split
 .exact MtM.refl _
 .dsimp only;have h2:MtM g.pl.m (if 0<=q37 c g.pl.now u (q05 g).1 then { (q05 g).2 with pl:=(qex c (q05 g).2.pl (q37 c g.pl.now u (q05 g).1) (q1a c (q37 c g.pl.now u (q05 g).1) (q05 g).2.pl.now u) (q05 g).2.drift).2 } else (q05 g).2).pl.m:=by
   split
   .dsimp only;rw[q6c];exact qyk _ _ _ _ _
   .rw[q6c];exact MtM.refl _
  generalize (if 0<=q37 c g.pl.now u (q05 g).1 then { (q05 g).2 with pl:=(qex c (q05 g).2.pl (q37 c g.pl.now u (q05 g).1) (q1a c (q37 c g.pl.now u (q05 g).1) (q05 g).2.pl.now u) (q05 g).2.drift).2 } else (q05 g).2)=g2 at *;split
  .exact h2.trans (qvi _ _ _)
  .exact h2
theorem qym(c:Pw) (g:Gv) (part n left en:Int):MtM g.pl.m (qtx c g part n left en).pl.m:=by
 unfold qtx;dsimp only;have h2:MtM g.pl.m (if q7m c g left en≠g.pl.level then { (q05 g).2 with pl:=(turnS c (q05 g).2.pl (q7m c g left en)).2,base:=(turnS c (q05 g).2.pl (q7m c g left en)).2.now,done:=0 } else (q05 g).2).pl.m:=by
  split
  .dsimp only;rw[q6c];exact qvj _ _ _
  .rw[q6c];exact MtM.refl _
 exact h2.trans (qyl _ _ _ _)
structure Gr(s s':Sy):Prop where
 ev:s.evs <+: s'.evs
 ms:s.msgs <+: s'.msgs
 bd:s.bounds <+: s'.bounds
 sh:s.sheds <+: s'.sheds
 mt:MtM s.g.pl.m s'.g.pl.m
theorem Gr.refl(s:Sy):Gr s s:=⟨List.prefix_rfl,List.prefix_rfl,List.prefix_rfl,List.prefix_rfl,MtM.refl _⟩
theorem Gr.trans{a b c:Sy} (h:Gr a b) (k:Gr b c):Gr a c:=⟨h.ev.trans k.ev,h.ms.trans k.ms,h.bd.trans k.bd,h.sh.trans k.sh,h.mt.trans k.mt⟩
theorem qh2{α : Type} {f:Sy->α->Sy} (h:∀ s x,Gr s (f s x)):∀ (l:List α) (s:Sy),Gr s (l.foldl f s)
 | [],s=>Gr.refl s
 | x :: l,s=>(h s x).trans (qh2 h l _)
theorem qic(s:Sy) (d p:Int):Gr s (q1w s d p):=⟨List.prefix_rfl,List.prefix_rfl,List.prefix_append _ _,List.prefix_rfl,MtM.refl _⟩
theorem qre(cf:Cf) (p:Nat) (en:Int) (s:Sy):Gr s (q5z cf p en s):=⟨List.prefix_rfl,List.prefix_rfl,List.prefix_rfl,List.prefix_rfl,qym _ _ _ _ _ _⟩
theorem qnd(cf:Cf) (p:Nat) (en:Int):∀ (n:Nat) (s:Sy),Gr s (q3e cf p en n s)
 | 0,s=>Gr.refl s
 | n + 1,s=>by
  unfold q3e;split
  .exact Gr.refl s
  .exact(qre cf p en s).trans (qnd cf p en n _)
theorem qk4(s:Sy) (p:Nat):Gr s (q2t s p):=⟨List.prefix_append _ _,List.prefix_rfl,List.prefix_rfl,List.prefix_rfl,MtM.refl _⟩
theorem qvk(cf:Cf) (s:Sy) (p:Nat) (en:Int):Gr s (q5i cf s p en) :=
 (show Gr s { s with cs:=s.cs.set p (q2g (atD Ce0 s.cs p)),g:=qf4 s.g } from⟨List.prefix_rfl,List.prefix_rfl,List.prefix_rfl,List.prefix_rfl,MtM.refl _⟩).trans ((qnd _ _ _ _ _).trans (qk4 _ _))
theorem qrf(cf:Cf) (s:Sy) (p:Nat):Gr s (q7n cf s p):=⟨List.prefix_rfl,List.prefix_append _ _,List.prefix_rfl,List.prefix_rfl,MtM.refl _⟩
theorem qne(cf:Cf) (s:Sy) (u:Int):Gr s { s with g:=q2p cf.pw s.g u }:=⟨List.prefix_rfl,List.prefix_rfl,List.prefix_rfl,List.prefix_rfl,qnc _ _ _⟩
theorem qvl(cf:Cf) (s:Sy) (x:Wn) (at_:Int) (r:Bool):Gr s (qbf cf s x at_ r):=by
 unfold qbf;dsimp only;have h1:=(qne cf s (wrap64 (at_ + x.start))).trans (qic { s with g:=q2p cf.pw s.g (wrap64 (at_ + x.start)) } (wrap64 (at_ + x.start)) x.part);generalize q1w { s with g:=q2p cf.pw s.g (wrap64 (at_ + x.start)) } (wrap64 (at_ + x.start)) x.part=s1 at *;have h2:Gr s (if r=true then s1 else q5i cf s1 x.part.toNat (wrap64 (wrap64 (at_ + x.start) + x.len))):=by
  split
  .exact h1
  .exact h1.trans (qvk _ _ _ _)
 generalize (if r=true then s1 else q5i cf s1 x.part.toNat (wrap64 (wrap64 (at_ + x.start) + x.len)))=s2 at *;have h3:=h2.trans ((qne cf s2 (wrap64 (wrap64 (at_ + x.start) + x.len))).trans (qic _ (wrap64 (wrap64 (at_ + x.start) + x.len)) (-1)));split
 .exact h3
 .exact h3.trans (qrf _ _ _)
theorem qrg(cf:Cf) (s:Sy) (p:Ca.Pg) (f:Fm):Gr s (q1x cf s p f) :=
 (show Gr s (qna cf s f) from⟨List.prefix_rfl,List.prefix_rfl,List.prefix_rfl,List.prefix_rfl,MtM.refl _⟩).trans
  ((qh2 (λs x=>qvl cf s x _ _) _ _).trans ⟨List.prefix_rfl,List.prefix_rfl,List.prefix_rfl,List.prefix_append _ _,qnc _ _ _⟩)
theorem qty(cf:Cf) (s:Sy) {l m:List (Ca.Pg×Fm)} (h:l <+: m):Gr (qdz cf s l) (qdz cf s m):=by
 obtain⟨r,rfl⟩:=h;unfold qdz;rw[List.foldl_append];exact qh2 (λs x=>qrg cf s x.1 x.2) r _
def q2b(c:Int->Int->Int) (m y:Int):Int:=if c y m < 0 then y else m
theorem qbu(c:Int->Int->Int) (x:Int) (l:List Int):qf0 c (x :: l)=l.foldl (q2b c) x:=rfl
theorem qnf(c:Int->Int->Int) (x:Int) (l:List Int) {k:Nat} (hk:k < l.length):(l.take (k + 1)).foldl (q2b c) x=q2b c ((l.take k).foldl (q2b c) x) (at0 l k):=by
 rw[List.take_succ_eq_append_getElem hk,List.foldl_append,q2v hk];rfl
theorem qda(c:Int->Int->Int):∀ (l:List Int) (x:Int),l.foldl (q2b c) x ∈ x :: l
 | [],x=>by simp
 | y :: l,x=>by
  have:=qda c l (q2b c x y);show l.foldl (q2b c) (q2b c x y) ∈ _;rcases List.mem_cons.1 this with h | h
  .rw[h];unfold q2b;split <;> simp
  .simp[h]
def qzx(cp:Array Value) (ar:Int->Int->Array Value):Prop :=
 ∀ {w:World} {A:Option Addr} {n c:Nat} {x:Int} {l:List Int},SlI w A n c (x :: l)->∀ {id:FuncId} {cmp:Int->Int->Int},(∀ (w:World) (a b:Int),Sem.run Tryz.prog (callFunc id (ar a b)) w = .ok (.enter id (ar a b)) w) ->
  (∀ (w':World) (a b:Int),a ∈ x :: l->b ∈ x :: l->bW w w'->cP id (ar a b) w' λe w''=>e = .returned (ii (cmp a b))/\bW w' w'') ->
  cP 269 #[.slice A n c,.func (.func id) #[] cp] w λe w'=>e = .returned (ii (qf0 cmp (x :: l)))/\bW w w'
theorem z1w{cp:Array Value} {ar:Int->Int->Array Value} (s:qzx cp ar:=by
   intro w A n c x l h id cmp hid hC;dsimp only at hid hC;have hn:n=l.length + 1:=h.2.1.symm;subst hn;have hlen:=h.len;obtain⟨b,o,rfl,hb,hc⟩:=h.at_ (k:=0) zo;rw[Nat.add_zero]at hc
   have hx:at0 (x :: l) 0=x:=rfl;rw[hx]at hc
   clear hx;obtain⟨wo,rfl⟩:∃ wo:World,wo=w:=⟨_,rfl⟩
   have h3:=zhd hC;clear hC;refine inC ?_;go_in;go_wp2_with fail;go_loopw [5,6] (λv i wr=>∃ k:Nat,k<=l.length/\v = .int .i64 ((l.take k).foldl (q2b cmp) x)/\i = .int .i64 ((k + 1:Nat):Int)/\bW wo wr) (λ_ i _=>l.length + 1 - (intOf i).toNat)
   case atStart=>exact⟨0,Nat.zero_le _,rfl,rfl,bR⟩
   case round =>
    clear hb hc;obtain⟨k,hk,rfl,rfl,hB⟩:=hrel;by_cases h0:k < l.length
    .obtain⟨b',o',e,hb,hc⟩:=(h.keep hB).at_ (k:=k + 1) zo;cases e;have h2:at0 (x :: l) (k + 1)=at0 l k:=rfl;rw[h2]at hc
     have hw1:wrap64 (((k + 1:Nat):Int) + 1)=((k + 1 + 1:Nat):Int):=by unfold wrap64;omega
     have hs:=qnf cmp x l h0;have m1:at0 l k ∈ x :: l:=by rw[q2v h0];exact List.mem_cons_of_mem _ (List.getElem_mem h0)
     have m2:(l.take k).foldl (q2b cmp) x ∈ x :: l:=by
      rcases List.mem_cons.1 (qda cmp (l.take k) x) with h | h
      .rw[h];simp
      .exact List.mem_cons_of_mem _ (List.mem_of_mem_take h)
     have hD:=zhd (h3.out wr _ _ m1 m2 hB);have HM:=zhd hs;clear hs m1 m2 h2;generalize (l.take k).foldl (q2b cmp) x=m at *;generalize at0 l k=y at *;have hidd:=hid wr y m;go_wp2_with (refine hD.out.mono ?_;rintro _ w2 ⟨rfl,h1⟩;have hc2:=((qcl h1).1 _ (o + (k + 1)) hb).trans hc;have hl2:=Nat.lt_of_lt_of_le hb h1.size)
     all_goals rename_i hcm
     .exact⟨⟨k + 1,h0,by rw[HM.out];unfold q2b;rw[if_pos hcm],rfl,bt hB h1⟩,by simp[intOf];omega⟩
     .exact⟨⟨k + 1,h0,by rw[HM.out];unfold q2b;rw[if_neg zo],rfl,bt hB h1⟩,by simp[intOf];omega⟩
    .obtain rfl:k=l.length:=zo;go_wp2_with fail;go_returns;exact⟨by rw[qbu,List.take_length];rfl,hB⟩):qzx cp ar:=s
theorem qh3{k1 k2:Value} : qzx #[k1,k2] (λa b=>#[ii a,ii b,k1,k2]):=z1w
theorem qf5{k1 k2 k3:Value} : qzx #[k1,k2,k3] (λa b=>#[ii a,ii b,k1,k2,k3]):=z1w
theorem qrh{p:Pw} {now en:Int} (hp:q1y.ok w p):cP 206 #[.agg (Pw.lw p),ii now,ii en] w λe w'=>e = .returned (.bool (qf2 p now en))/\bW w w':=by
 have hP:=λw' hb=>q9w (q1y.keep (W':=w') hp hb);have hE:qf2 p now en=qf2 p now en:=rfl
 conv at hE=>rhs;unfold qf2
 generalize qf2 p now en=R at *;generalize qgm p=b at *;have HE:=zhd hE;clear hE;refine inC ?_;go_in;go_wp2_with (go_at_call 108;refine(up (W:=w) (hP _ zv) zv).mono ?_;rintro _ w1 ⟨⟨e',k,rfl,hv⟩,hb,hs,hc,hf,hl,hB⟩)
 all_goals (go_returns;refine⟨q5k ?_,zv⟩;rw[HE.out];first | (simp_all;done) | (simp_all;omega))
theorem qf6{x:Np} {now en:Int} : cP 275 #[.agg (Np.lw x),ii now,ii en] w λe w'=>e = .returned (ii (q5f x now en))/\bW w w':=by
 refine inC ?_;go_in;go_wp2_with fail;go_returns;exact⟨rfl,zv⟩
theorem qid{p:Pw} {x:Np} {now en:Int} : cP 207 #[.agg (Pw.lw p),.agg (Np.lw x),ii now,ii en] w λe w'=>e = .returned (ii (q5h p x now en))/\bW w w':=by
 have hR:=λw=>qf6 (w:=w) (x:=x) (now:=now) (en:=en);have hE:q5h p x now en=q5h p x now en:=rfl
 conv at hE=>rhs;unfold q5h
 generalize q5h p x now en=R at *;generalize q5f x now en=m at *;have hS:=λw=>qqf (w:=w) (h:=p.slow) (b:=p.ppm) (ns:=m);generalize qje p.slow p.ppm m=S at *;have HE:=zhd hE;clear hE;refine inC ?_;go_in;go_wp2_with (first | (go_at_call 275;refine(up (W:=w) (hR _) zv).mono ?_;rintro _ w1 ⟨rfl,hb,hs,hc,hf,hl,hB⟩) | (go_at_call 276;refine(up (W:=w) (hS _) zv).mono ?_;rintro _ w1 ⟨rfl,hb,hs,hc,hf,hl,hB⟩))
 all_goals (go_returns;refine⟨q0w ?_,zv⟩;rw[HE.out];first | (simp[*];done) | (simp[*];intros;omega))
theorem qyn{p:Pw} (hp:q1y.ok w p) {j:Nat} (hj:j < p.naps.l.length):∃ b f,p.naps.A=some ⟨b,f,none⟩/\b < w.heap.size/\w.cell? ⟨b,f + j * 3,none⟩=some (ii (atD Np0 p.naps.l j).power)/\w.cell? ⟨b,f + j * 3 + 1,none⟩=some (ii (atD Np0 p.naps.l j).enter)/\w.cell? ⟨b,f + j * 3 + 2,none⟩=some (ii (atD Np0 p.naps.l j).wake):=by
 obtain⟨b,f,h1,h2,h3⟩:=hp.2.1.1.at_ Np0 hj;exact⟨b,f,h1,h2,h3 0 _ rfl,h3 1 _ rfl,h3 2 _ rfl⟩
theorem qae{p:Pw} {k now en:Int} (hp:q1y.ok w p):cP 135 #[.agg #[.slice p.levels.A p.levels.l.length p.levels.c,.slice p.naps.A p.naps.l.length p.naps.c,ii p.sw,ii p.idle,ii p.change,ii p.quant,ii p.slow,ii p.ppm],ii k,ii now,ii en] w λe w'=>e = .returned (ii (q1a p k now en))/\bW w w':=by
 have b0:bW w (w.alloc (.cells #[.slice p.levels.A p.levels.l.length p.levels.c,.slice p.naps.A p.naps.l.length p.naps.c,ii p.sw,ii p.idle,ii p.change,ii p.quant,ii p.slow,ii p.ppm] 28)):=zv;have kb:=Blk.new w 28 #[.slice p.levels.A p.levels.l.length p.levels.c,.slice p.naps.A p.naps.l.length p.naps.c,ii p.sw,ii p.idle,ii p.change,ii p.quant,ii p.slow,ii p.ppm];have hM:=λw' hb=>qrh (now:=now) (en:=en) (q1y.keep (W':=w') hp hb);have hE:q1a p k now en=if qf2 p now en=false\/k < 0\/(p.naps.l.length:Int)<=k then 0 else q5h p (atD Np0 p.naps.l k.toNat) now en:=rfl;generalize q1a p k now en=R at *;generalize qf2 p now en=M at *;refine inC ?_;go_in;go_upto_region 1 with fail;generalize w.alloc (.cells #[.slice p.levels.A p.levels.l.length p.levels.c,.slice p.naps.A p.naps.l.length p.naps.c,ii p.sw,ii p.idle,ii p.change,ii p.quant,ii p.slow,ii p.ppm] 28)=w1 at *;obtain⟨g,hg⟩:∃ g,g=w.heap.size:=⟨_,rfl⟩
 rw[<- hg]at kb ⊢
 clear hg;obtain⟨kc,lg⟩:=kb.cl;have h4:=hM w1 b0;by_cases q:k < 0\/(p.naps.l.length:Int)<=k
 .have HE:Hid (R=0):=hE.trans (if_pos (.inr q));clear hE hM;rcases q with q | q
  .have b1:decide (k < 0)=true:=decide_eq_true q;clear q;go_wp2_with (go_at_call 206;refine(h4).mono ?_;rintro _ w2 ⟨rfl,h3⟩)
   all_goals (go_returns;exact⟨q0w HE.out.symm,bt b0 h3⟩)
  .have b1:decide ((p.naps.l.length:Int)<=k)=true:=decide_eq_true q;clear q;go_wp2_with ((go_at_call 206;refine(h4).mono ?_;rintro _ w2 ⟨rfl,h3⟩);obtain⟨kc,lg⟩:=(kb.keep h3).cl)
   all_goals (go_returns;exact⟨q0w HE.out.symm,bt b0 h3⟩)
 .obtain⟨j,rfl,hj⟩:∃ j:Nat,k=j/\j < p.naps.l.length:=⟨k.toNat,zo,zo⟩
  cases M with
  | false =>
   have HE:Hid (R=0):=hE.trans (if_pos (.inl rfl));clear hE hM q;go_wp2_with (go_at_call 206;refine(h4).mono ?_;rintro _ w2 ⟨rfl,h3⟩)
   all_goals (go_returns;exact⟨q0w HE.out.symm,bt b0 h3⟩)
  | true =>
   have HE:Hid (R=q5h p (atD Np0 p.naps.l j) now en):=hE.trans (if_neg (by simp;omega));have hN:=λw'=>qid (w:=w') (p:=p) (x:=atD Np0 p.naps.l j) (now:=now) (en:=en);clear hE hM q;go_wp2_with ((go_at_call 206;refine(h4).mono ?_;rintro _ w2 ⟨rfl,h3⟩);obtain⟨kc,lg⟩:=(kb.keep h3).cl);have B2:=bt b0 h3;obtain⟨nb,nf,hA,hbl,h0,h1,h2⟩:=qyn (q1y.keep hp B2) hj;rw[hA]at kc
   simp only[hA,Pw.lw]at hN;have HN:=zhd hN;have HB:=zhd B2;clear hN h4 b0 h3 kb hp B2;generalize atD Np0 p.naps.l j=x at *;go_wp2_with ((refine zD 8 λK' hK'=>?_;go_wp2_with fail;go_at_call 207;refine(HN.out _).mono ?_;rintro _ w3 ⟨rfl,h5⟩;refine zE ?_;clear hK' K'));go_returns;exact⟨q0w HE.out.symm,bt HB.out (bt bR.drew h5)⟩
def qbg(p:Pw) (now en:Int) (k:Nat):List Int:=((List.range k).filter λ(j:Nat)=>decide (0 < q1a p j now en)).map λ(j:Nat)=>(j:Int)
theorem qk5(p:Pw) (now en:Int) (k:Nat):qbg p now en (k + 1)=qbg p now en k ++ (if 0 < q1a p k now en then [(k:Int)] else []):=by
 unfold qbg;rw[List.range_succ,List.filter_append,List.map_append];by_cases h:0 < q1a p k now en <;> simp[h]
theorem qf7(p:Pw) (now en:Int) (k:Nat):(qbg p now en k).length<=k:=by
 unfold qbg;rw[List.length_map];exact Nat.le_trans (List.length_filter_le _ _) zp
theorem qie{p:Pw} {now en:Int} (hp:q1y.ok w p) (hn:p.naps.l.length<=100000):cP 202 #[.agg (Pw.lw p),ii now,ii en] w λe w'=>qi2 w (q6l p now en) e w':=by
 have b0:bW w (w.alloc (.cells (Pw.lw p) 28)):=zv;have kb:=Blk.new w 28 (Pw.lw p);obtain⟨wo,rfl⟩:∃ wo:World,wo=w:=⟨_,rfl⟩
 refine inC ?_;go_in;go_upto_region 1 with fail;generalize wo.alloc (.cells (Pw.lw p) 28)=w1 at *;obtain⟨g,hg⟩:∃ g,g=wo.heap.size:=⟨_,rfl⟩
 rw[<- hg]at kb ⊢
 have HG:=zhd hg;clear hg;obtain⟨kc,lg⟩:=kb.cl;go_wp2_with fail;go_loopw [7,12] (λv i wr=>∃ (k:Nat) (A:Option Addr) (c:Nat),i = .int .i64 k/\k<=p.naps.l.length/\v = .slice A (qbg p now en k).length c/\Own wr 3 1 A (qbg p now en k).length c ((qbg p now en k).map (.int .i64))/\(∀ k,q02 A k->w1.heap.size<=k)/\bW w1 wr) (λ_ i _=>p.naps.l.length - (intOf i).toNat)
 case atStart=>exact⟨0,none,0,rfl,Nat.zero_le _,rfl,Own.nil _ _ _,(λk h=>by cases h),bR⟩
 case round =>
  clear kc lg;obtain⟨k,A,c,rfl,hkn,rfl,hO,hA,hB⟩:=hrel;by_cases hk:k < p.naps.l.length
  .have hw1:wrap64 ((k:Int) + 1)=((k + 1:Nat):Int):=by unfold wrap64;omega
   obtain⟨kc,lg⟩:=(kb.keep hB).cl;have hi:=qf7 p now en k;have hs:=qk5 p now en k;have hC:=zhd (qae (k:=(k:Int)) (now:=now) (en:=en) (q1y.keep hp (bt b0 hB)));generalize qbg p now en k=y at *;generalize q1a p k now en=z at *;have h2:y.length<=100000000000:=zo;have h3:=zhd h2;by_cases q:0 < z
   .have b1:decide (0 < z)=true:=decide_eq_true q;have HS:=zhd (hs.trans (by rw[if_pos q]));clear hs q hi h2;go_wp2_with (first
     | ((go_at_call 135;refine(hC.out).mono ?_;rintro _ w2 ⟨rfl,h0⟩);have h1:=hO.keep h0)
     | (at_builtin;refine q2k q27 w2 zr _ _ zr zr h1 #[ii k] rfl (by simp[Value.oneCell']) zr h3.out ?_;intro A' c' w5 hown4 hf4 hat4))
    exact⟨⟨k + 1,A',c',rfl,hk,by rw[HS.out];simp,by rw[HS.out];simpa using hown4,λj hj=>(hat4 j hj).elim (hA j) (λh=>Nat.le_trans (bt hB h0).size h),q68 (bt hB h0) h1 hf4 hA⟩,by simp[intOf];omega⟩
   .have b1:decide (0 < z)=false:=decide_eq_false q;have HS:=zhd (hs.trans (by rw[if_neg q,List.append_nil]));clear hs q hi h2;go_wp2_with ((go_at_call 135;refine(hC.out).mono ?_;rintro _ w2 ⟨rfl,h0⟩);have h1:=hO.keep h0);exact⟨⟨k + 1,A,c,rfl,hk,by rw[HS.out],by rw[HS.out];exact h1,hA,bt hB h0⟩,by simp[intOf];omega⟩
  .obtain rfl:k=p.naps.l.length:=zo;go_wp2_with fail;go_returns;exact⟨A,c,rfl,hO,λj hj=>Nat.le_trans b0.size (hA j hj),bt b0 hB⟩
def chN(cf:Cf):Nat:=min cf.chans.l.length 16
theorem qyo:Tryz.prog.underlying 23=some (.slice 141):=zk
theorem qng(w:World):(sizeOf 141).run Tryz.prog w = .ok 4 w:=zk
theorem SlG.take{α : Type} {f : α->List Value} {sz:Nat} {l:List α} (h:SlG w A n c sz f l) {hi:Nat} (h2:hi<=n):SlG w (slA A 0 c sz) hi c sz f (l.take hi):=by
 have:=h.cut (Nat.zero_le hi) h2;simpa using this
theorem q8t{cf:Cf} (hx:q54.ok w cf.chans):cP 264 #[.agg (Cf.lw cf)] w λe w'=>e = .returned (.slice (slA cf.chans.A 0 cf.chans.c 4) (chN cf) cf.chans.c)/\bW w w':=by
 obtain⟨m,hm⟩:∃ m,m=chN cf:=⟨_,rfl⟩
 have h0:m<=cf.chans.c:=by have:=hx.1.1.2.1;rw[hm];unfold chN;omega
 have hmi:min (cf.chans.l.length:Int) 16=(m:Int):=by rw[hm];unfold chN;omega
 have hsl:∀ w,(Instr.sliceAt 23 (cf.chans.hq) none (some (ii (m:Int))) none).run Tryz.prog w = .ok (.slice (slA cf.chans.A 0 cf.chans.c 4) m cf.chans.c) w:=λw=>q4p qyo qng w _ _ _ m h0;rw[<- hm];clear hm h0;refine inC ?_;go_in;go_wp2_with fail;go_returns;exact⟨rfl,zv⟩
def qnh(cf:Cf) (k:Int):Ch×Bool:=if k < 0\/(chN cf:Int)<=k then (Ch0,false) else (atD Ch0 cf.chans.l k.toNat,true)
theorem qk6{cf:Cf} (hx:q54.ok w cf.chans) {k:Int} {c:Ch} {r:Bool} (hr:qnh cf k=(c,r)):cP 267 #[.agg (Cf.lw cf),ii k] w λe w'=>e = .returned (.tuple #[.agg #[ii c.fr.part,ii c.fr.port,ii c.to.part,ii c.to.port],.bool r])/\bW w w':=by
 have b0:bW w ((w.alloc (.cells (Cf.lw cf) 33)).alloc (.cells #[ii 0,ii 0,ii 0,ii 0] 141)):=zv;have kp:=(Blk.new w 33 (Cf.lw cf)).alloc (.cells #[ii 0,ii 0,ii 0,ii 0] 141);have kx:=Blk.new (w.alloc (.cells (Cf.lw cf) 33)) 141 #[ii 0,ii 0,ii 0,ii 0];rw[World.size_alloc]at kx
 have hC:=q8t (q54.keep hx b0);refine inC ?_;go_in;go_upto_region 1 with fail;generalize (w.alloc (.cells (Cf.lw cf) 33)).alloc (.cells #[ii 0,ii 0,ii 0,ii 0] 141)=w1 at *;obtain⟨gp,h4⟩:∃ gp,gp=w.heap.size:=⟨_,rfl⟩
 rw[<- h4]at kp kx ⊢
 have h0:w.heap.size<=gp + 1:=zo;have HG:=zhd h0;clear h4 h0;obtain⟨cp,lp⟩:=kp.cl;have HX:=zhd (q54.keep hx b0);have HB:=zhd b0;obtain⟨m,hm⟩:∃ m,m=chN cf:=⟨_,rfl⟩
 have h5:Hid (m<=cf.chans.l.length):=by rw[hm];show min _ _<=_;omega
 have HE:Hid ((c,r)=if k < 0\/(m:Int)<=k then (Ch0,false) else (atD Ch0 cf.chans.l k.toNat,true)):=by rw[hm,<- hr];exact rfl
 rw[<- hm]at hC
 clear hm hx b0 hr;by_cases q:k < 0\/(m:Int)<=k
 .have h2:=zhd (HE.out.trans (if_pos q));have HQ:=zhd q;clear HE q;by_cases q1:k < 0
  .have b1:decide (k < 0)=true:=decide_eq_true q1;clear q1;go_wp2_with ((go_at_call 264;refine(hC).mono ?_;rintro _ w2 ⟨rfl,h1⟩);have kx:=kx.keep h1;obtain⟨cx,lx⟩:=kx.cl;have fx:=kx.frozen);have h0:=HG.out;replace h1:=bt HB.out h1;have kF:=(((kx.set_ 0 (ii 0)).set_ 1 (ii 0)).set_ 2 (ii 0)).set_ 3 (ii 0);have bF:=(((h1.setCell (p:=⟨gp + 1,0,none⟩) h0 (ii 0)).setCell (p:=⟨gp + 1,1,none⟩) h0 (ii 0)).setCell (p:=⟨gp + 1,2,none⟩) h0 (ii 0)).setCell (p:=⟨gp + 1,3,none⟩) h0 (ii 0);generalize (((w2.setCell ⟨gp + 1,0,none⟩ (ii 0)).setCell ⟨gp + 1,1,none⟩ (ii 0)).setCell ⟨gp + 1,2,none⟩ (ii 0)).setCell ⟨gp + 1,3,none⟩ (ii 0)=w9 at kF bF ⊢;have y0:=kF.cell 0;have y1:=kF.cell 1;have y2:=kF.cell 2;have y3:=kF.cell 3;refine bodyPost_ret (v := .tuple #[.agg #[ii 0,ii 0,ii 0,ii 0],.bool false]) (by simp[results,Tryz.results267,go_sem,y0,y1,y2,y3]) rfl ?_;cases h2.out;exact⟨rfl,bF⟩
  .have b1:decide (k < 0)=false:=decide_eq_false q1;have b2:decide ((m:Int)<=k)=true:=decide_eq_true (HQ.out.resolve_left q1);clear q1;go_wp2_with ((go_at_call 264;refine(hC).mono ?_;rintro _ w2 ⟨rfl,h1⟩);have kx:=kx.keep h1;obtain⟨cx,lx⟩:=kx.cl;have fx:=kx.frozen);have h0:=HG.out;replace h1:=bt HB.out h1;have kF:=(((kx.set_ 0 (ii 0)).set_ 1 (ii 0)).set_ 2 (ii 0)).set_ 3 (ii 0);have bF:=(((h1.setCell (p:=⟨gp + 1,0,none⟩) h0 (ii 0)).setCell (p:=⟨gp + 1,1,none⟩) h0 (ii 0)).setCell (p:=⟨gp + 1,2,none⟩) h0 (ii 0)).setCell (p:=⟨gp + 1,3,none⟩) h0 (ii 0);generalize (((w2.setCell ⟨gp + 1,0,none⟩ (ii 0)).setCell ⟨gp + 1,1,none⟩ (ii 0)).setCell ⟨gp + 1,2,none⟩ (ii 0)).setCell ⟨gp + 1,3,none⟩ (ii 0)=w9 at kF bF ⊢;have y0:=kF.cell 0;have y1:=kF.cell 1;have y2:=kF.cell 2;have y3:=kF.cell 3;refine bodyPost_ret (v := .tuple #[.agg #[ii 0,ii 0,ii 0,ii 0],.bool false]) (by simp[results,Tryz.results267,go_sem,y0,y1,y2,y3]) rfl ?_;cases h2.out;exact⟨rfl,bF⟩
 .have h3:=HE.out.trans (if_neg q);obtain⟨j,rfl⟩:=Int.eq_ofNat_of_zero_le (show 0<=k by omega);have hj:j < m:=zo;rw[Int.toNat_natCast]at h3
  have h2:=zhd h3;have b1:decide ((j:Int) < 0)=false:=decide_eq_false zo;have b2:decide ((m:Int)<=j)=false:=decide_eq_false zo;have b3:decide (m<=j)=false:=decide_eq_false zo;clear HE q h3;go_upto_region 2 with ((go_at_call 264;refine(hC).mono ?_;rintro _ w2 ⟨rfl,h1⟩);have kx:=kx.keep h1;obtain⟨cx,lx⟩:=kx.cl;have fx:=kx.frozen)
  obtain⟨bb,f,hA,hbb,hc⟩:=(SlG.take (q54.keep HX.out h1).1 h5.out).at_ Ch0 (by simpa using hj);rw[show qzt.sz=4 from rfl]at hA hc
  rw[hA];have z:atD Ch0 (cf.chans.l.take m) j=atD Ch0 cf.chans.l j:=by unfold atD;rw[List.getD_eq_getElem?_getD,List.getD_eq_getElem?_getD,List.getElem?_take,if_pos hj]
  rw[z]at hc
  have z0:w2.cell? ⟨bb,f + j * 4,none⟩=some (ii (atD Ch0 cf.chans.l j).fr.part):=hc 0 _ rfl;have z1:=hc 1 _ rfl;have z2:=hc 2 _ rfl;have z3:=hc 3 _ rfl;clear hA hc z;go_wp2_with fail;have h0:=HG.out;replace h1:=bt HB.out h1;have kF:=(((kx.set_ 0 (ii (atD Ch0 cf.chans.l j).fr.part)).set_ 1 (ii (atD Ch0 cf.chans.l j).fr.port)).set_ 2 (ii (atD Ch0 cf.chans.l j).to.part)).set_ 3 (ii (atD Ch0 cf.chans.l j).to.port);have bF:=(((h1.setCell (p:=⟨gp + 1,0,none⟩) h0 (ii (atD Ch0 cf.chans.l j).fr.part)).setCell (p:=⟨gp + 1,1,none⟩) h0 (ii (atD Ch0 cf.chans.l j).fr.port)).setCell (p:=⟨gp + 1,2,none⟩) h0 (ii (atD Ch0 cf.chans.l j).to.part)).setCell (p:=⟨gp + 1,3,none⟩) h0 (ii (atD Ch0 cf.chans.l j).to.port);generalize (((w2.setCell ⟨gp + 1,0,none⟩ (ii (atD Ch0 cf.chans.l j).fr.part)).setCell ⟨gp + 1,1,none⟩ (ii (atD Ch0 cf.chans.l j).fr.port)).setCell ⟨gp + 1,2,none⟩ (ii (atD Ch0 cf.chans.l j).to.part)).setCell ⟨gp + 1,3,none⟩ (ii (atD Ch0 cf.chans.l j).to.port)=w9 at kF bF ⊢;have y0:=kF.cell 0;have y1:=kF.cell 1;have y2:=kF.cell 2;have y3:=kF.cell 3;refine bodyPost_ret (v := .tuple #[.agg #[ii (atD Ch0 cf.chans.l j).fr.part,ii (atD Ch0 cf.chans.l j).fr.port,ii (atD Ch0 cf.chans.l j).to.part,ii (atD Ch0 cf.chans.l j).to.port],.bool true]) (by simp[results,Tryz.results267,go_sem,y0,y1,y2,y3]) rfl ?_;cases h2.out;exact⟨rfl,bF⟩
def BxR(w:World) (o:Gh) (l:Lb) (v:Value):Bx->Prop
 | .que m d=>∃ q A cap,∃ hs:List (Hd UInt8),v = .iface 397 (pp q)/\q1t w o l q 399 #[.slice A m.length cap,ii d]/\q4q w o l 38 1 A m.length cap (hs.map Hd.v)/\hs.map Hd.l=m/\∀ h ∈ hs,Dat w o h
 | .smp b th fr=>∃ q,∃ h:Hd UInt8,v = .iface 400 (pp q)/\q1t w o l q 402 #[h.v,.bool th,.bool fr]/\h.l=b/\Dat w o h
theorem BxR.go{L:Lb->Prop} {o o':Gh} {l:Lb} {v:Value} {x:Bx} (h:BxR w o l v x) (m:Mv L o w o' w') (hl:¬ L l) (hd:¬ L .data):BxR w' o' l v x:=by
 cases x with
 | que b d =>
  obtain⟨q,A,cap,hs,h1,h2,h3,h4,h5⟩:=h;exact⟨q,A,cap,hs,h1,h2.go m hl,h3.go m hl,h4,λy hy=>(h5 y hy).go m hd⟩
 | smp b t f =>
  obtain⟨q,y,h1,h2,h3,h4⟩:=h;exact⟨q,y,h1,h2.go m hl,h3,h4.go m hd⟩
def Bx.ok:Bx->Prop
 | .que m d=>d<=1000/\m.length<=1000/\∀ b ∈ m,b.length<=1000
 | .smp b _ _=>b.length<=1000
structure PoR(w:World) (o:Gh) (pt i:Nat) (p:Nat) (v:Value) (x:Ps):Prop where
 k:q1t w o (.prt pt i) p 323 #[.bool x.c.q,.bool x.c.inn,ii x.c.size,ii x.c.depth,v,ii x.lost]
 b:BxR w o (.bx pt i) v x.box
 ok:x.box.ok
 d:x.c.depth<=1000
theorem PoR.go{L:Lb->Prop} {o o':Gh} {i p:Nat} {v:Value} {x:Ps} (h:PoR w o pt i p v x) (m:Mv L o w o' w') (hl:¬ L (.prt pt i)) (hb:¬ L (.bx pt i)) (hd:¬ L .data):PoR w' o' pt i p v x:=⟨h.k.go m hl,h.b.go m hb hd,h.ok,h.d⟩
def PkL(pt k:Nat):Lb->Prop:=λy=>y = .prt pt k\/y = .bx pt k
structure PsR(w:World) (o:Gh) (pt:Nat) (p:Nat) (A:Option Addr) (cap:Nat) (qs:List Nat) (l:List Ps):Prop where
 k:q1t w o (.prs pt) p 318 #[.slice A l.length cap]
 a:q4q w o (.prs pt) 319 1 A l.length cap (qeq qs)
 n:qs.length=l.length
 q:∀ i,i < l.length->∃ v,PoR w o pt i (atN qs i) v (atD Ps0 l i)
theorem PsR.go'{L:Lb->Prop} {o o':Gh} {p:Nat} {qs:List Nat} {l:List Ps} (h:PsR w o pt p A cap qs l) (m:Mv L o w o' w') (h1:¬ L (.prs pt)) (h2:∀ i,i < l.length->¬ L (.prt pt i)/\¬ L (.bx pt i)) (hd:¬ L .data):PsR w' o' pt p A cap qs l :=
 ⟨h.k.go m h1,h.a.go m h1,h.n,λi hi=>by obtain⟨v,hv⟩:=h.q i hi;exact⟨v,hv.go m (h2 i hi).1 (h2 i hi).2 hd⟩⟩
theorem PsR.go{L:Lb->Prop} {o o':Gh} {p:Nat} {qs:List Nat} {l:List Ps} (h:PsR w o pt p A cap qs l) (m:Mv L o w o' w') (h1:¬ L (.prs pt)) (h2:∀ i,¬ L (.prt pt i)) (h3:∀ i,¬ L (.bx pt i)) (hd:¬ L .data):PsR w' o' pt p A cap qs l:=h.go' m h1 (λi _=>⟨h2 i,h3 i⟩) hd
theorem PsR.set{o o':Gh} {p:Nat} {qs:List Nat} {l:List Ps} {k:Nat} {x:Ps} {v:Value} (h:PsR w o pt p A cap qs l) (hk:k < l.length) (m:Mv (PkL pt k) o w o' w') (hx:PoR w' o' pt k (atN qs k) v x):PsR w' o' pt p A cap qs (l.set k x):=by
 have hL:(l.set k x).length=l.length:=List.length_set;refine⟨by rw[hL];exact h.k.go m (by simp[PkL]),by rw[hL];exact h.a.go m (by simp[PkL]),by rw[hL];exact h.n,λi hi=>?_⟩;rw[hL]at hi
 rw[Me.atD_set _ _ _ _ _ hk];by_cases q:i=k
 .subst q;rw[if_pos rfl];exact⟨v,hx⟩
 .rw[if_neg q];obtain⟨u,hu⟩:=h.q i hi;exact⟨u,hu.go m (by simpa [PkL] using q) (by simpa [PkL] using q) (by simp[PkL])⟩
def PtL(pt:Nat):Lb->Prop:=λy=>∃ k,PkL pt k y
section
variable{w:World} {o:Gh} {pt p cap:Nat} {A:Option Addr} {qs:List Nat} {l:List Ps} (H:PsR w o pt p A cap qs l)
include H
theorem PsR.at_{i:Nat} (hi:i < l.length):∃ a,A=some ⟨a,0,none⟩/\a < w.heap.size/\w.cell? ⟨a,i,none⟩=some (pp (atN qs i)):=by
 obtain⟨a,ha⟩:=H.a.1.head zo;obtain⟨b',f,e,hb,hc⟩:=H.a.1.sl.at_ zo;rw[ha]at e
 cases e;refine⟨a,ha,hb,?_⟩;have:=hc i (pp (atN qs i)) (by
  have hq:i < qs.length:=by have:=H.n;omega
  simp[qeq,atN,List.getElem?_eq_getElem hq])
 simpa using this
end
structure Rx where
 A:Option Addr
 c:Nat
 qs:List Nat
def qbj(w:World) (o:Gh) (l:Lb) (t:TypeId) (x:Rx) (n:Nat):Prop:=q4q w o l t 1 x.A n x.c (qeq x.qs)/\x.qs.length=n
theorem qbj.go{L:Lb->Prop} {o o':Gh} {l:Lb} {t:TypeId} {x:Rx} (h:qbj w o l t x n) (m:Mv L o w o' w') (hl:¬ L l):qbj w' o' l t x n:=⟨h.1.go m hl,h.2⟩
theorem qbj.at_{o:Gh} {l:Lb} {t:TypeId} {x:Rx} {i:Nat} (H:qbj w o l t x n) (hi:i < n):∃ a,x.A=some ⟨a,0,none⟩/\a < w.heap.size/\w.cell? ⟨a,i,none⟩=some (pp (atN x.qs i)):=by
 obtain⟨a,ha⟩:=H.1.1.head zo;obtain⟨b',f,e,hb,hc⟩:=H.1.1.sl.at_ zo;rw[ha]at e
 cases e;refine⟨a,ha,hb,?_⟩;have:=hc i (pp (atN x.qs i)) (by
  have hq:i < x.qs.length:=by have:=H.2;omega
  simp[qeq,atN,List.getElem?_eq_getElem hq])
 simpa using this
structure Ox where
 s:Rx
 f:Rx
 p:Rx
 l:Rx
def PqR(w:World) (o:Gh) (l:Lb) (q:Nat) (y:Pq):Prop:=∃ A cap,∃ hs:List (Hd UInt8),q1t w o l q 413 #[ii y.c.size,ii y.c.depth,.slice A y.l.length cap]/\q4q w o l 38 1 A y.l.length cap (hs.map Hd.v)/\hs.map Hd.l=y.l/\(∀ h ∈ hs,Dat w o h)/\y.l.length<=1000/\y.c.depth<=1000/\∀ b ∈ y.l,b.length<=1000
def SaR(w:World) (o:Gh) (l:Lb) (q:Nat) (y:Sa):Prop:=∃ h:Hd UInt8,q1t w o l q 418 #[ii y.size,h.v,.bool y.sh]/\h.l=y.b/\Dat w o h/\y.b.length<=1000
structure ObR(w:World) (o:Gh) (pt p:Nat) (cf:Pt) (x:Ox) (y:Ob):Prop where
 k:q1t w o (.obs pt) p 337 #[cf.regs.v,cf.procs.v,cf.ports.v,cf.sems.v,ii cf.flags,cf.pools.v,cf.slates.v,ii cf.cap,ii cf.bud,ii cf.lad,cf.acts.v,.slice x.s.A y.sems.length x.s.c,.slice x.f.A y.flags.length x.f.c,.slice x.p.A y.pools.length x.p.c,.slice x.l.A y.slates.length x.l.c]
 rs:qbj w o (.obs pt) 406 x.s y.sems.length
 rf:qbj w o (.obs pt) 409 x.f y.flags.length
 rp:qbj w o (.obs pt) 414 x.p y.pools.length
 rl:qbj w o (.obs pt) 419 x.l y.slates.length
 s:∀ i,i < y.sems.length->q1t w o (.obj pt 0 i) (atN x.s.qs i) 405 #[ii (atD Se0 y.sems i).c.first,ii (atD Se0 y.sems i).c.most,ii (atD Se0 y.sems i).n]
 f:∀ i,i < y.flags.length->q1t w o (.obj pt 1 i) (atN x.f.qs i) 4 #[.bool (atD false y.flags i)]
 p:∀ i,i < y.pools.length->PqR w o (.obj pt 2 i) (atN x.p.qs i) (atD Pq0 y.pools i)
 l:∀ i,i < y.slates.length->SaR w o (.obj pt 3 i) (atN x.l.qs i) (atD Sa0 y.slates i)
def ObL(pt:Nat):Lb->Prop:=λy=>y = .obs pt\/∃ i k,y = .obj pt i k
section
variable{L:Lb->Prop} {o o':Gh} {w w':World}
theorem PqR.go{l:Lb} {y:Pq} (h:PqR w o l q y) (m:Mv L o w o' w') (hl:¬ L l) (hd:¬ L .data):PqR w' o' l q y:=by
 obtain⟨A,cap,hs,h1,h2,h3,h4,h5⟩:=h;exact⟨A,cap,hs,h1.go m hl,h2.go m hl,h3,λz hz=>(h4 z hz).go m hd,h5⟩
theorem SaR.go{l:Lb} {y:Sa} (h:SaR w o l q y) (m:Mv L o w o' w') (hl:¬ L l) (hd:¬ L .data):SaR w' o' l q y:=by
 obtain⟨A,h1,h2,h3,h4⟩:=h;exact⟨A,h1.go m hl,h2,h3.go m hd,h4⟩
theorem ObR.go{p:Nat} {cf:Pt} {x:Ox} {y:Ob} (h:ObR w o pt p cf x y) (m:Mv L o w o' w') (h1:¬ L (.obs pt)) (h2:∀ i k,¬ L (.obj pt i k)) (hd:¬ L .data):ObR w' o' pt p cf x y :=
 ⟨h.k.go m h1,h.rs.go m h1,h.rf.go m h1,h.rp.go m h1,h.rl.go m h1,λi hi=>(h.s i hi).go m (h2 _ _),λi hi=>(h.f i hi).go m (h2 _ _),λi hi=>(h.p i hi).go m (h2 _ _) hd,λi hi=>(h.l i hi).go m (h2 _ _) hd⟩
theorem ObR.setS{p k:Nat} {cf:Pt} {x:Ox} {y:Ob} {z:Se} (h:ObR w o pt p cf x y) (hk:k < y.sems.length) (m:Mv (λl=>l = .obj pt 0 k) o w o' w') (hz:q1t w' o' (.obj pt 0 k) (atN x.s.qs k) 405 #[ii z.c.first,ii z.c.most,ii z.n]):ObR w' o' pt p cf x { y with sems:=y.sems.set k z }:=by
 refine⟨?_,?_,h.rf.go m zp,h.rp.go m zp,h.rl.go m zp,λi hi=>?_,λi hi=>(h.f i hi).go m zp,λi hi=>(h.p i hi).go m zp zp,λi hi=>(h.l i hi).go m zp zp⟩
 .have:=h.k.go m zp;simpa using this
 .have:=h.rs.go m zp;simpa using this
 .simp only[List.length_set]at hi ⊢;rw[Me.atD_set _ _ _ _ _ hk];by_cases q:i=k
  .subst q;rw[if_pos rfl];exact hz
  .rw[if_neg q];exact(h.s i hi).go m (by simpa using q)
theorem ObR.setF{p k:Nat} {cf:Pt} {x:Ox} {y:Ob} {z:Bool} (h:ObR w o pt p cf x y) (hk:k < y.flags.length) (m:Mv (λl=>l = .obj pt 1 k) o w o' w') (hz:q1t w' o' (.obj pt 1 k) (atN x.f.qs k) 4 #[.bool z]):ObR w' o' pt p cf x { y with flags:=y.flags.set k z }:=by
 refine⟨?_,h.rs.go m zp,?_,h.rp.go m zp,h.rl.go m zp,λi hi=>(h.s i hi).go m zp,λi hi=>?_,λi hi=>(h.p i hi).go m zp zp,λi hi=>(h.l i hi).go m zp zp⟩
 .have:=h.k.go m zp;simpa using this
 .have:=h.rf.go m zp;simpa using this
 .simp only[List.length_set]at hi ⊢;rw[Me.atD_set _ _ _ _ _ hk];by_cases q:i=k
  .subst q;rw[if_pos rfl];exact hz
  .rw[if_neg q];exact(h.f i hi).go m (by simpa using q)
theorem ObR.setP{p k:Nat} {cf:Pt} {x:Ox} {y:Ob} {z:Pq} (h:ObR w o pt p cf x y) (hk:k < y.pools.length) (m:Mv (λl=>l = .obj pt 2 k) o w o' w') (hz:PqR w' o' (.obj pt 2 k) (atN x.p.qs k) z):ObR w' o' pt p cf x { y with pools:=y.pools.set k z }:=by
 refine⟨?_,h.rs.go m zp,h.rf.go m zp,?_,h.rl.go m zp,λi hi=>(h.s i hi).go m zp,λi hi=>(h.f i hi).go m zp,λi hi=>?_,λi hi=>(h.l i hi).go m zp zp⟩
 .have:=h.k.go m zp;simpa using this
 .have:=h.rp.go m zp;simpa using this
 .simp only[List.length_set]at hi ⊢;rw[Me.atD_set _ _ _ _ _ hk];by_cases q:i=k
  .subst q;rw[if_pos rfl];exact hz
  .rw[if_neg q];exact(h.p i hi).go m (by simpa using q) zp
theorem ObR.setL{p k:Nat} {cf:Pt} {x:Ox} {y:Ob} {z:Sa} (h:ObR w o pt p cf x y) (hk:k < y.slates.length) (m:Mv (λl=>l = .obj pt 3 k) o w o' w') (hz:SaR w' o' (.obj pt 3 k) (atN x.l.qs k) z):ObR w' o' pt p cf x { y with slates:=y.slates.set k z }:=by
 refine⟨?_,h.rs.go m zp,h.rf.go m zp,h.rp.go m zp,?_,λi hi=>(h.s i hi).go m zp,λi hi=>(h.f i hi).go m zp,λi hi=>(h.p i hi).go m zp zp,λi hi=>?_⟩
 .have:=h.k.go m zp;simpa using this
 .have:=h.rl.go m zp;simpa using this
 .simp only[List.length_set]at hi ⊢;rw[Me.atD_set _ _ _ _ _ hk];by_cases q:i=k
  .subst q;rw[if_pos rfl];exact hz
  .rw[if_neg q];exact(h.l i hi).go m (by simpa using q) zp
end
section
open Go.ChangeShapes Go.WideShapes Go.ChangeAt Go.RowKit Go.Joins
theorem qxc:Tryz.prog.underlying 81=some (.struct (fieldsOf 81)):=zk
noncomputable def z2g:Rd Tryz.prog 81 St where
 sz:=6
 f:=St.f
 ok _ x:=x.ok
 len _:=rfl
 keep H _:=H
 trod hl h:=by
  rename_i cs _
  match cs,hl with
  | [v0,v1,v2,v3,v4,v5],_ =>
   obtain⟨_,_,g0⟩:=q00 qxc h 0 3 0 1 zk zk;obtain⟨x0,e0,o0⟩:=q08.trod rfl g0;obtain⟨_,_,g1⟩:=q00 qxc h 1 3 1 1 zk zk;obtain⟨x1,e1,o1⟩:=q08.trod rfl g1;obtain⟨_,_,g2⟩:=q00 qxc h 2 3 2 1 zk zk;obtain⟨x2,e2,o2⟩:=q08.trod rfl g2;obtain⟨_,_,g3⟩:=q00 qxc h 3 3 3 1 zk zk;obtain⟨x3,e3,o3⟩:=q08.trod rfl g3;obtain⟨_,_,g4⟩:=q00 qxc h 4 3 4 1 zk zk;obtain⟨x4,e4,o4⟩:=q08.trod rfl g4;obtain⟨_,_,g5⟩:=q00 qxc h 5 3 5 1 zk zk;obtain⟨x5,e5,o5⟩:=q08.trod rfl g5;cases e0;cases e1;cases e2;cases e3;cases e4;cases e5;exact⟨⟨x0,x1,x2,x3,x4,x5⟩,rfl,o0,o1,o2,o3,o4,o5⟩
noncomputable def qoa:Rd Tryz.prog 82 (Hd St):=qgb 82 z2g zk zk zd
noncomputable def qkn:Rd Tryz.prog 53 (Hd (Hd St)):=qgb 53 qoa zk zk zd
noncomputable def qh9:Rd Tryz.prog 34 (Hd (Hd (Hd St))):=qgb 34 qkn zk zk zd
structure Sc where
 progs:Hd (Hd (Hd St))
 frames:Hd Fm
def Sc.f(x:Sc):List Value:=[x.progs.v,x.frames.v]
theorem z0r:Tryz.prog.underlying 37=some (.struct (fieldsOf 37)):=zk
noncomputable def q73:Rd Tryz.prog 37 Sc where
 sz:=2
 f:=Sc.f
 ok W x:=qh9.ok W x.progs/\q91.ok W x.frames
 len _:=rfl
 keep H hb:=⟨qh9.keep H.1 hb,q91.keep H.2 hb⟩
 trod hl h:=by
  rename_i cs _
  match cs,hl with
  | [v0,v1],_ =>
   obtain⟨_,_,g0⟩:=q00 z0r h 0 34 0 1 zk zk;obtain⟨x0,e0,o0⟩:=qh9.trod rfl g0;obtain⟨_,_,g1⟩:=q00 z0r h 1 35 1 1 zk zk;obtain⟨x1,e1,o1⟩:=q91.trod rfl g1;cases e0;cases e1;exact⟨⟨x0,x1⟩,rfl,o0,o1⟩
def prL(h:Hd (Hd St)):List (List St):=h.l.map Hd.l
end
def q92(cf:Cf) (p:Int) (k:Nat):List Int:=((List.range k).filter λ(j:Nat)=>(atD Ch0 cf.chans.l j).fr.part == p).map λ(j:Nat)=>(j:Int)
theorem qkr(cf:Cf) (p:Int) (k:Nat):q92 cf p (k + 1)=q92 cf p k ++ (if (atD Ch0 cf.chans.l k).fr.part=p then [(k:Int)] else []):=by
 unfold q92;rw[List.range_succ,List.filter_append,List.map_append];by_cases h:(atD Ch0 cf.chans.l k).fr.part=p <;> simp[h]
theorem qfm(cf:Cf) (p:Int) (k:Nat):(q92 cf p k).length<=k:=by
 unfold q92;rw[List.length_map];exact Nat.le_trans (List.length_filter_le _ _) zp
theorem qof{cf:Cf} (hx:q54.ok w cf.chans) {p:Int} : cP 195 #[.agg (Cf.lw cf),ii p] w λe w'=>qi2 w (q92 cf p (chN cf)) e w':=by
 have b0:bW w (w.alloc (.cells (Cf.lw cf) 33)):=zv;have kb:=Blk.new w 33 (Cf.lw cf);obtain⟨wo,rfl⟩:∃ wo:World,wo=w:=⟨_,rfl⟩
 obtain⟨m,hm⟩:∃ m,m=chN cf:=⟨_,rfl⟩
 have HM:Hid (m<=cf.chans.l.length/\m<=16):=by rw[hm];unfold chN;exact⟨zo,zo⟩
 have h5:=zhd hm;rw[<- hm];clear hm;refine inC ?_;go_in;go_upto_region 1 with fail;have hC:=q8t (q54.keep hx b0);generalize wo.alloc (.cells (Cf.lw cf) 33)=w1 at *;obtain⟨g,hg⟩:∃ g,g=wo.heap.size:=⟨_,rfl⟩
 rw[<- hg]at kb ⊢
 clear hg;obtain⟨kc,lg⟩:=kb.cl;have HX:=zhd (q54.keep hx b0);rw[<- h5.out]at hC
 have HB:=zhd b0;clear h5 b0 hx;go_upto_region 3 with (go_at_call 264;refine(hC).mono ?_;rintro _ w2 ⟨rfl,h2⟩)
 have hS:=SlG.take (q54.keep HX.out h2).1 HM.out.1;rw[show qzt.sz=4 from rfl]at hS
 have h4:=zhd (bt HB.out h2);clear kc lg kb HB HX h2 hC;generalize slA cf.chans.A 0 cf.chans.c 4=A0 at *;go_loopw [5,11] (λv i wr=>∃ (k:Nat) (A:Option Addr) (c:Nat),i = .int .i64 k/\k<=m/\v = .slice A (q92 cf p k).length c/\Own wr 3 1 A (q92 cf p k).length c ((q92 cf p k).map (.int .i64))/\(∀ k,q02 A k->w2.heap.size<=k)/\bW w2 wr) (λ_ i _=>m - (intOf i).toNat)
 case atStart=>exact⟨0,none,0,rfl,Nat.zero_le _,rfl,Own.nil _ _ _,(λk h=>by cases h),bR⟩
 case round =>
  obtain⟨k,A,c,rfl,h9,rfl,hO,hA,hB⟩:=hrel;by_cases hk:k < m
  .have h0:wrap64 ((k:Int) + 1)=((k + 1:Nat):Int):=by have:=HM.out.2;unfold wrap64;omega
   obtain⟨bb,f,h8,hbb,hc⟩:=(hS.keep hB).at_ Ch0 hk;have z:atD Ch0 (cf.chans.l.take m) k=atD Ch0 cf.chans.l k:=by unfold atD;rw[List.getD_eq_getElem?_getD,List.getD_eq_getElem?_getD,List.getElem?_take,if_pos hk]
   rw[z]at hc
   have HK:=zhd hk;have hi:=qfm cf p k;have hs:=qkr cf p k;rw[h8];have z0:wr.cell? ⟨bb,f + k * 4,none⟩=some (ii (atD Ch0 cf.chans.l k).fr.part):=hc 0 _ rfl;have z1:=hc 1 _ rfl;have z2:=hc 2 _ rfl;have z3:=hc 3 _ rfl;clear hc z;generalize atD Ch0 cf.chans.l k=y at *;generalize q92 cf p k=L at *;have h7:Hid (L.length<=100000000000):=by have:=HM.out.2;show _<=_;omega
   obtain⟨wc,h3⟩:∃ wc,wc=wr.alloc (.cells #[ii y.fr.part,ii y.fr.port,ii y.to.part,ii y.to.port] 141):=⟨_,rfl⟩
   have bc:bW wr wc:=by rw[h3];go_grown
   have HO:=zhd (hO.keep bc);have h1:=zhd bc;have h6:=zhd h3;clear bc h3 hi;by_cases q:y.fr.part=p
   .have b1:(y.fr.part == p)=true:=by simpa using q
    have HS:=zhd (hs.trans (by rw[if_pos q]));clear hs q;go_upto_region 6 with fail;rw[<- h6.out];go_wp2_with (at_builtin;refine q2k q27 wc zr _ _ zr zr HO.out #[ii k] rfl (by simp[Value.oneCell']) zr h7.out ?_;intro A' c' w5 hown4 hf4 hat4);exact⟨⟨k + 1,A',c',by rw[h0],HK.out,by rw[HS.out];simp,by rw[HS.out];simpa using hown4,λj hj=>(hat4 j hj).elim (hA j) (λh=>Nat.le_trans (bt hB h1.out).size h),q68 (bt hB h1.out) HO.out hf4 hA⟩,by rw[h0];simp[intOf];have:=HK.out;omega⟩
   .have b1:(y.fr.part == p)=false:=by simpa using q
    have HS:=zhd (hs.trans (by rw[if_neg q,List.append_nil]));clear hs q;go_wp2_with fail;rw[<- h6.out];exact⟨⟨k + 1,A,c,by rw[h0],HK.out,by rw[HS.out],by rw[HS.out];exact HO.out,hA,bt hB h1.out⟩,by rw[h0];simp[intOf];have:=HK.out;omega⟩
  .obtain rfl:k=m:=zo;clear h9;go_wp2_with fail;go_returns;exact⟨A,c,rfl,hO,λj hj=>Nat.le_trans h4.out.size (hA j hj),bt h4.out hB⟩
end Go.Proofs.YtncfcbohiodnnaaGreat
