/- Parts of this seat's claims. -/
import Derived.Test.YtncfcbohiodnnaaGreatW23
set_option maxRecDepth 100000
set_option maxHeartbeats 6400000
namespace Go.Proofs.YtncfcbohiodnnaaGreat
open Go.RowKit
variable{w w' W wa wo W':World} {c n pt r B j b m mb q base cap id B0:Nat} {A:Option Addr} {a code what:Int} {cs:Array Value}
theorem qo7(l:List Ps) (k:Nat) (y:Ps) (hy:psK y (atD Ps0 l k)):(l.set k y).length=l.length/\∀ i,psK (atD Ps0 (l.set k y) i) (atD Ps0 l i):=by
 refine⟨List.length_set,λi=>?_⟩;by_cases hk:k < l.length
 .rw[Me.atD_set _ _ _ _ _ hk];by_cases q:i=k
  .subst q;rw[if_pos rfl];exact hy
  .rw[if_neg q];exact psK.refl _
 .rw[List.set_eq_of_length_le zo];exact psK.refl _
theorem q63(l:List Ps) (p:Int) (q:Bool) (b:List UInt8):(q10 l p q b).2.length=l.length/\∀ i,psK (atD Ps0 (q10 l p q b).2 i) (atD Ps0 l i):=by
 unfold q10;split
 .exact⟨rfl,λ_=>psK.refl _⟩
 .split
  .exact⟨rfl,λ_=>psK.refl _⟩
  .split
   .exact⟨rfl,λ_=>psK.refl _⟩
   .exact qo7 _ _ _ ⟨rfl,λh=>qo1 _ h⟩
theorem q9i(l:List Ps) (p:Int) (q:Bool):(q44 l p q).2.2.length=l.length/\∀ i,psK (atD Ps0 (q44 l p q).2.2 i) (atD Ps0 l i):=by
 unfold q44;split
 .exact⟨rfl,λ_=>psK.refl _⟩
 .split
  .exact⟨rfl,λ_=>psK.refl _⟩
  .exact qo7 _ _ _ ⟨rfl,λh=>qw0 h⟩
theorem qfj{p:Int} {s s':Ce} (h:q12 p s=some s'):Ext 1 s s':=by
 unfold q12 at h;split at h
 .cases h
 .split at h
  .cases h
  .injection h with h
   rw[<- h];obtain⟨k1,k2⟩:=q63 s.pts p true (atD Tk0 s.tk (q0e s 11 p).toNat).data;exact((q8g k1 k2).trans (q18 zd zd)).mono zo
theorem qfk{p:Int} {s s':Ce} (h:q13 p s=some s'):Ext 1 s s':=by
 unfold q13 at h;split at h
 .cases h
 .split at h
  .cases h
  .injection h with h
   rw[<- h];obtain⟨k1,k2⟩:=q9i s.pts p true;exact((q8g k1 k2).trans q6h).mono zo
theorem q6z(s:Ce) (p:Int):Ext (s.tab.length + 1) s (q1z s p):=q7w (λ_ _=>qfj) _ _
theorem qdn(s:Ce) (p:Int):Ext (s.tab.length + 1) s (q2m s p):=q7w (λ_ _=>qfk) _ _
theorem qfl(win:Int) (l:List Rw) (tn:Int):∀ (k i:Nat),(atD Rw0 (q5u win l tn k).l i).park=(atD Rw0 l i).park
 | 0,i=>rfl
 | k + 1,i=>by
  have ih:=qfl win l tn k;rw[qa4];generalize q5u win l tn k=s at *;have h0:∀ (m:List Rw) (y:Rw),y.park=(atD Rw0 m k).park->(atD Rw0 (m.set k y) i).park=(atD Rw0 m i).park:=λm y hy=>by
   by_cases hk:k < m.length
   .rw[qcy _ _ _ _ hk];by_cases q:i=k
    .subst q;rw[if_pos rfl,hy]
    .rw[if_neg q]
   .rw[List.set_eq_of_length_le zo]
  unfold qa3;split
  .exact ih i
  .split
   .show(atD Rw0 ((s.l.set k _).set k _) i).park=_;rw[List.set_set,h0 _ _ (by rw[q7v])];exact ih i
   .refine(h0 s.l { atD Rw0 s.l k with next:=wrap64 (win + (atD Rw0 s.l k).c.per) } rfl).trans ?_;exact ih i
theorem q64(s:Ce):Ext (s.tab.length) s (q0c s):=by
 obtain⟨r1,r2,_,_⟩:=qdl s.win s.tab s.tn s.tab.length;have HE:q0c s=(q5u s.win s.tab s.tn s.tab.length).mis.foldl q3z ((q5u s.win s.tab s.tn s.tab.length).rel.foldl q3y (q6a s ((q5u s.win s.tab s.tn s.tab.length).l,(q5u s.win s.tab s.tn s.tab.length).tn))):=rfl;have hp:DN s->DN (q6a s ((q5u s.win s.tab s.tn s.tab.length).l,(q5u s.win s.tab s.tn s.tab.length).tn)):=λh i hi hd=>by
  have:=h i hi hd;show(atD Rw0 (q5u s.win s.tab s.tn s.tab.length).l i).park=true;rw[qfl];exact this
 have h0:Ext 0 s (q6a s ((q5u s.win s.tab s.tn s.tab.length).l,(q5u s.win s.tab s.tn s.tab.length).tn)):=⟨rfl,rfl,rfl,rfl,r1,rfl,⟨[],by simp[q6a],zp,trivial⟩,rfl,rfl,rfl,λ_ h=>hp h,λh=>⟨h.p,h.q,h.l,h.cq,h.cl⟩,⟨λ_ h=>h,λ_ h=>h⟩⟩
 rw[HE];exact((h0.trans (q2u q6y _ _)).trans (q2u qak _ _)).mono zo
section
variable{W w:World} {o:Gh} {pt c:Nat} {x:Cx} {s:Ce} (R:CeR w o pt c x s)
include R
theorem CeR.setWin(m:Int):Mv (λy=>y = .cell pt) o w o (w.setCell ⟨c,13,none⟩ (ii m))/\CeR (w.setCell ⟨c,13,none⟩ (ii m)) o pt c x { s with win:=m }:=by
 have mm:Mv (λy=>y = .cell pt) o w o (w.setCell ⟨c,13,none⟩ (ii m)):=Mv.setC (L:=λy=>y = .cell pt) (Mv.refl _ o w) (q:=c) (λ_=>R.k.2) 13 _;exact⟨mm,⟨R.k.set 13 _,R.tr.go mm zp,λi hi=>by obtain⟨hp,hd,T⟩:=R.tk i hi;exact⟨hp,hd,T.go mm zp zp⟩,R.tb.go mm zp,R.me.go mm zp,R.ps.go mm zp zp zp zp,R.ob.go mm zp zp zp,R.mn.go mm zp,SkO.go R.sk mm zp,R.ev.go mm zp⟩⟩
theorem CeR.setNew{w1:World} {a:Nat} {qs:List Nat} {y:Sk} (hb:bW w w1) (S:SkR w1 b a cap qs y) (h0:0 < y.has.length) (h1:w.heap.size<=b) (h2:w.heap.size<=a) (h3:∀ q,q ∈ qs->w.heap.size<=q) :
  ∃ o',Mv (PaL pt) o w o' (w1.setCell ⟨c,20,none⟩ (pp b))/\CeR (w1.setCell ⟨c,20,none⟩ (pp b)) o' pt c { x with s:=some b,sa:=a,sc:=cap,sq:=qs } { s with slk:=some y }:=by
 have m0:Mv (λ_=>False) o w (lay w o (.slk pt)) w1:=Mv.lay (S:=λ_=>False) _ (fO hb _) (λ_ _ h=>h.elim);have mm:Mv (λy=>y = .cell pt) o w (lay w o (.slk pt)) (w1.setCell ⟨c,20,none⟩ (pp b)):=(m0.mono λ_ h=>h.elim).setC (λ_=>R.k.2) 20 _;have hS:SkL w1 (lay w o (.slk pt)) pt b a cap qs y:=⟨S,q07 h1,(S.old.2.1 h0),q07 h2,λk hk=>q07 (h3 k hk)⟩
 have m2:Mv (λy=>y = .cell pt) (lay w o (.slk pt)) w1 (lay w o (.slk pt)) (w1.setCell ⟨c,20,none⟩ (pp b)):=Mv.setC (L:=λy=>y = .cell pt) (Mv.refl _ _ w1) (q:=c) (λ_=>(q0l R.k.1.lt).trans R.k.2) 20 _;exact⟨_,mm.pa rfl,(R.k.go m0 id).set 20 _,R.tr.go mm zp,λi hi=>by obtain⟨hp,hd,T⟩:=R.tk i hi;exact⟨hp,hd,T.go mm zp zp⟩,R.tb.go mm zp,R.me.go mm zp,R.ps.go mm zp zp zp zp,R.ob.go mm zp zp zp,R.mn.go mm zp,.inr ⟨y,b,rfl,rfl,hS.go m2 zp⟩,R.ev.go mm zp⟩
end
def undone(t:Tk):Tk:={ t with done:=false }
def qkk(s:Ce) (k:Nat):Ce:={ s with tk:=(s.tk.take k).map undone ++ s.tk.drop k }
theorem qis{a d e:Nat} (h:a<=b + c) (hb:b<=d) (hc:c<=e):a<=d + e:=zo
theorem qs5(s:Ce) (k:Nat) (hk:k<=s.tk.length):(qkk s k).tk.length=s.tk.length:=by unfold qkk;simp;omega
def q4g(s:Ce) (p:Nat):Ce:=q2m (q1z s p) p
theorem qs6(s:Ce) (p:Nat):Ext (2 * (s.tab.length + 1)) s (q4g s p):=((q6z s p).trans (qdn _ _)).mono (by have:=(q6z s p).tb;omega)
theorem q7y(s:Ce):∀ k,Ext (k * (2 * (s.tab.length + 1))) s ((List.range k).foldl q4g s)
 | 0=>(Ext.refl s).mono zo
 | k + 1=>by
  rw[List.range_succ,List.foldl_append];have h:=q7y s k;have h2:=qs6 ((List.range k).foldl q4g s) k;rw[h.tb]at h2
  exact(h.trans h2).mono (by rw[Nat.add_mul];omega)
def beginS(s:Ce):Ce:={ s with win:=wrap64 (s.win + 1),slk:=some (q56 s.cf),tab:=qd0 s.tab,tk:=s.tk.map undone }
theorem qit{s:Ce} (hh:s.tk.length<=s.cf.procs.l.length):DN (beginS s)/\(beginS s).slk≠none/\(beginS s).tk.length<=(beginS s).sk.has.length:=by
 refine⟨λi hi hd=>?_,by simp[beginS],by simpa [beginS,Ce.sk,q56] using hh⟩;exfalso;have h0:i < s.tk.length:=by simpa [beginS] using hi
 rw[show(beginS s).tk=s.tk.map undone from rfl,q0s (by simpa using h0),List.getElem_map]at hd
 exact absurd hd (by simp[undone])
section
variable{W w:World} {o:Gh} {pt c:Nat} {x:Cx} {s:Ce} (R:CeR w o pt c x s)
include R
theorem CeR.undone{k:Nat} (hk:k < s.tk.length) {s0:Ce} (hs:s=qkk s0 k) (h0:k < s0.tk.length):Mv (λy=>y = .task pt k) o w o (w.setCell ⟨atN x.tr.qs k,5,none⟩ (.bool false))/\CeR (w.setCell ⟨atN x.tr.qs k,5,none⟩ (.bool false)) o pt c x (qkk s0 (k + 1)):=by
 obtain⟨hp,hd,T⟩:=R.tk k hk;have m:Mv (λy=>y = .task pt k) o w o (w.setCell ⟨atN x.tr.qs k,5,none⟩ (.bool false)):=Mv.setC (L:=λy=>y = .task pt k) (Mv.refl _ o w) (q:=atN x.tr.qs k) (λ_=>T.k.2) 5 _;have R1:=R.setTk (t:=Go.Proofs.YtncfcbohiodnnaaGreat.undone (atD Tk0 s.tk k)) (hp:=hp) (hd:=hd) hk m ⟨T.k.set 5 (.bool false),T.p.go m zp,T.pl,T.d.go m zp,T.dl,T.at_,T.n,T.a,T.dn⟩;refine⟨m,?_⟩;subst hs;have e:q1d (qkk s0 k) k (Go.Proofs.YtncfcbohiodnnaaGreat.undone (atD Tk0 (qkk s0 k).tk k))=qkk s0 (k + 1):=by
  have h1:atD Tk0 (qkk s0 k).tk k=atD Tk0 s0.tk k:=qgs Tk0 Go.Proofs.YtncfcbohiodnnaaGreat.undone s0.tk h0;rw[h1];have h2:=qa2 Tk0 Go.Proofs.YtncfcbohiodnnaaGreat.undone s0.tk h0;unfold q1d qkk;dsimp only;rw[<- h2]
 rw[<- e];exact R1
theorem qo8(H:Sta W s) (B:Bas W w o) (hl:s.tab.length=s.tk.length) (h0:0 < s.cf.procs.l.length) (h1:s.cf.procs.l.length<=1000) (hh:s.tk.length<=s.cf.procs.l.length) (he:s.evs.length<=99999999000):cP 185 #[pp c] w λe w'=>Aft w o pt c x.p (q2g s) (.tuple #[]) e w':=by
 have hD:=q60 R;have a4:=R.c13;have kf:=R.k.1.frozen;have lt:=R.k.1.lt;have h8:=H.n8;obtain⟨m1,R1⟩:=R.setWin (wrap64 (s.win + 1));have a9:=R1.cell;have l1:=R1.k.1.lt;have B1:=B.go m1 zp;have hN:=qqu (w:=w.setCell ⟨c,13,none⟩ (ii (wrap64 (s.win + 1)))) (x:=s.cf) (qcu.keep H.cf B1.b) h0 h1;unfold qy3 at hN;have hr:(q56 s.cf).has.length=s.cf.procs.l.length:=by simp[q56]
 have HE:Hid (q2g s=if s.mode≠3 then beginS s else q2n (q36 ((List.range 8).foldl q4g (q0c (beginS s))))):=rfl;obtain⟨s2,Ha⟩:∃ s2:Ce,s2={ s with win:=wrap64 (s.win + 1),slk:=some (q56 s.cf) }:=⟨_,rfl⟩
 have h7:∀ (w1:World) (b a cap:Nat) (qs:List Nat),Below (w.setCell ⟨c,13,none⟩ (ii (wrap64 (s.win + 1)))).heap.size (w.setCell ⟨c,13,none⟩ (ii (wrap64 (s.win + 1)))) w1->SkR w1 b a cap qs (q56 s.cf)->(w.setCell ⟨c,13,none⟩ (ii (wrap64 (s.win + 1)))).heap.size<=b->(w.setCell ⟨c,13,none⟩ (ii (wrap64 (s.win + 1)))).heap.size<=a->(∀ q,q ∈ qs->(w.setCell ⟨c,13,none⟩ (ii (wrap64 (s.win + 1)))).heap.size<=q)->∃ o' x',x'.p=x.p/\x'.t=x.t/\Mv (PaL pt) o w o' (w1.setCell ⟨c,20,none⟩ (pp b))/\CeR (w1.setCell ⟨c,20,none⟩ (pp b)) o' pt c x' s2:=by
  intro w1 b a cap qs hb S h3 h4 h5;obtain⟨o2,m2,R2⟩:=R1.setNew (w1:=w1) (b:=b) (a:=a) (cap:=cap) (qs:=qs) (y:=q56 s.cf) hb S (by rw[hr];exact h0) h3 h4 h5;subst Ha;exact⟨o2,{ x with s:=some b,sa:=a,sc:=cap,sq:=qs },rfl,rfl,(m1.pa rfl).trans m2,R2⟩
 replace h7:=zhd h7;have e2:Hid ({ s2 with tab:=qd0 s2.tab } = { s with win:=wrap64 (s.win + 1),slk:=some (q56 s.cf),tab:=qd0 s.tab }):=by rw[Ha];exact rfl
 obtain⟨s3,Hb⟩:∃ s3:Ce,s3={ s2 with tab:=qd0 s2.tab }:=⟨_,rfl⟩
 have hx:=zhd Hb;have E3:Hid (s3={ s with win:=wrap64 (s.win + 1),slk:=some (q56 s.cf),tab:=qd0 s.tab }):=by rw[Hb];exact e2
 clear Ha Hb e2;refine inC ?_;go_in;go_wp2_with (first
  | (go_at_call 123;refine(hD).mono ?_;rintro _ _ ⟨rfl,rfl⟩)
  | (go_at_call 243;refine hN.mono ?_;rintro _ w2 ⟨b,a,cap,qs,rfl,S,Hp,Hq,Hr,hb⟩;obtain⟨o2,x2,ht,He,m2,R2⟩:=h7.out w2 b a cap qs hb S Hp Hq Hr;have Hg:=zhd ht;clear ht;have ab:=((R1.k.1.keep hb)).frozen;have ac:=(R1.k.1.keep hb).lt;have aa:=(R1.k.1.keep hb).cell 20;have Hm:=R2.c15;rw[He]at Hm;have Hh:=zhd He;clear He)
  | (go_at_call 244;have T2:=R2.tb;rw[Hh.out]at T2;refine(qmp T2.1).mono ?_;rintro _ w4 ⟨rfl,T4,f4⟩;have m4:=T2.mv f4;have R4:=R2.setTab m4 (by rw[Hh.out];exact T4);have M4:=m2.trans (m4.pa rfl);have Hk:=R4.c14;have l4:=R4.k.1.lt;rw[<- hx.out]at R4;clear hN h7 aa hD T2))
 have Hs:Hid (∀ n,s3.tk.length=n->qkk s3 n=beginS s):=λn h=>by
  subst h;unfold qkk beginS;rw[List.take_length,List.drop_length,List.append_nil,E3.out]
 have hf:s3.tk.length<=8:=by rw[E3.out];exact h8
 have hc:Hid (s3.tk.length=s2.tk.length):=by rw[hx.out];exact rfl
 clear S Hp Hq Hr hb ab ac f4 T4 m4 R2 Hm m2 a9 a4 kf R R1 l1 B1 m1 hr;obtain⟨N2,H2⟩:∃ n,n=s2.tk.length:=⟨_,rfl⟩
 rw[<- H2]at Hk hc
 rw[hc.out]at hf
 rw[<- H2];clear H2;go_loopw [32] (λi wr=>∃ k:Nat,i = .int .i64 k/\k<=N2/\Mv (PaL pt) o w o2 wr/\CeR wr o2 pt c x2 (qkk s3 k)) (λi _=>N2 - (intOf i).toNat)
 case atStart=>exact⟨0,rfl,Nat.zero_le _,M4,R4⟩
 case round =>
  clear M4 R4 Hk l4;obtain⟨k,rfl,H3,M,R5⟩:=hrel;by_cases hk:k < N2
  .have a8:wrap64 ((k:Int) + 1)=((k + 1:Nat):Int):=by unfold wrap64;omega
   have H8:k < (qkk s3 k).tk.length:=by rw[qs5 s3 k (by rw[hc.out];exact H3),hc.out];exact hk
   obtain⟨hp,hd,T⟩:=R5.tk k H8;have tl:=T.k.1.lt;have tf:=T.k.1.frozen;have tc:=T.k.1.cell;obtain⟨a,hA,hal,hac⟩:=R5.task H8;obtain⟨m6,R6⟩:=R5.undone H8 rfl (by rw[hc.out];exact hk);rw[hA];clear T;go_wp2_with fail;exact⟨⟨k + 1,rfl,hk,M.trans (m6.pa rfl),R6⟩,qs3 hk⟩
  .have hv:k=N2:=Nat.le_antisymm H3 (Nat.le_of_not_lt hk);have R7:CeR wr o2 pt c x2 (beginS s):=by rw[<- Hs.out N2 (by rw[hc.out]),<- hv];exact R5
   clear R5;have Hj:=R7.c12;have l7:=R7.k.1.lt;have hg:(beginS s).tab.length=(beginS s).tk.length:=by simpa [beginS,qd0] using hl
   have H4:Sta W (beginS s):=⟨H.cf,H.dp,by simpa [beginS] using h8,H.p8⟩
   have B4:Bas W wr o2:=B.go M PaL.nf;have t8:(beginS s).tab.length<=8:=by rw[hg];simpa [beginS] using h8
   have a5:(beginS s).evs.length<=99999999000:=he;have E5:=zhd (q64 (beginS s));have hR:=qfi R7 H4 B4 hg zo;have hm:(beginS s).mode=s.mode:=rfl;rw[hm]at Hj
   have H1:Hid (DN (beginS s)/\(beginS s).slk≠none/\(beginS s).tk.length<=(beginS s).sk.has.length):=qit hh;generalize beginS s=s4 at *;clear Hs hx E3 hc hf H3 hv;go_wp2_with (go_at_call 245;refine hR.mono ?_;rintro _ w5 ⟨rfl,o5,m5,x5,Hy,R8⟩;have M5:=M.trans m5;have l8:=R8.k.1.lt;have a3:=zhd Hy;clear Hy)
   .rename_i hmo;go_returns;exact⟨rfl,o2,M,x2,Hg.out,by rw[HE.out,if_pos (by simpa using hmo)];exact R7⟩
   have H9:Hid (¬ s.mode≠3):=by simpa [Hid] using ‹(s.mode != 3)=false›
   clear hk;have hq:(q0c s4).tab.length=(q0c s4).tk.length:=by rw[E5.out.tb,E5.out.tk];exact hg
   have hu:(q0c s4).tab.length<=8:=by rw[E5.out.tb];exact t8
   have hj:(q0c s4).evs.length<=99999999100:=by have:=E5.out.len;omega
   have H5:Sta W (q0c s4):=⟨by rw[E5.out.cf];exact H4.cf,by rw[E5.out.cf];exact H4.dp,by rw[E5.out.tk];exact H4.n8,by rw[E5.out.pt];exact H4.p8⟩
   have B5:=B.go M5 PaL.nf;clear hR R7 M m5 Hj l7 B4 he a5;generalize q0c s4=s5 at *;go_loopw [47] (λi wr=>∃ (k:Nat) (o':Gh) (x':Cx),i = .int .i64 k/\k<=8/\Mv (PaL pt) o w o' wr/\x'.p=x.p/\CeR wr o' pt c x' ((List.range k).foldl q4g s5)) (λi _=>8 - (intOf i).toNat)
   case atStart=>exact⟨0,o5,x5,rfl,Nat.zero_le _,M5,a3.out.trans Hg.out,R8⟩
   case round =>
    clear M5 R8;obtain⟨k,o',x',rfl,hf,M6,ht,R9⟩:=hrel;have Hf:=zhd ht;clear ht;have EX:=zhd (q7y s5 k);have Hx:(List.range (k + 1)).foldl q4g s5=q4g ((List.range k).foldl q4g s5) k:=by rw[List.range_succ,List.foldl_append];rfl
    have a1:=zhd Hx;clear Hx;generalize h6:(List.range k).foldl q4g s5=s6 at *;have H6:=zhd h6;clear h6;have h2:s6.tab.length=s6.tk.length:=by rw[EX.out.tb,EX.out.tk];exact hq
    have h9:s6.tk.length<=8:=by rw[EX.out.tk,<- hq];exact hu
    by_cases hk:k < 8
    .have ha:s6.evs.length<=99999999300:=Nat.le_trans (qis EX.out.len hj (Nat.mul_le_mul hf (Nat.mul_le_mul_left 2 (Nat.succ_le_succ hu)))) zd;have hS:=qh6 R9 (p:=(k:Int)) h2 h9 (Nat.le_trans ha zd);have ES:=q6z s6 (k:Int);have a8:wrap64 ((k:Int) + 1)=((k + 1:Nat):Int):=by unfold wrap64;omega
     have Hu:(q1z s6 (k:Int)).tab.length=(q1z s6 (k:Int)).tk.length:=by rw[ES.tb,ES.tk];exact h2
     have Hn:(q1z s6 (k:Int)).tk.length<=8:=by rw[ES.tk];exact h9
     have hn:(q1z s6 (k:Int)).evs.length<=99999999900:=Nat.le_trans (qis ES.len ha (Nat.succ_le_succ (show s6.tab.length<=8 by rw[h2];exact h9))) zd;clear ES;have HB:Hid (q4g s6 k=q2m (q1z s6 (k:Int)) (k:Int)):=rfl;generalize q1z s6 (k:Int)=s7 at *;have HH:=zhd (And.intro Hu (And.intro Hn hn));have HE5:=zhd hj;clear Hu Hn hn ha hj h2 h9 hg t8 hm hq hu hh h0 h1 hl;go_wp2_with (first
      | (go_at_call 246;refine hS.mono ?_;rintro _ w7 ⟨rfl,o7,m7,x7,hs,hz⟩;have hy:=zhd hs;clear hs;have a6:=qde hz (p:=(k:Int)) HH.out.1 HH.out.2.1 HH.out.2.2)
      | (go_at_call 247;refine a6.mono ?_;rintro _ w8 ⟨rfl,o8,m8,x8,Hc,H0⟩))
     refine⟨⟨k + 1,o8,x8,rfl,Nat.succ_le_of_lt hk,(M6.trans m7).trans m8,Hc.trans (hy.out.trans Hf.out),by rw[a1.out,HB.out];exact H0⟩,?_⟩;exact qs3 (n:=8) hk
    .have hv:k=8:=Nat.le_antisymm hf (Nat.le_of_not_lt hk);subst hv;clear hk hf;have ha:s6.evs.length<=99999999300:=Nat.le_trans (qis EX.out.len hj (Nat.mul_le_mul_left 8 (Nat.mul_le_mul_left 2 (Nat.succ_le_succ hu)))) zd;have hW:=qo6 R9 h2 h9 (Nat.le_trans ha zd);have EW:Hid (Ext (qbc (qdw s6.win) s6.tab s6.tab.length).length s6 (q36 s6)):=q2u q9h _ s6;have hi:(qbc (qdw s6.win) s6.tab s6.tab.length).length<=8:=Nat.le_trans (q99 _ _ _) (by rw[h2];exact h9);have hn:(q36 s6).evs.length<=99999999900:=Nat.le_trans (qis EW.out.len ha hi) zd;have Hv:(q36 s6).tab.length=(q36 s6).tk.length:=by rw[EW.out.tb,EW.out.tk];exact h2
     have D7:=EW.out.dn h2 (EX.out.dn hq (E5.out.dn hg H1.out.1));have Hz:(q36 s6).slk.isSome=s4.slk.isSome:=EW.out.so.trans (EX.out.so.trans E5.out.so);have a0:(q36 s6).slk≠none:=by rw[<- Option.isSome_iff_ne_none,Hz,Option.isSome_iff_ne_none];exact H1.out.2.1
     have Ht:(q36 s6).tk.length<=(q36 s6).sk.has.length:=by rw[EW.out.tk,EX.out.tk,E5.out.tk,EW.out.sh,EX.out.sh,E5.out.sh];exact H1.out.2.2
     have H7:Sta W (q36 s6):=⟨by rw[EW.out.cf,EX.out.cf];exact H5.cf,by rw[EW.out.cf,EX.out.cf];exact H5.dp,by rw[EW.out.tk];exact h9,by rw[EW.out.pt,EX.out.pt];exact H5.p8⟩
     have HH:=zhd (And.intro Hv (And.intro D7 (And.intro a0 (And.intro Ht hn))));have lt9:=R9.k.1.lt;clear Hv D7 Hz a0 Ht hn ha hi h2 h9 hg t8 hm hq hu hh h0 h1 hl hj;generalize hw7:q36 s6=s7 at *;have a2:=zhd hw7;clear hw7;go_wp2_with (first
      | (go_at_call 248;refine hW.mono ?_;rintro _ w7 ⟨rfl,o7,m7,x7,hs,hz⟩;have hy:=zhd hs;clear hs;have a7:=qc1 hz H7 (B.go (M6.trans m7) PaL.nf) HH.out.1 HH.out.2.1 HH.out.2.2.1 HH.out.2.2.2.1 HH.out.2.2.2.2)
      | (go_at_call 249;refine a7.mono ?_;rintro _ w8 ⟨rfl,o8,m8,x8,Hc,H0⟩))
     go_returns;exact⟨rfl,o8,(M6.trans m7).trans m8,x8,Hc.trans (hy.out.trans Hf.out),by rw[HE.out,if_neg H9.out,H6.out,a2.out];exact H0⟩
end
theorem qdo:ElemOf 82 81 6 48:=q1l (z := .agg #[ii 0,ii 0,ii 0,ii 0,ii 0,ii 0]) zk zk rfl zd zd
def qo9(w:World) (n:Nat) (xs:List Value) (e:TypeId) (en:Ending) (w':World):Prop:=∃ A c,en = .returned (.slice A n c)/\Own w' e 6 A n c xs/\(∀ k,q02 A k->w.heap.size<=k)/\bW w w'
theorem qkl{xs:List Value} (h:Sl w A n c 6 xs) (hcell:∀ u ∈ xs,u.oneCell'=true) (hn:n<=100000000000):cP 263 #[.slice A n c] w λe w'=>qo9 w n xs 67 e w':=by
 obtain⟨i0,z0,h7,ha,hb,hd,he⟩:=q8e.i;cases A with
 | none =>
  have hc:c=0:=h.2.2.2.1 rfl;have h9:n=0:=by have:=h.2.1;omega
  subst hc h9;obtain rfl:xs = []:=List.eq_nil_of_length_eq_zero (by simpa using h.1);have h3:=λw=>Lib.run_eql_slice_nil (P:=Tryz.prog) w 55 67 none 0 0 0 0 q8e.u;refine inC ?_;go_in;go_wp2_with fail;go_returns;exact⟨none,0,rfl,Own.nil _ _ _,(λk h=>nomatch h),bR⟩
 | some ad =>
  have h6:=zA w (.cells #[] 67);have h1:(w.alloc (.cells #[] 67)).ownsRow w.heap.size 67 6 (.slice (some ⟨w.heap.size,0,none⟩) 0 0) 0 []:=⟨zp,.inr ⟨w.heap.size,0,#[],rfl,nL,heap_alloc_new w _,nL,by unfold maxLen;omega,zp,zp⟩⟩
  have h8:=h.keep h6;have h0:∀ (j:Nat) (u:Value),xs[j]?=some u->(w.alloc (.cells #[] 67)).cell? (ad.add j)=some u:=by
   intro j u hu;have hlt:j < n * 6:=by
    have:=(List.getElem?_eq_some_iff.1 hu).1;rw[h.1]at this
    exact this
   obtain⟨b,o,e,_,hc⟩:=h8.at_ zo;cases e;rw[q11];exact hc j u hu
  have h2:=h.1;have h3:=λw=>Lib.run_eql_slice_nil (P:=Tryz.prog) w 55 67 (some ad) n c 0 0 q8e.u;refine inC ?_;go_in;go_wp2_with (at_builtin;refine wpList_append_own_at _ zr _ _ 55 zr w.heap.size 67 i0 _ 6 48 q8e.u h7 ha hb hd he zd _ 0 _ zr h1 ad n c xs zr h2 h0 hcell (by unfold maxLen;omega) zo zp ?_;intro v' w1 hown1 hg1 hnil1 hat1);go_returns;rw[Nat.zero_add,List.nil_append]at hown1
  obtain⟨A,c',rfl,h4,h5⟩:=Own.of hown1;exact⟨A,c',rfl,h4,h5,h6.grown hg1 zp (λk e=>by cases e;exact nL)⟩
theorem qkm{xs:List Value} (h:Sl w A n c 6 xs) (hcell:∀ u ∈ xs,u.oneCell'=true) (hn:n<=100000000000):cP 121 #[.slice A n c] w λe w'=>qo9 w n xs 81 e w':=by
 obtain⟨i0,z0,h7,ha,hb,hd,he⟩:=qdo.i;cases A with
 | none =>
  have hc:c=0:=h.2.2.2.1 rfl;have h9:n=0:=by have:=h.2.1;omega
  subst hc h9;obtain rfl:xs = []:=List.eq_nil_of_length_eq_zero (by simpa using h.1);have h3:=λw=>Lib.run_eql_slice_nil (P:=Tryz.prog) w 82 81 none 0 0 0 0 qdo.u;refine inC ?_;go_in;go_wp2_with fail;go_returns;exact⟨none,0,rfl,Own.nil _ _ _,(λk h=>nomatch h),bR⟩
 | some ad =>
  have h6:=zA w (.cells #[] 81);have h1:(w.alloc (.cells #[] 81)).ownsRow w.heap.size 81 6 (.slice (some ⟨w.heap.size,0,none⟩) 0 0) 0 []:=⟨zp,.inr ⟨w.heap.size,0,#[],rfl,nL,heap_alloc_new w _,nL,by unfold maxLen;omega,zp,zp⟩⟩
  have h8:=h.keep h6;have h0:∀ (j:Nat) (u:Value),xs[j]?=some u->(w.alloc (.cells #[] 81)).cell? (ad.add j)=some u:=by
   intro j u hu;have hlt:j < n * 6:=by
    have:=(List.getElem?_eq_some_iff.1 hu).1;rw[h.1]at this
    exact this
   obtain⟨b,o,e,_,hc⟩:=h8.at_ zo;cases e;rw[q11];exact hc j u hu
  have h2:=h.1;have h3:=λw=>Lib.run_eql_slice_nil (P:=Tryz.prog) w 82 81 (some ad) n c 0 0 qdo.u;refine inC ?_;go_in;go_wp2_with (at_builtin;refine wpList_append_own_at _ zr _ _ 82 zr w.heap.size 81 i0 _ 6 48 qdo.u h7 ha hb hd he zd _ 0 _ zr h1 ad n c xs zr h2 h0 hcell (by unfold maxLen;omega) zo zp ?_;intro v' w1 hown1 hg1 hnil1 hat1);go_returns;rw[Nat.zero_add,List.nil_append]at hown1
  obtain⟨A,c',rfl,h4,h5⟩:=Own.of hown1;exact⟨A,c',rfl,h4,h5,h6.grown hg1 zp (λk e=>by cases e;exact nL)⟩
end Go.Proofs.YtncfcbohiodnnaaGreat
