/- Parts of this seat's claims. -/
import Derived.Test.YtncfcbohiodnnaaGreatW21
set_option maxRecDepth 100000
set_option maxHeartbeats 6400000
namespace Go.Proofs.YtncfcbohiodnnaaGreat
open Go.RowKit
variable{w w' W wa wo W':World} {c n pt r B j b m mb q base cap id B0:Nat} {A:Option Addr} {a code what:Int} {cs:Array Value}
theorem qke{g:Nat} {l:List Int} (h:MnR w g l):cP 376 #[pp g] w λe w'=>e = .returned (.bool false)/\w=w':=by
 obtain⟨c,x,p,h⟩:=h;have kc:=h.cell;simp only[mc]at kc;refine inC ?_;go_in;go_wp2;go_returns;exact⟨rfl,rfl⟩
theorem qry{k:Nat} (h:k < 5):cP 179 #[ii k] w λe w'=>e = .returned (.bool true)/\w=w':=by
 have h1:decide ((k:Int) < 5)=true:=decide_eq_true zo;refine inC ?_;go_in;go_wp2;go_returns;exact⟨rfl,rfl⟩
theorem qvw(a c:Nat->Int) (x p:Int) {k:Nat} (h:k < 5) {v:Int} : (mc a c x p).setIfInBounds (k * 2 + 1) (ii v)=mc a (λj=>if j=k then v else c j) x p:=by
 rcases qye h with rfl | rfl | rfl | rfl | rfl <;> rfl
theorem qvx(a c:Nat->Int) (x p y q:Int):((mc a c x p).setIfInBounds 10 (ii y)).setIfInBounds 11 (ii q)=mc a c y q:=rfl
theorem qh5{g:Nat} {l:List Int} (h:MnR w g l) {k:Nat} (hk:k < 5) {q:Int} : cP 324 #[pp g,ii k,ii q] w λe w'=>e = .returned (ii (q6p l k))/\MnR w' g l/\Fr (λj=>j=g) w w':=by
 have hD:=qke h;have hI:=λw=>qry (w:=w) hk;have HR:Hid (q6p l k=q9b l k):=qi6 l k hk;obtain⟨c,x,p,h⟩:=h;have ca:w.cell? ⟨g,k * 2,none⟩=some (ii (q9b l k)):=(h.cell (k * 2)).trans (qn0 _ _ _ _ hk);have cc:w.cell? ⟨g,k * 2 + 1,none⟩=some (ii (c k)):=(h.cell (k * 2 + 1)).trans (qyf _ _ _ _ hk);have kf:=h.frozen;have lt:=h.lt;refine inC ?_;go_in;go_wp2_with (first | (go_at_call 376;refine(hD).mono ?_;rintro _ _ ⟨rfl,rfl⟩) | (go_at_call 179;refine(hI _).mono ?_;rintro _ _ ⟨rfl,rfl⟩));refine zB [(12,2)] λK' hK'=>?_;go_wp2_with fail;refine zE ?_;clear hK' K';have h2:Blk ((w.setCell ⟨g,k * 2 + 1,none⟩ (ii (wrap64 (c k + 1)))).drew) g 342 (mc (q9b l) (λj=>if j=k then wrap64 (c k + 1) else c j) x p):=by
  have:=(h.set_ (k * 2 + 1) (ii (wrap64 (c k + 1)))).drew;rwa [qvw _ _ _ _ hk]at this
 have f2:Fr (λj=>j=g) w ((w.setCell ⟨g,k * 2 + 1,none⟩ (ii (wrap64 (c k + 1)))).drew):=((Fr.refl (λj=>j=g) w).setCell (p:=⟨g,k * 2 + 1,none⟩) (λ_=>rfl) _).drew;generalize (w.setCell ⟨g,k * 2 + 1,none⟩ (ii (wrap64 (c k + 1)))).drew=w2 at *;clear ca cc kf lt;have kf:=h2.frozen;have lt:=h2.lt;have h3:=(h2.set_ 10 (ii k)).set_ 11 (ii q);have f3:Fr (λj=>j=g) w ((w2.setCell ⟨g,10,none⟩ (ii k)).setCell ⟨g,11,none⟩ (ii q)):=(f2.setCell (p:=⟨g,10,none⟩) (λ_=>rfl) _).setCell (p:=⟨g,11,none⟩) (λ_=>rfl) _;rw[qvx]at h3
 have ca:((w2.setCell ⟨g,10,none⟩ (ii k)).setCell ⟨g,11,none⟩ (ii q)).cell? ⟨g,k * 2,none⟩=some (ii (q9b l k)):=(h3.cell (k * 2)).trans (qn0 _ _ _ _ hk);have c10:(w2.cell? ⟨g,10,none⟩).isSome=true:=by rw[h2.cell];rfl
 have c11:(w2.cell? ⟨g,11,none⟩).isSome=true:=by rw[h2.cell];rfl
 have y10:=h2.cell 10;have y11:=h2.cell 11;go_wp2_with fail;go_returns;exact⟨q0w HR.out.symm,⟨_,_,_,h3⟩,f3⟩
theorem q5a{f:Ce->Nat->Ce} (hf:∀ s k,(f s k).tk.length=s.tk.length) (s:Ce):∀ k,(q1h f s k).tk.length=s.tk.length
 | 0=>rfl
 | k + 1=>by rw[q1p,hf,q5a hf s k]
theorem q7p(s:Ce) (k:Nat):(q2e s k).tk.length=s.tk.length:=by simp[q2e,q1d,q6a]
theorem qag(s:Ce) (k:Nat) (win:Int):(q0m s k win).tk.length=s.tk.length:=by unfold q0m;dsimp only;split <;> simp[q1d,q6a]
structure Sta(W:World) (s:Ce):Prop where
 cf:qcu.ok W s.cf
 dp:∀ c ∈ s.cf.pools.l,c.depth<=1000
 n8:s.tk.length<=8
 p8:s.pts.length<=1000
theorem PaL.nf:¬ PaL pt .free:=by simp[PaL,Lb.part]
theorem PaL.nd:¬ PaL pt .data:=by simp[PaL,Lb.part]
theorem Bas.le{o:Gh} (h:Bas W w o) (hb:o b ≠ .free):W.heap.size<=b:=by
 rcases Nat.lt_or_ge b W.heap.size with q | q
 .exact absurd (h.l b q) hb
 .exact q
section
variable{W w:World} {o:Gh} {pt c:Nat} {x:Cx} {s:Ce} (R:CeR w o pt c x s)
include R
theorem CeR.setMode(m:Int):Mv (λy=>y = .cell pt) o w o (w.setCell ⟨c,12,none⟩ (ii m))/\CeR (w.setCell ⟨c,12,none⟩ (ii m)) o pt c x { s with mode:=m }:=by
 have mm:Mv (λy=>y = .cell pt) o w o (w.setCell ⟨c,12,none⟩ (ii m)):=Mv.setC (L:=λy=>y = .cell pt) (Mv.refl _ o w) (q:=c) (λ_=>R.k.2) 12 _;exact⟨mm,⟨R.k.set 12 _,R.tr.go mm zp,λi hi=>by obtain⟨hp,hd,T⟩:=R.tk i hi;exact⟨hp,hd,T.go mm zp zp⟩,R.tb.go mm zp,R.me.go mm zp,R.ps.go mm zp zp zp zp,R.ob.go mm zp zp zp,R.mn.go mm zp,SkO.go R.sk mm zp,R.ev.go mm zp⟩⟩
theorem qff(h8:s.tk.length<=8):cP 327 #[pp c] w λe w'=>Aft w o pt c x.p (qes s) (.tuple #[]) e w':=by
 obtain⟨m1,R1⟩:=R.setMode 0;have kf:=R.k.1.frozen;have kc:=R.c12;have lt:=R.k.1.lt;have h1:=R1.c14;have HE:Hid (qes s=q1h q2e { s with mode:=0 } s.tk.length):=rfl;have hn:({ s with mode:=0 } : Ce).tk.length=s.tk.length:=rfl;generalize ({ s with mode:=0 } : Ce)=s1 at *;rw[hn]at h1
 have HN:=zhd hn;clear hn;obtain⟨wo,rfl⟩:∃ wo:World,wo=w:=⟨_,rfl⟩
 refine inC ?_;go_in;go_wp2_with fail;go_loopw [11] (λi wr=>∃ (k:Nat) (o':Gh) (x':Cx),i = .int .i64 k/\k<=s.tk.length/\Mv (PaL pt) o wo o' wr/\x'.p=x.p/\CeR wr o' pt c x' (q1h q2e s1 k)) (λi _=>s.tk.length - (intOf i).toNat)
 case atStart=>exact⟨0,o,x,rfl,Nat.zero_le _,m1.mono (by rintro _ rfl;rfl),rfl,R1⟩
 case round =>
  clear h1 kf kc lt m1;obtain⟨k,o',x',rfl,hkn,M,h2,R2⟩:=hrel;have h0:=zhd h2;clear h2;by_cases hk:k < s.tk.length
  .have hw1:wrap64 ((k:Int) + 1)=((k + 1:Nat):Int):=by unfold wrap64;omega
   have hL:(q1h q2e s1 k).tk.length=s.tk.length:=(q5a q7p s1 k).trans HN.out;have hS:=q6e R2 (k:=k) (by rw[hL];exact hk) (by rw[hL];exact h8);rw[<- q1p q2e s1 k]at hS
   clear hL;go_wp2_with (go_at_call 325;refine hS.mono ?_;rintro _ w3 ⟨rfl,o3,m3,x3,h3,R3⟩);exact⟨⟨k + 1,o3,x3,by go_num,hk,M.trans m3,h3.trans h0.out,R3⟩,by simp[intOf];omega⟩
  .obtain rfl:k=s.tk.length:=zo;go_wp2_with fail;go_returns;exact⟨rfl,o',M,x',h0.out,by rw[HE.out];exact R2⟩
theorem qah{cold:Bool} (H:Sta W s) (B:Bas W w o):cP 326 #[pp c,.bool cold] w λe w'=>Aft w o pt c x.p (q2s s cold) (.tuple #[]) e w':=by
 have lt:=R.k.1.lt;have hy:=R.c16;have hz:=R.c18;have h9:=Me.clear_any R.me.1;have h1:∀ (w1:World),cold=false/\w1=w\/cold=true/\Me.MemX w1 x.g x.B x.mA x.mc x.PQ s.segs (s.bs.map Me.zl)/\Fr (Me.QS x.PQ s.segs.length) w w1->Mv (PaL pt) o w o w1/\CeR w1 o pt c x { s with bs:=if cold=true then s.bs.map Me.zl else s.bs }:=λw1 h=>by
  rcases h with ⟨rfl,rfl⟩ | ⟨rfl,h,f⟩
  .exact⟨Mv.refl _ _ _,R⟩
  .have m:=R.me.mv f;exact⟨m.mono (by rintro _ rfl;rfl),R.setMem m h⟩
 have h2:∀ (w1:World),Mv (PaL pt) o w o w1->CeR w1 o pt c x { s with bs:=if cold=true then s.bs.map Me.zl else s.bs }->cP 178 #[pp x.ob] w1 λe w'=>e = .returned (.tuple #[])/\∃ o' x',x'.p=x.p/\Mv (PaL pt) o w o' w'/\Bas W w' o'/\CeR w' o' pt c x' { s with bs:=if cold=true then s.bs.map Me.zl else s.bs,obs:=q4r s.cf }:=λw1 m R1=>by
  have B1:=B.go m PaL.nf;refine(qbw H.cf B1.b (B1.le (by rw[R1.ob.k.2];simp)) H.dp R1.ob.k).mono ?_;rintro _ w' ⟨rfl,o',x',m2,R2⟩;have m3:Mv (ObL pt) o w1 o' w':=m2.mono λ_ h => .inl h;have m4:Mv (PaL pt) o w1 o' w':=m2.mono (by rintro _ rfl;rfl);exact⟨rfl,o',{ x with ox:=x' },rfl,m.trans m4,B1.go m4 PaL.nf,R1.setObs m3 R2⟩
 have h3:∀ (w1:World) (o1:Gh) (x1:Cx) (s1:Ce),x1.p=x.p->Mv (PaL pt) o w o1 w1->CeR w1 o1 pt c x1 s1->s1.pts.length<=1000->cP 378 #[pp x1.p] w1 λe w'=>e = .returned (.tuple #[])/\∃ o',Mv (PaL pt) o w o' w'/\CeR w' o' pt c x1 { s1 with pts:=q3r s1.pts }:=λw1 o1 x1 s1 hx m R1 hp=>by
  refine(qkb R1.ps hp).mono ?_;rintro _ w' ⟨rfl,o',m2,P2⟩;exact⟨rfl,o',m.trans (m2.mono (by rintro _ ⟨k,(rfl | rfl)⟩ <;> rfl)),R1.setPts m2 P2⟩
 have HE:Hid (q2s s cold=q1h (λs k=>q0m s k s.win) (q1h q2e { s with bs:=if cold=true then s.bs.map Me.zl else s.bs,obs:=q4r s.cf,pts:=q3r s.pts } s.tk.length) s.tk.length):=rfl;have h4:∀ (w1:World) (o1:Gh) (x1:Cx) , CeR w1 o1 pt c x1 { s with bs:=if cold=true then s.bs.map Me.zl else s.bs,obs:=q4r s.cf }->w1.cell? ⟨c,17,none⟩=some (pp x1.p)/\c < w1.heap.size:=λw1 o1 x1 h=>⟨h.c17,h.k.1.lt⟩
 have h5:∀ (w1:World) (o1:Gh) (x1:Cx) (s1:Ce),CeR w1 o1 pt c x1 s1->s1.tk.length=s.tk.length->w1.cell? ⟨c,14,none⟩=some (.slice x1.tr.A s.tk.length x1.tr.c)/\w1.cell? ⟨c,13,none⟩=some (ii s1.win)/\c < w1.heap.size:=λw1 o1 x1 s1 h e=>⟨e ▸ h.c14,h.c13,h.k.1.lt⟩
 have hn:({ s with bs:=if cold=true then s.bs.map Me.zl else s.bs,obs:=q4r s.cf,pts:=q3r s.pts } : Ce).tk.length=s.tk.length:=rfl;have H0:=H.p8;have h8:=H.n8;generalize hbs:(if cold=true then s.bs.map Me.zl else s.bs)=bs' at *;have HBS:=zhd hbs;clear hbs;generalize hs3:({ s with bs:=bs',obs:=q4r s.cf,pts:=q3r s.pts } : Ce)=s3 at *;have HN:=zhd hn;have H3:=zhd hs3;clear hn hs3;obtain⟨n,hn⟩:∃ n,n=s.tk.length:=⟨_,rfl⟩
 have HNn:=zhd hn;have hg:n<=8:=zo;rw[<- hn]at HE h5 HN
 clear hn;obtain⟨wo,rfl⟩:∃ wo:World,wo=w:=⟨_,rfl⟩
 cases cold with
 | true =>
  refine inC ?_;go_in;go_wp2_with (first | (go_at_call 377;refine h9.mono ?_;rintro _ w1 ⟨rfl,M1,f1⟩;obtain⟨m1,R1⟩:=h1 w1 (.inr ⟨rfl,M1,f1⟩);have hs:=R1.c18;have ld:=R1.k.1.lt) | (go_at_call 178;refine(h2 _ m1 R1).mono ?_;rintro _ w2 ⟨rfl,o2,x2,hf,m2,B2,R2⟩;obtain⟨hr,hu⟩:=h4 w2 o2 x2 R2;have hb:=zhd hf;clear hf) | (go_at_call 378;refine(h3 w2 o2 x2 _ hb.out m2 R2 H0).mono ?_;rintro _ w3 ⟨rfl,o3,m3,R3⟩;have R3:CeR w3 o3 pt c x2 s3:=(congrArg (CeR w3 o3 pt c x2) H3.out).mp R3;obtain⟨hq,hm,hv⟩:=h5 w3 o3 x2 _ R3 HN.out));clear h9 h1 h2 h3 h4 hy hz lt;go_loopw [27] (λi wr=>∃ (k:Nat) (o':Gh) (x':Cx),i = .int .i64 k/\k<=n/\Mv (PaL pt) o wo o' wr/\x'.p=x.p/\CeR wr o' pt c x' (q1h q2e s3 k)) (λi _=>n - (intOf i).toNat)
  case atStart=>exact⟨0,o3,x2,rfl,Nat.zero_le _,m3,hb.out,R3⟩
  case round =>
   clear hq hm hv R3 m3 m1 R1 hs ld M1 f1 m2 B2 R2 hr hu;obtain⟨k,o',x',rfl,H2,M,h6,R4⟩:=hrel;have h0:=zhd h6;clear h6;have hL:(q1h q2e s3 k).tk.length=n:=(q5a q7p s3 k).trans HN.out;have HL:=zhd hL;clear hL;by_cases hk:k < n
   .have ht:wrap64 ((k:Int) + 1)=((k + 1:Nat):Int):=by unfold wrap64;omega
    have hS:=q6e R4 (k:=k) (by rw[HL.out];exact hk) (by rw[HL.out];exact hg);rw[<- q1p q2e s3 k]at hS
    go_wp2_with (go_at_call 325;refine hS.mono ?_;rintro _ w3 ⟨rfl,o3,m3,x3,ha,R3⟩);exact⟨⟨k + 1,o3,x3,by go_num,hk,M.trans m3,ha.trans h0.out,R3⟩,by simp[intOf];omega⟩
   .obtain rfl:k=n:=zo;obtain⟨hd,hc,le⟩:=h5 wr o' x' _ R4 HL.out;generalize q1h q2e s3 k=s4 at *;go_wp2_with fail;go_loopw [39] (λi wr=>∃ (j:Nat) (o':Gh) (x':Cx),i = .int .i64 j/\j<=k/\Mv (PaL pt) o wo o' wr/\x'.p=x.p/\CeR wr o' pt c x' (q1h (λs k=>q0m s k s.win) s4 j)) (λi _=>k - (intOf i).toNat)
    case atStart=>exact⟨0,o',x',rfl,Nat.zero_le _,M,h0.out,R4⟩
    case round =>
     clear hd hc le R4 M h0;obtain⟨j,o',x',rfl,H1,M,h6,R5⟩:=hrel;have h0:=zhd h6;clear h6;have hL:(q1h (λs k=>q0m s k s.win) s4 j).tk.length=k:=(q5a (λs k=>qag s k s.win) s4 j).trans HL.out;have h7:=zhd hL;clear hL;by_cases hj:j < k
     .have ht:wrap64 ((j:Int) + 1)=((j + 1:Nat):Int):=by unfold wrap64;omega
      have hS:=q61 R5 (k:=j) (win:=(q1h (λs k=>q0m s k s.win) s4 j).win) (by rw[h7.out];exact hj) (by rw[h7.out];exact hg);obtain⟨hd,hc,le⟩:=h5 _ o' x' _ R5 h7.out;have he:=q1p (λs k=>q0m s k s.win) s4 j;have hh:Hid (q0m (q1h (λs k=>q0m s k s.win) s4 j) j (q1h (λs k=>q0m s k s.win) s4 j).win=q1h (λs k=>q0m s k s.win) s4 (j + 1)):=he.symm;clear he;rw[hh.out]at hS
      go_wp2_with (go_at_call 122;refine hS.mono ?_;rintro _ w3 ⟨rfl,o3,m3,x3,ha,R3⟩);exact⟨⟨j + 1,o3,x3,by go_num,hj,M.trans m3,ha.trans h0.out,R3⟩,by simp[intOf];omega⟩
     .obtain rfl:j=k:=zo;go_wp2_with fail;go_returns;exact⟨rfl,o',M,x',h0.out,by rw[HE.out];exact R5⟩
 | false =>
  obtain⟨m1,R1⟩:=h1 _ (.inl ⟨rfl,rfl⟩);have hs:=R1.c18;have ld:=R1.k.1.lt;refine inC ?_;go_in;go_wp2_with (first | (go_at_call 178;refine(h2 _ m1 R1).mono ?_;rintro _ w2 ⟨rfl,o2,x2,hf,m2,B2,R2⟩;obtain⟨hr,hu⟩:=h4 w2 o2 x2 R2;have hb:=zhd hf;clear hf) | (go_at_call 378;refine(h3 w2 o2 x2 _ hb.out m2 R2 H0).mono ?_;rintro _ w3 ⟨rfl,o3,m3,R3⟩;have R3:CeR w3 o3 pt c x2 s3:=(congrArg (CeR w3 o3 pt c x2) H3.out).mp R3;obtain⟨hq,hm,hv⟩:=h5 w3 o3 x2 _ R3 HN.out));clear h9 h1 h2 h3 h4 hy hz lt;go_loopw [27] (λi wr=>∃ (k:Nat) (o':Gh) (x':Cx),i = .int .i64 k/\k<=n/\Mv (PaL pt) o wo o' wr/\x'.p=x.p/\CeR wr o' pt c x' (q1h q2e s3 k)) (λi _=>n - (intOf i).toNat)
  case atStart=>exact⟨0,o3,x2,rfl,Nat.zero_le _,m3,hb.out,R3⟩
  case round =>
   clear hq hm hv R3 m3 m1 R1 hs ld m2 B2 R2 hr hu;obtain⟨k,o',x',rfl,H2,M,h6,R4⟩:=hrel;have h0:=zhd h6;clear h6;have hL:(q1h q2e s3 k).tk.length=n:=(q5a q7p s3 k).trans HN.out;have HL:=zhd hL;clear hL;by_cases hk:k < n
   .have ht:wrap64 ((k:Int) + 1)=((k + 1:Nat):Int):=by unfold wrap64;omega
    have hS:=q6e R4 (k:=k) (by rw[HL.out];exact hk) (by rw[HL.out];exact hg);rw[<- q1p q2e s3 k]at hS
    go_wp2_with (go_at_call 325;refine hS.mono ?_;rintro _ w3 ⟨rfl,o3,m3,x3,ha,R3⟩);exact⟨⟨k + 1,o3,x3,by go_num,hk,M.trans m3,ha.trans h0.out,R3⟩,by simp[intOf];omega⟩
   .obtain rfl:k=n:=zo;obtain⟨hd,hc,le⟩:=h5 wr o' x' _ R4 HL.out;generalize q1h q2e s3 k=s4 at *;go_wp2_with fail;go_loopw [39] (λi wr=>∃ (j:Nat) (o':Gh) (x':Cx),i = .int .i64 j/\j<=k/\Mv (PaL pt) o wo o' wr/\x'.p=x.p/\CeR wr o' pt c x' (q1h (λs k=>q0m s k s.win) s4 j)) (λi _=>k - (intOf i).toNat)
    case atStart=>exact⟨0,o',x',rfl,Nat.zero_le _,M,h0.out,R4⟩
    case round =>
     clear hd hc le R4 M h0;obtain⟨j,o',x',rfl,H1,M,h6,R5⟩:=hrel;have h0:=zhd h6;clear h6;have hL:(q1h (λs k=>q0m s k s.win) s4 j).tk.length=k:=(q5a (λs k=>qag s k s.win) s4 j).trans HL.out;have h7:=zhd hL;clear hL;by_cases hj:j < k
     .have ht:wrap64 ((j:Int) + 1)=((j + 1:Nat):Int):=by unfold wrap64;omega
      have hS:=q61 R5 (k:=j) (win:=(q1h (λs k=>q0m s k s.win) s4 j).win) (by rw[h7.out];exact hj) (by rw[h7.out];exact hg);obtain⟨hd,hc,le⟩:=h5 _ o' x' _ R5 h7.out;have he:=q1p (λs k=>q0m s k s.win) s4 j;have hh:Hid (q0m (q1h (λs k=>q0m s k s.win) s4 j) j (q1h (λs k=>q0m s k s.win) s4 j).win=q1h (λs k=>q0m s k s.win) s4 (j + 1)):=he.symm;clear he;rw[hh.out]at hS
      go_wp2_with (go_at_call 122;refine hS.mono ?_;rintro _ w3 ⟨rfl,o3,m3,x3,ha,R3⟩);exact⟨⟨j + 1,o3,x3,by go_num,hj,M.trans m3,ha.trans h0.out,R3⟩,by simp[intOf];omega⟩
     .obtain rfl:j=k:=zo;go_wp2_with fail;go_returns;exact⟨rfl,o',M,x',h0.out,by rw[HE.out];exact R5⟩
end
theorem Mv.pa{l:Lb} {o o':Gh} (h:Mv (λy=>y=l) o w o' w') (hl:l.part=some pt):Mv (PaL pt) o w o' w':=h.mono (by rintro _ rfl;exact hl)
theorem Sta.note{s:Ce} (h:Sta W s) (k call code v:Int):Sta W (q0i s k call code v):=⟨h.cf,h.dp,h.n8,h.p8⟩
section
variable{W w:World} {o:Gh} {pt c:Nat} {x:Cx} {s:Ce} (R:CeR w o pt c x s)
include R
theorem q8f{k kd:Nat} (H:Sta W s) (B:Bas W w o) (hk:k < s.tk.length) (hkd:kd < 5) (he:s.evs.length<=100000000000):cP 289 #[pp c,ii kd,ii k] w λe w'=>Aft w o pt c x.p (q1c s kd k) (.tuple #[]) e w':=by
 have lt:=R.k.1.lt;have c19:=R.c19;have hF:=qh5 R.mn.1 hkd (q:=k);have h7:=H.n8;have HE:Hid (q1c s kd k=if q6p s.cf.acts.l kd=1 then q2e (q0i s k (wrap64 (-1 - kd)) (q6p s.cf.acts.l kd) 0) k else if q6p s.cf.acts.l kd=2 then q0m (q2e (q0i s k (wrap64 (-1 - kd)) (q6p s.cf.acts.l kd) 0) k) k (q0i s k (wrap64 (-1 - kd)) (q6p s.cf.acts.l kd) 0).win else if q6p s.cf.acts.l kd=3 then q2s (q0i s k (wrap64 (-1 - kd)) (q6p s.cf.acts.l kd) 0) true else if q6p s.cf.acts.l kd=4 then qes (q0i s k (wrap64 (-1 - kd)) (q6p s.cf.acts.l kd) 0) else q0i s k (wrap64 (-1 - kd)) (q6p s.cf.acts.l kd) 0):=rfl;have hb:wrap64 (-1 - (kd:Int)) = -1 - (kd:Int):=by unfold wrap64;omega
 have hN:∀ w1 act,MnR w1 x.m s.cf.acts.l->Fr (λj=>j=x.m) w w1->cP 288 #[pp c,ii k,ii (wrap64 (-1 - (kd:Int))),ii act,ii 0] w1 λe w'=>e = .returned (.tuple #[])/\∃ o' x',x'.p=x.p/\Mv (PaL pt) o w o' w'/\Bas W w' o'/\CeR w' o' pt c x' (q0i s k (wrap64 (-1 - (kd:Int))) act 0):=λw1 act hm f=>by
  have m1:Mv (λy=>y = .mon pt) o w o w1:=Mv.of f λj hj=>by rw[hj];exact R.mn.2
  refine(q9f (R.setMon m1 hm) he).mono ?_;rintro _ w' ⟨rfl,o',m2,x',hx,R2⟩;have m3:=(m1.pa rfl).trans m2;exact⟨rfl,o',x',hx,m3,B.go m3 PaL.nf,R2⟩
 have hd:∀ {w1:World} {o1:Gh} {x1:Cx} {s1:Ce},CeR w1 o1 pt c x1 s1->w1.cell? ⟨c,13,none⟩=some (ii s1.win)/\c < w1.heap.size:=λh=>⟨h.c13,h.k.1.lt⟩
 have h8:∀ act,(q0i s k (wrap64 (-1 - (kd:Int))) act 0).tk.length=s.tk.length:=λ_=>rfl;have h9:∀ act,Sta W (q0i s k (wrap64 (-1 - (kd:Int))) act 0):=λ_=>H.note _ _ _ _;rw[hb]at HE hN h8 h9
 generalize q6p s.cf.acts.l kd=act at *;have h1:=h8 act;have ha:=h9 act;have h6:=λw1=>hN w1 act;have HW:Hid ((q0i s k (-1 - (kd:Int)) act 0).win=s.win):=rfl;generalize q0i s k (-1 - (kd:Int)) act 0=s1 at *;have h5:=zhd h1;clear hN h8 h9 h1 hb H B;by_cases a1:act=1
 .have h4:=zhd (HE.out.trans (if_pos a1));subst a1;refine inC ?_;go_in;go_wp2_with (first | (go_at_call 324;refine hF.mono ?_;rintro _ w1 ⟨rfl,hm,f1⟩) | (go_at_call 288;refine(h6 w1 hm f1).mono ?_;rintro _ w2 ⟨rfl,o2,x2,h0,m2,B2,R2⟩;have h2:=zhd h0;clear h0) | (go_at_call 325;refine(q6e R2 (by rw[h5.out];exact hk) (by rw[h5.out];exact h7)).mono ?_;rintro _ w3 ⟨rfl,o3,m3,x3,h3,R3⟩));go_returns;exact⟨rfl,o3,m2.trans m3,x3,h3.trans h2.out,by rw[h4.out];exact R3⟩
 replace HE:=zhd (HE.out.trans (if_neg a1));have b1:(act == 1)=false:=beq_eq_false_iff_ne.2 a1;by_cases a2:act=2
 .have h4:=zhd (HE.out.trans (if_pos a2));subst a2;clear b1 a1;refine inC ?_;go_in;go_wp2_with (first | (go_at_call 324;refine hF.mono ?_;rintro _ w1 ⟨rfl,hm,f1⟩) | (go_at_call 288;refine(h6 w1 hm f1).mono ?_;rintro _ w2 ⟨rfl,o2,x2,h0,m2,B2,R2⟩;have h2:=zhd h0;clear h0) | (go_at_call 325;refine(q6e R2 (by rw[h5.out];exact hk) (by rw[h5.out];exact h7)).mono ?_;rintro _ w3 ⟨rfl,o3,m3,x3,h3,R3⟩;obtain⟨e13,le⟩:=hd R3;have hc:=zhd (h3.trans h2.out);clear h3) | (go_at_call 122;refine(q61 R3 (by rw[q7p,h5.out];exact hk) (by rw[q7p,h5.out];exact h7)).mono ?_;rintro _ w4 ⟨rfl,o4,m4,x4,hf,R4⟩));go_returns;exact⟨rfl,o4,(m2.trans m3).trans m4,x4,hf.trans hc.out,by rw[h4.out];exact R4⟩
 replace HE:=zhd (HE.out.trans (if_neg a2));have b2:(act == 2)=false:=beq_eq_false_iff_ne.2 a2;by_cases a3:act=3
 .have h4:=zhd (HE.out.trans (if_pos a3));subst a3;clear b1 a1 b2 a2;refine inC ?_;go_in;go_wp2_with (first | (go_at_call 324;refine hF.mono ?_;rintro _ w1 ⟨rfl,hm,f1⟩) | (go_at_call 288;refine(h6 w1 hm f1).mono ?_;rintro _ w2 ⟨rfl,o2,x2,h0,m2,B2,R2⟩;have h2:=zhd h0;clear h0) | (go_at_call 326;refine(qah R2 ha B2).mono ?_;rintro _ w3 ⟨rfl,o3,m3,x3,h3,R3⟩));go_returns;exact⟨rfl,o3,m2.trans m3,x3,h3.trans h2.out,by rw[h4.out];exact R3⟩
 replace HE:=zhd (HE.out.trans (if_neg a3));have b3:(act == 3)=false:=beq_eq_false_iff_ne.2 a3;by_cases a4:act=4
 .have h4:=zhd (HE.out.trans (if_pos a4));subst a4;clear b1 a1 b2 a2 b3 a3;refine inC ?_;go_in;go_wp2_with (first | (go_at_call 324;refine hF.mono ?_;rintro _ w1 ⟨rfl,hm,f1⟩) | (go_at_call 288;refine(h6 w1 hm f1).mono ?_;rintro _ w2 ⟨rfl,o2,x2,h0,m2,B2,R2⟩;have h2:=zhd h0;clear h0) | (go_at_call 327;refine(qff R2 (by rw[h5.out];exact h7)).mono ?_;rintro _ w3 ⟨rfl,o3,m3,x3,h3,R3⟩));go_returns;exact⟨rfl,o3,m2.trans m3,x3,h3.trans h2.out,by rw[h4.out];exact R3⟩
 replace HE:=zhd (HE.out.trans (if_neg a4));have b4:(act == 4)=false:=beq_eq_false_iff_ne.2 a4;clear a1 a2 a3 a4;refine inC ?_;go_in;go_wp2_with (first | (go_at_call 324;refine hF.mono ?_;rintro _ w1 ⟨rfl,hm,f1⟩) | (go_at_call 288;refine(h6 w1 hm f1).mono ?_;rintro _ w2 ⟨rfl,o2,x2,h0,m2,B2,R2⟩;have h2:=zhd h0;clear h0));go_returns;exact⟨rfl,o2,m2,x2,h2.out,by rw[HE.out];exact R2⟩
theorem q4b{k:Nat} {call v:Int} (hk:k < s.tk.length) (h8:s.tk.length<=8) (he:s.evs.length<=100000000000):cP 292 #[pp c,ii k,ii call,ii code,ii v] w λe w'=>Aft w o pt c x.p (q09 s k call code v) (.tuple #[]) e w':=by
 have lt:=R.k.1.lt;have hN:=q9f R he (k:=k) (call:=call) (code:=code) (v:=v);have HE:Hid (q09 s k call code v=q6a (q1d (q0i s k call code v) k { atD Tk0 (q0i s k call code v).tk k with data:=[] }) (setS (q1d (q0i s k call code v) k { atD Tk0 (q0i s k call code v).tk k with data:=[] }).tab (q1d (q0i s k call code v) k { atD Tk0 (q0i s k call code v).tk k with data:=[] }).tn k 1).2):=rfl;have h1:(q0i s k call code v).tk.length=s.tk.length:=rfl;generalize q0i s k call code v=s1 at *;have h0:=zhd h1;clear h1;have h3:i64 (k:Int):=by unfold i64;omega
 have hT:=λ{w:World} {l:List Rw} {tn:Int} {t mb:Nat} (h:TbR w t mb l tn)=>qcz h (k:=k) (s:=1) h3;clear h3;have hD:∀ {w1:World} {o1:Gh} {x1:Cx},CeR w1 o1 pt c x1 s1->∃ a,w1.cell? ⟨c,14,none⟩=some (.slice (some ⟨a,0,none⟩) s.tk.length x1.tr.c)/\a < w1.heap.size/\w1.cell? ⟨a,k,none⟩=some (pp (atN x1.tr.qs k))/\(∀ i,w1.frozen? ⟨atN x1.tr.qs k,i,none⟩=false)/\atN x1.tr.qs k < w1.heap.size/\(w1.cell? ⟨atN x1.tr.qs k,4,none⟩).isSome=true/\c < w1.heap.size/\∃ u,w1.cell? ⟨atN x1.tr.qs k,4,none⟩=some u:=λ{w1 o1 x1} h=>by
  have h2:k < s1.tk.length:=by rw[h0.out];exact hk
  obtain⟨hp,hd,T⟩:=h.tk k h2;obtain⟨a,hA,h7,h6⟩:=h.task h2;refine⟨a,by rw[<- h0.out,<- hA];exact h.c14,h7,h6,T.k.1.frozen,T.k.1.lt,by rw[T.k.1.cell];rfl,h.k.1.lt,_,T.k.1.cell 4⟩
 refine inC ?_;go_in;go_wp2_with (first | (go_at_call 288;refine hN.mono ?_;rintro _ w2 ⟨rfl,o2,m2,x2,h4,R2⟩;have h5:=zhd h4;clear h4;obtain⟨a,e14,al,ac,tf,tl,ts,le,u,tc⟩:=hD R2;obtain⟨m3,R3⟩:=R2.data (k:=k) (by rw[h0.out];exact hk);have f15:=R3.c15) | (go_at_call 331;refine(hT R3.tb.1).mono ?_;rintro _ w4 ⟨rfl,T4,f4⟩));go_returns;have m4:=R3.tb.mv f4;exact⟨rfl,o2,(m2.trans (m3.pa rfl)).trans (m4.pa rfl),x2,h5.out,by rw[HE.out];exact R3.setTab m4 T4⟩
end
theorem qfg(P:Nat->Prop):∀ n,P n->∃ m,P m/\∀ k,P k->m<=k:=by
 intro n
 induction n using Nat.strongRecOn with
 | ind n ih =>
  intro h;by_cases q:∃ k,k < n/\P k
  .obtain⟨k,hk,hp⟩:=q;exact ih k hk hp
  .exact⟨n,h,λk hk=>Nat.le_of_not_lt λh'=>q ⟨k,h',hk⟩⟩
noncomputable def q3w(P:Nat->Prop):Nat:=open Classical in if h:∃ m,P m/\∀ k,P k->m<=k then h.choose else 0
theorem q16{P:Nat->Prop} (h:P n):P (q3w P)/\∀ k,P k->q3w P<=k:=by
 have hx:=qfg P n h;unfold q3w;rw[dif_pos hx];exact hx.choose_spec
def q3f(l:List Rw):Nat:=(l.filter λx=>x.state == 2).length
theorem q7q(l:List Rw):q3f l<=l.length:=List.length_filter_le _ _
theorem qfh:∀ (l:List Rw) (j:Nat) (y:Rw),j < l.length->(atD Rw0 l j).state=2->y.state≠2->q3f (l.set j y) + 1=q3f l
 | [],j,y,h,_,_=>absurd h zp
 | x :: l,0,y,_,h2,h3=>by
  have h0:x.state=2:=h2;simp[q3f,h0,h3]
 | x :: l,j + 1,y,h,h2,h3=>by
  have:=qfh l j y (by simpa using h) h2 h3;unfold q3f at this ⊢;rw[List.set_cons_succ,List.filter_cons,List.filter_cons];split <;> (try simp only[List.length_cons]) <;> omega
theorem qdd{p:Rw->Bool} {l:List Rw} : ∀ {k:Nat},0<=q22 p l k->∃ j:Nat,q22 p l k=j/\j < k/\p (atD Rw0 l j)=true
 | 0,h=>by unfold q22 at h;omega
 | k + 1,h=>by
  have ih:=qdd (p:=p) (l:=l) (k:=k);have hs:q22 p l (k + 1)=_:=rfl
  conv at hs=>rhs;unfold q22
  generalize q22 p l k=b at *;rw[hs]at h ⊢
  split at h
  .rename_i q;rw[if_pos q];simp only[Bool.and_eq_true]at q;exact⟨k,rfl,zo,q.1⟩
  .rename_i q;rw[if_neg q];obtain⟨j,h1,h2,h3⟩:=ih h;exact⟨j,h1,zo,h3⟩
theorem qkf{l:List Rw} {tn:Int} (hj:j < l.length):(setS l tn j 1).2.1=l.set j (qi1 tn (atD Rw0 l j) 1):=by
 unfold setS;rw[if_pos ⟨zo,zo⟩,if_neg zo,Int.toNat_natCast]
theorem q7r{s:Ce} {call v:Int} (hj:j < s.tab.length):(q09 s j call code v).tab=s.tab.set j (qi1 s.tn (atD Rw0 s.tab j) 1):=by
 unfold q09;simp only[q6a,q1d,q0i];exact qkf hj
theorem q4f{s:Ce} {call v:Int} (hj:j < s.tab.length) (h2:(atD Rw0 s.tab j).state=2):q3f (q09 s j call code v).tab + 1=q3f s.tab:=by
 rw[q7r hj];exact qfh _ _ _ hj h2 (by simp[qi1])
theorem q7s{s:Ce} {call v:Int} (hj:j < s.tab.length):(q09 s j call code v).tab.length=s.tab.length:=by rw[q7r hj,List.length_set]
theorem q8v(s:Ce) (j:Nat) (call code v:Int):(q09 s j call code v).tk.length=s.tk.length:=by simp[q09,q6a,q1d,q0i]
theorem q7t(s:Ce) (j:Nat) (call code v:Int):(q09 s j call code v).evs.length=s.evs.length + 1:=by simp[q09,q6a,q1d,q0i]
theorem q3x{s:Ce} {call:Int} (h:0<=q0e s call what):∃ j:Nat,q0e s call what=j/\j < s.tab.length/\(atD Rw0 s.tab j).state=2:=by
 obtain⟨j,h1,h2,h3⟩:=qdd h;refine⟨j,h1,h2,?_⟩;simp only[q6o,Bool.and_eq_true,beq_iff_eq]at h3;exact h3.1.1
theorem qin{l:List Ps} {k:Int} {q:Bool} {b:List UInt8} (h:(q10 l k q b).1≠0):(q10 l k q b).2=l:=by
 unfold q10 at h ⊢;split
 .rfl
 .split
  .rfl
  .split
   .rfl
   .rename_i h1 h2 h3;rw[if_neg h1,if_neg h2,if_neg h3]at h
    exact absurd rfl h
theorem qvy{l:List Ps} {k:Int} {q:Bool} (h:(q44 l k q).2.1≠0):(q44 l k q).2.2=l:=by
 unfold q44 at h ⊢;split
 .rfl
 .split
  .rfl
  .rename_i h1 h2;rw[if_neg h1,if_neg h2]at h
   exact absurd rfl h
theorem q1s{f:Ce->Option Ce} {s:Ce} (h:f s=none):∀ n,q3u f n s=s
 | 0=>rfl
 | n + 1=>by unfold q3u;rw[h]
theorem q7u{f:Ce->Option Ce} {s s':Ce} (h:f s=some s') {n:Nat} (hn:0 < n):q3u f n s=q3u f (n - 1) s':=by
 obtain⟨m,rfl⟩:∃ m,n=m + 1:=⟨n - 1,zo⟩
 show(match f s with | none=>s | some s'=>q3u f m s')=_;rw[h];rfl
section
variable{W w:World} {o:Gh} {pt c:Nat} {x:Cx} {s:Ce} (R:CeR w o pt c x s)
include R
theorem qbx{k:Nat} {call:Int} {bA:Option Addr} {bn bc:Nat} {b:List UInt8} (hb:SlB w bA bn bc b) (hk:k < s.tk.length) (h8:s.tk.length<=8) (he:s.evs.length<=100000000000):cP 294 #[pp c,ii k,ii call,.slice bA bn bc] w λe w'=>Aft w o pt c x.p (q15 s k call b) (.tuple #[]) e w':=by
 have lt:=R.k.1.lt;have h1:=R.c14;have h2:=R.c16;obtain⟨hp,hd,T⟩:=R.tk k hk;obtain⟨tc,tl⟩:=T.k.1.cl;obtain⟨a,hA,h4,h3⟩:=R.task hk;rw[hA]at h1
 have h6:=T.a;clear hA T;have h0:=(Below.refl w.heap.size w).drew;have h5:=hb.2;subst h5;have hS:=Me.store_any (R.me.1.keep h0) h6 (hb.keep h0);have HE:Hid (q15 s k call b=q09 (q3t s (atD Tk0 s.tk k).addr b) k call 0 b.length):=rfl;have HS:Hid (q3t s (atD Tk0 s.tk k).addr b={ s with bs:=(Me.storeR s.segs s.bs (atD Tk0 s.tk k).addr b).1 }):=rfl;generalize atD Tk0 s.tk k=t at *;refine inC ?_;go_in;go_wp2_with fail;refine zB [(15,2)] λK' hK'=>?_;go_wp2_with fail;refine hS.mono ?_;rintro _ w2 ⟨rfl,M2,f2⟩;refine zE ?_;clear hK' K';have m0:Mv (λy=>y = .mem pt) o w o w2:=(Mv.below h0).trans ((R.me.go (L:=λ_=>False) (Mv.below h0) id).mv f2);have R2:=R.setMem m0 M2;rw[<- HS.out]at R2
 have hC:=q4b R2 (k:=k) (call:=call) (code:=0) (v:=b.length) (by rw[HS.out];exact hk) (by rw[HS.out];exact h8) (by rw[HS.out];exact he);clear h1 h2 tc tl h4 h3 hS M2 f2 lt;go_wp2_with (go_at_call 292;refine hC.mono ?_;rintro _ w3 ⟨rfl,o3,m3,x3,h7,R3⟩);go_returns;exact⟨rfl,o3,(m0.pa rfl).trans m3,x3,h7,by rw[HE.out];exact R3⟩
end
def LpQ(wo:World) (o:Gh) (pt c p:Nat) (f:Ce->Option Ce) (call what:Int) (s tgt:Ce) (v:Value) (wr:World) (n:Nat):Prop :=
 ∃ (o':Gh) (x':Cx) (s':Ce) (m:Nat),v=ii (q0e s' call what)/\Mv (PaL pt) o wo o' wr/\x'.p=p/\CeR wr o' pt c x' s'/\q3u f m s'=tgt/\q3f s'.tab=n/\n < m/\s'.tk.length=s.tk.length/\s'.tab.length=s.tk.length/\s'.evs.length + n<=s.evs.length + s.tk.length
section
variable{w:World} {o:Gh} {pt c:Nat} {x:Cx} {s:Ce} (R:CeR w o pt c x s)
include R
theorem qh6{p:Int} (hl:s.tab.length=s.tk.length) (h8:s.tk.length<=8) (he:s.evs.length<=99999999900):cP 246 #[pp c,ii p] w λe w'=>Aft w o pt c x.p (q1z s p) (.tuple #[]) e w':=by
 have lt:=R.k.1.lt;have hy:=R.c15;have hF:=q4o R.tb.1 (call:=11) (what:=p);have hc:∀ w',bW w w'->LpQ w o pt c x.p (q12 p) 11 p s (q1z s p) (ii (q22 (q6o 11 p) s.tab s.tab.length)) w' (q3f s.tab):=λw' hb =>
  ⟨o,x,s,s.tab.length + 1,rfl,Mv.below hb,rfl,R.blw hb,rfl,rfl,by have:=q7q s.tab;omega,rfl,hl,by have:=q7q s.tab;omega⟩
 replace hc:=zhd hc;generalize q1z s p=tgt at *;generalize q22 (q6o 11 p) s.tab s.tab.length=v0 at *;obtain⟨wo,rfl⟩:∃ wo:World,wo=w:=⟨_,rfl⟩
 refine inC ?_;go_in;go_wp2_with (go_at_call 290;refine hF.mono ?_;rintro _ w1 ⟨rfl,hb⟩);go_loopw [4] (λv wr=>∃ n,LpQ wo o pt c x.p (q12 p) 11 p s tgt v wr n) (λv wr=>q3w (LpQ wo o pt c x.p (q12 p) 11 p s tgt v wr))
 case atStart=>exact⟨_,hc.out w1 hb⟩
 case round =>
  clear hc hF hb lt hy R hl;obtain⟨n0,h0⟩:=hrel;have hq:=(q16 h0).1;clear h0;have h1:∀ v' w' n',LpQ wo o pt c x.p (q12 p) 11 p s tgt v' w' n'->n' < q3w (LpQ wo o pt c x.p (q12 p) 11 p s tgt u4 wr)->(∃ n,LpQ wo o pt c x.p (q12 p) 11 p s tgt v' w' n)/\q3w (LpQ wo o pt c x.p (q12 p) 11 p s tgt v' w') < q3w (LpQ wo o pt c x.p (q12 p) 11 p s tgt u4 wr):=λv' w' n' h hlt=>⟨⟨n',h⟩,Nat.lt_of_le_of_lt ((q16 h).2 n' h) hlt⟩
  obtain⟨o',x',s',m,rfl,M,hv,R',h3,h7,hm,hf,h2,ha⟩:=hq;have hh:=zhd hv;clear hv;by_cases q:0<=q0e s' 11 p
  .obtain⟨j,fj,hj,hu⟩:=q3x q;have hk:j < s'.tk.length:=by rw[hf,<- h2];exact hj
   have h4:q12 p s'=if (q10 s'.pts p true (atD Tk0 s'.tk j).data).1≠0 then none else some (q09 { s' with pts:=(q10 s'.pts p true (atD Tk0 s'.tk j).data).2 } j 11 0 0):=by unfold q12;rw[fj,if_neg zo,Int.toNat_natCast]
   obtain⟨hp,hd,T⟩:=R'.tk j hk;have hn:=R'.c14;have hz:=R'.c17;have lt:=R'.k.1.lt;obtain⟨tc,tl⟩:=T.k.1.cl;obtain⟨a,hA,hal,H1⟩:=R'.task hk;rw[hA]at hn
   have h6:=T.d;have hs:=T.dl;have ht:=T.dn;obtain⟨hdA,hdc,hdd⟩:=hd;simp only at hs;subst hs;simp only[Hd.v]at tc;have h9:=(Below.refl wr.heap.size wr).drew;have hS:=qfb (R'.ps.blw h9) (k:=p) (h6.1.keep h9) ht;have HN:=zhd (λh=>qin (l:=s'.pts) (k:=p) (q:=true) (b:=(atD Tk0 s'.tk j).data) h);rw[fj]at h1 h7 hm ha
   have HT:=zhd (And.intro h3 (And.intro h7 (And.intro hm (And.intro hf (And.intro h2 (And.intro ha (And.intro hu hj)))))));generalize q10 s'.pts p true (atD Tk0 s'.tk j).data=I at *;obtain⟨I1,I2⟩:=I;have hg:=zhd h4;have hx:Hid (s'.tk.length<=8):=by show _<=_;omega
   clear h4 h3 h7 hm hf h2 ha hA T h6 hu hj q;replace h1:=zhd h1;go_wp2_with fail;refine zB [(15,2)] λK' hK'=>?_;go_wp2_with fail;refine hS.mono ?_;rintro _ w2 ⟨rfl,o2,m2,P2⟩;refine hK' _ _ rfl ?_;clear hK' K' hS
   try simp only[q03]
   repeat(go_big_quiet_step (fail))
   refine wpQuiet_nil ?_;have m3:Mv (PtL pt) o' wr o2 w2:=(Mv.below h9).trans m2;have R2:=R'.setPts m3 P2;have M2:=M.trans (m3.mono (by rintro _ ⟨k,(rfl | rfl)⟩ <;> rfl));clear hn hz tc tl H1 h9 m2 m3 lt M R' ht P2;by_cases q0:I1=0
   .subst q0;have h5:Hid (q12 p s'=some (q09 { s' with pts:=I2 } j 11 0 0)):=hg.out.trans (if_neg zp);clear hg HN;have hC:=q4b R2 (k:=j) (call:=11) (code:=0) (v:=0) hk hx.out (by have:=HT.out;show s'.evs.length<=_;omega);have H0:=λ{w:World} {l:List Rw} {tn:Int} {t mb:Nat} (h:TbR w t mb l tn)=>q4o h (call:=11) (what:=p);go_wp2_with (first | (go_at_call 292;refine hC.mono ?_;rintro _ w3 ⟨rfl,o3,m3,x3,H2,R3⟩;have e15:=R3.c15;have le:=R3.k.1.lt) | (go_at_call 290;refine(H0 R3.tb.1).mono ?_;rintro _ w4 ⟨rfl,hr⟩));obtain⟨t1,t2,t3,t4,t5,t6,t7,t8⟩:=HT.out;have hw:=q4f (s:={ s' with pts:=I2 }) (call:=11) (code:=0) (v:=0) t8 t7;have h7:q3f s'.tab=q3f ({ s' with pts:=I2 } : Ce).tab:=rfl;have hle:=q7t { s' with pts:=I2 } j 11 0 0;have hle':({ s' with pts:=I2 } : Ce).evs.length=s'.evs.length:=rfl;rw[fj];exact h1.out _ _ _ ⟨o3,x3,_,m - 1,rfl,M2.trans (m3.trans (Mv.below hr)),H2.trans hh.out,R3.blw hr,(q7u h5.out zo).symm.trans t1,rfl,zo,(q8v _ _ _ _ _).trans t4,(q7s (s:={ s' with pts:=I2 }) (call:=11) (code:=0) (v:=0) t8).trans t5,zo⟩ zo
   .have h5:Hid (q12 p s'=none):=hg.out.trans (if_pos q0);have b2:(I1 != 0)=true:=by simpa using q0
    have hI:=HN.out q0;subst hI;go_wp2_with fail;go_returns;refine⟨rfl,o2,M2,x',hh.out,?_⟩;rw[<- HT.out.1,q1s h5.out];exact R2
  .have HT:=zhd h3;have b1:decide (0<=q0e s' 11 p)=false:=decide_eq_false q;have h5:Hid (q12 p s'=none):=if_pos zo;clear h3 h7 hm h2 ha hf q h1;go_wp2_with fail;go_returns;refine⟨rfl,o',M,x',hh.out,?_⟩;rw[<- HT.out,q1s h5.out];exact R'
end
theorem q8w{s:Ce} {call:Int} {b:List UInt8} (hj:j < s.tab.length) (h2:(atD Rw0 s.tab j).state=2):q3f (q15 s j call b).tab + 1=q3f s.tab:=q4f (s:=q3t s (atD Tk0 s.tk j).addr b) hj h2
theorem qh7{s:Ce} {call:Int} {b:List UInt8} (hj:j < s.tab.length):(q15 s j call b).tab.length=s.tab.length:=q7s (s:=q3t s (atD Tk0 s.tk j).addr b) hj
theorem qkg(s:Ce) (j:Nat) (call:Int) (b:List UInt8):(q15 s j call b).tk.length=s.tk.length:=q8v _ _ _ _ _
theorem qh8(s:Ce) (j:Nat) (call:Int) (b:List UInt8):(q15 s j call b).evs.length=s.evs.length + 1:=q7t _ _ _ _ _
section
variable{w:World} {o:Gh} {pt c:Nat} {x:Cx} {s:Ce} (R:CeR w o pt c x s)
include R
theorem qde{p:Int} (hl:s.tab.length=s.tk.length) (h8:s.tk.length<=8) (he:s.evs.length<=99999999900):cP 247 #[pp c,ii p] w λe w'=>Aft w o pt c x.p (q2m s p) (.tuple #[]) e w':=by
 have lt:=R.k.1.lt;have hr:=R.c15;have hF:=q4o R.tb.1 (call:=12) (what:=p);have ha:∀ w',bW w w'->LpQ w o pt c x.p (q13 p) 12 p s (q2m s p) (ii (q22 (q6o 12 p) s.tab s.tab.length)) w' (q3f s.tab):=λw' hb =>
  ⟨o,x,s,s.tab.length + 1,rfl,Mv.below hb,rfl,R.blw hb,rfl,rfl,by have:=q7q s.tab;omega,rfl,hl,by have:=q7q s.tab;omega⟩
 replace ha:=zhd ha;generalize q2m s p=tgt at *;generalize q22 (q6o 12 p) s.tab s.tab.length=v0 at *;obtain⟨wo,rfl⟩:∃ wo:World,wo=w:=⟨_,rfl⟩
 refine inC ?_;go_in;go_wp2_with (go_at_call 290;refine hF.mono ?_;rintro _ w1 ⟨rfl,hb⟩);go_loopw [4] (λv wr=>∃ n,LpQ wo o pt c x.p (q13 p) 12 p s tgt v wr n) (λv wr=>q3w (LpQ wo o pt c x.p (q13 p) 12 p s tgt v wr))
 case atStart=>exact⟨_,ha.out w1 hb⟩
 case round =>
  clear ha hF hb lt hr R hl;obtain⟨n0,h0⟩:=hrel;have hq:=(q16 h0).1;clear h0;have h1:∀ v' w' n',LpQ wo o pt c x.p (q13 p) 12 p s tgt v' w' n'->n' < q3w (LpQ wo o pt c x.p (q13 p) 12 p s tgt u4 wr)->(∃ n,LpQ wo o pt c x.p (q13 p) 12 p s tgt v' w' n)/\q3w (LpQ wo o pt c x.p (q13 p) 12 p s tgt v' w') < q3w (LpQ wo o pt c x.p (q13 p) 12 p s tgt u4 wr):=λv' w' n' h hlt=>⟨⟨n',h⟩,Nat.lt_of_le_of_lt ((q16 h).2 n' h) hlt⟩
  obtain⟨o',x',s',m,rfl,M,hn,R',h3,h7,hm,hd,h2,h9⟩:=hq;have hg:=zhd hn;clear hn;by_cases q:0<=q0e s' 12 p
  .obtain⟨j,fj,hj,hk⟩:=q3x q;have hu:j < s'.tk.length:=by rw[hd,<- h2];exact hj
   have h4:q13 p s'=if (q44 s'.pts p true).2.1≠0 then none else some (q15 { s' with pts:=(q44 s'.pts p true).2.2 } j 12 (q44 s'.pts p true).1):=by unfold q13;rw[fj,if_neg zo,Int.toNat_natCast]
   have c17:=R'.c17;have lt:=R'.k.1.lt;have hS:=q8u R'.ps (k:=p);unfold z0n at hS;have HN:=zhd (λh=>qvy (l:=s'.pts) (k:=p) (q:=true) h);rw[fj]at h1 h7 hm h9
   have HT:=zhd (And.intro h3 (And.intro h7 (And.intro hm (And.intro hd (And.intro h2 (And.intro h9 (And.intro hk hj)))))));generalize q44 s'.pts p true=I at *;obtain⟨I1,I2,I3⟩:=I;have hf:=zhd h4;have hp:Hid (s'.tk.length<=8):=by show _<=_;omega
   clear h4 h3 h7 hm hd h2 h9 hk hj q;replace h1:=zhd h1;have h6:Hid (∀ w2 o2,Mv (PtL pt) o' wr o2 w2->PsR w2 o2 pt x'.p x'.pA x'.pc x'.pq I3->CeR w2 o2 pt c x' { s' with pts:=I3 }/\Mv (PaL pt) o wo o2 w2):=λw2 o2 m2 P2=>⟨R'.setPts m2 P2,M.trans (m2.mono (by rintro _ ⟨k,(rfl | rfl)⟩ <;> rfl))⟩
   clear M R';by_cases q0:I2=0
   .subst q0;have h5:Hid (q13 p s'=some (q15 { s' with pts:=I3 } j 12 I1)):=hf.out.trans (if_neg zp);clear hf HN;have hC:∀ {w:World} {o:Gh} {x:Cx} {hA:Option Addr} {hc:Nat},CeR w o pt c x { s' with pts:=I3 }->Dat w o ⟨hA,hc,I1⟩->_:=λ{w o x hA hc} h hD=>qbx h (k:=j) (call:=12) (bA:=hA) (bn:=I1.length) (bc:=hc) (b:=I1) hD.1 hu hp.out (by have:=HT.out;show s'.evs.length<=_;omega);have hs:=λ{w:World} {l:List Rw} {tn:Int} {t mb:Nat} (h:TbR w t mb l tn)=>q4o h (call:=12) (what:=p);go_wp2_with (first | (go_at_call 293;refine hS.mono ?_;rintro _ w2 ⟨hA,ht,o2,rfl,hD,hv,m2,P2⟩;obtain⟨R2,M2⟩:=h6.out w2 o2 m2 P2;have ld:=R2.k.1.lt) | (go_at_call 294;refine(hC R2 hD).mono ?_;rintro _ w3 ⟨rfl,o3,m3,x3,hx,R3⟩;have e15:=R3.c15;have le:=R3.k.1.lt) | (go_at_call 290;refine(hs R3.tb.1).mono ?_;rintro _ w4 ⟨rfl,hh⟩));obtain⟨t1,t2,t3,t4,t5,t6,t7,t8⟩:=HT.out;have hw:=q8w (s:={ s' with pts:=I3 }) (call:=12) (b:=I1) t8 t7;have h7:q3f s'.tab=q3f ({ s' with pts:=I3 } : Ce).tab:=rfl;have hle:=qh8 { s' with pts:=I3 } j 12 I1;have hle':({ s' with pts:=I3 } : Ce).evs.length=s'.evs.length:=rfl;rw[fj];exact h1.out _ _ _ ⟨o3,x3,_,m - 1,rfl,M2.trans (m3.trans (Mv.below hh)),hx.trans hg.out,R3.blw hh,(q7u h5.out zo).symm.trans t1,rfl,zo,(qkg _ _ _ _).trans t4,(qh7 (s:={ s' with pts:=I3 }) (call:=12) (b:=I1) t8).trans t5,zo⟩ zo
   .have h5:Hid (q13 p s'=none):=hf.out.trans (if_pos q0);have b2:(I2 != 0)=true:=by simpa using q0
    have hI:=HN.out q0;subst hI;go_wp2_with (first | (go_at_call 293;refine hS.mono ?_;rintro _ w2 ⟨hA,ht,o2,rfl,hD,hv,m2,P2⟩;obtain⟨R2,M2⟩:=h6.out w2 o2 m2 P2));go_returns;refine⟨rfl,o2,M2,x',hg.out,?_⟩;rw[<- HT.out.1,q1s h5.out];exact R2
  .have HT:=zhd h3;have b1:decide (0<=q0e s' 12 p)=false:=decide_eq_false q;have h5:Hid (q13 p s'=none):=if_pos zo;clear h3 h7 hm h2 h9 hd q h1;go_wp2_with fail;go_returns;refine⟨rfl,o',M,x',hg.out,?_⟩;rw[<- HT.out,q1s h5.out];exact R'
end
end Go.Proofs.YtncfcbohiodnnaaGreat
