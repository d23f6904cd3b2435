/- Parts of this seat's claims. -/
import Derived.Test.YtncfcbohiodnnaaGreatW34
set_option maxRecDepth 100000
set_option maxHeartbeats 6400000
namespace Go.Proofs.YtncfcbohiodnnaaGreat
open Go.RowKit
variable{w w' W wa wo W':World} {c n pt r B j b m mb q base cap id B0:Nat} {A:Option Addr} {a code what:Int} {cs:Array Value}
theorem qwi(l:List Mh):∀ u ∈ l.flatMap Mh.f,u.oneCell'=true:=λu hu=>by
 obtain⟨e,_,he⟩:=List.mem_flatMap.1 hu;simp only[Mh.f,List.mem_cons,List.not_mem_nil,or_false]at he;rcases he with rfl | rfl | rfl <;> rfl
structure SyN(W w0:World) (o0:Gh) (cf:Cf) (y:Nat) (s:Sy) (w:World) (o:Gh) (x:Yx):Prop where
 M:Mv SyL o0 w0 o w
 hy:x.y=y
 S:SyR W w o cf x s
def slotZ(cf:Cf) (s:Sy) (p:Nat) (fr u:Int) (rests:Bool):Sy :=
 let s1:=q1w { s with g:=q2p cf.pw s.g fr } fr p
 let s2:=if rests=true then s1 else q5i cf s1 p u
 let s3:=q1w { s2 with g:=q2p cf.pw s2.g u } u (-1)
 if rests=true then s3 else q7n cf s3 p
theorem qj5(cf:Cf) (s:Sy) {x:Wn} {p:Nat} (h:x.part=p) (at_:Int) (r:Bool):qbf cf s x at_ r=slotZ cf s p (wrap64 (at_ + x.start)) (wrap64 (wrap64 (at_ + x.start) + x.len)) r:=by
 unfold qbf slotZ;rw[h];rfl
section
variable{W w0 w:World} {o0 o:Gh} {cf:Cf} {x:Yx} {s:Sy} {y:Nat}
theorem SyN.k(N:SyN W w0 o0 cf y s w o x):q1t w o (.sys 0) y 112 (x.cells cf s):=by
 have h:=N.S.k;rw[N.hy]at h
 exact h
theorem SyN.blw(N:SyN W w0 o0 cf y s w o x) (hb:bW w w'):SyN W w0 o0 cf y s w' o x:=⟨N.M.trans (Mv.below hb),N.hy,N.S.blw hb⟩
theorem SyN.dr(N:SyN W w0 o0 cf y s w o x):SyN W w0 o0 cf y s w.drew o x:=N.blw bR.drew
theorem SyN.wait(N:SyN W w0 o0 cf y s w o x) {u:Int} : cP 68 #[pp x.gx.g,ii u] w λe w'=>e = .returned (.tuple #[])/\SyN W w0 o0 cf y { s with g:=q2p cf.pw s.g u } w' o x:=by
 refine(qsn N.S.G.N).mono ?_;rintro _ w' ⟨rfl,G⟩;obtain⟨m,S⟩:=N.S.gov G;exact⟨rfl,N.M.trans (m.mono (by rintro _ rfl;exact SyL.s zd)),N.hy,S⟩
theorem SyN.of{s':Sy} (N:SyN W w0 o0 cf y s w o x) (h:SyA W o w cf x s' w'):∃ o' x',SyN W w0 o0 cf y s' w' o' x':=by
 obtain⟨o',x',h1,m,S⟩:=h;exact⟨o',x',N.M.trans m,h1.trans N.hy,S⟩
theorem SyN.bound(N:SyN W w0 o0 cf y s w o x) {due part:Int} (hn:s.bounds.length<=100000000000):cP 128 #[pp y,ii due,ii part] w λe w'=>e = .returned (.tuple #[])/\∃ o' x',SyN W w0 o0 cf y (q1w s due part) w' o' x':=by
 have h:=qoz N.S (due:=due) (part:=part) hn;rw[N.hy]at h
 exact h.mono λ_ _ h=>⟨h.1,N.of h.2⟩
theorem SyN.work{a:Nat} (N:SyN W w0 o0 cf y s w o x) (I:SyI W cf a b c s) (ha:a<=100000000) (hp1:cf.parts.l.length<=1000) {p:Nat} (hp:p < cf.parts.l.length) {en:Int} : cP 129 #[pp y,ii p,ii en] w λe w'=>e = .returned (.tuple #[])/\∃ o' x',SyN W w0 o0 cf y (q5i cf s p en) w' o' x':=by
 have h:=qsz N.S hp (I.C p hp) I.G (Int.le_trans (I.cap p hp) zd) (Nat.le_trans (I.ev p hp) zo) (Nat.le_of_eq (I.z p hp)) (Nat.le_trans I.se zo) hp1 (en:=en);rw[N.hy]at h
 exact h.mono λ_ _ h=>⟨h.1,N.of h.2⟩
theorem SyN.box(N:SyN W w0 o0 cf y s w o x) (hb:bW w w'):∃ o',SyN W w' o' cf y s w' o' x/\(∀ k,w.heap.size<=k->o' k = .data)/\Mv SyL o0 w0 o' w':=by
 obtain⟨m,S⟩:=N.S.laid (l := .data) hb;exact⟨_,⟨Mv.refl _ _ _,N.hy,S⟩,λk hk=>q07 hk,N.M.trans (m.mono λ_ h=>h.elim)⟩
def FlQ(o:Gh) (A:Option Addr):Nat->Prop:=λk=>FnL (o k)\/q02 A k
theorem qt0{a:Nat} (S:SyR W w o cf x s) (I:SyI W cf a b c s) (ha:a<=99000000) (hb:b<=1000000000) (hc:c<=1000000000) (hp1:cf.parts.l.length<=1000) {p:Nat} (hp:p < cf.parts.l.length) {fr u:Int} {rests:Bool} :
  cP 66 #[pp x.y,.agg #[ii p,ii fr,ii u],.bool rests] w λe w'=>e = .returned (.tuple #[])/\SyA W o w cf x (slotZ cf s p fr u rests) w':=by
 obtain⟨y,hy⟩:∃ y,x.y=y:=⟨_,rfl⟩
 have N0:SyN W w o cf y s w o x:=⟨Mv.refl _ _ _,hy,S⟩
 rw[hy];have h8:∀ (s':Sy) (w':World) (o':Gh) (x':Yx),SyN W w o cf y s' w' o' x'->s'=slotZ cf s p fr u rests->SyA W o w cf x (slotZ cf s p fr u rests) w':=λs' w' o' x' N e=>⟨o',x',N.hy.trans hy.symm,N.M,by rw[<- e];exact N.S⟩
 have hz:=zhd h8;have HY:=zhd hy;obtain⟨o1,N,hl,M1⟩:=N0.box (w':=w.alloc (.cells #[ii p,ii fr,ii u] 175)) (by go_grown);have kb:q1t (w.alloc (.cells #[ii p,ii fr,ii u] 175)) o1 .data w.heap.size 175 #[ii p,ii fr,ii u]:=⟨Blk.new _ _ _,hl _ nL⟩
 have H0:=zhd M1;have HP:=zhd hp;have H1:=zhd hp1;have HA:=zhd ha;have hf:=zhd (And.intro hb hc);have J1:=I.wait fr;have J2:=J1.bound fr p;clear S N0 h8 hy hl M1 hp hp1 ha hb hc;refine inC ?_;go_in;go_upto_region 1 with fail;generalize w.alloc (.cells #[ii p,ii fr,ii u] 175)=w1 at *;generalize w.heap.size=g at *;obtain⟨kc,lg⟩:=kb.1.cl;have h7:w1.cell? ⟨y,12,none⟩=some (pp x.gx.g):=N.k.1.cell 12;have ly:=N.k.1.lt;have HN:=zhd N;have h4:=zhd kb;clear N kb;go_upto_region 2 with (refine zD 6 λK' hK'=>?_;go_wp2_with fail;go_at_call 68;refine(HN.out.dr.wait).mono ?_;rintro _ w2 ⟨rfl,N⟩;refine zE ?_;clear hK' K')
 clear kc lg h7 ly;have HD:Hid (¬ SyL .data):=λh=>h.2.1 rfl;have kb:=h4.out.go N.M HD.out;obtain⟨kc,lg⟩:=kb.1.cl;have ly:=N.k.1.lt;have HN:=zhd N;have h2:=zhd J2;have h0:=J1.bd;generalize hs1:{ s with g:=q2p cf.pw s.g fr } = s1 at N J1 J2 HN h2 h0;have H2:=zhd hs1;clear hs1 N kb J1 J2;have Hf:=zhd (show s1.bounds.length<=100000000000 by have:=hf.out;omega);clear h0;go_upto_region 3 with (go_at_call 128;refine(HN.out.bound Hf.out).mono ?_;rintro _ w3 ⟨rfl,o3,x3,N⟩)
 clear kc lg ly;have HN:=zhd N;have J2:=h2.out;generalize hs2:q1w s1 fr p=s2 at N J2 HN h2;have H3:=zhd hs2;have kb:=h4.out.go N.M HD.out;obtain⟨kc,lg⟩:=kb.1.cl;have h7:w3.cell? ⟨y,12,none⟩=some (pp x3.gx.g):=N.k.1.cell 12;have ly:=N.k.1.lt;clear N J2 kb hs2;cases rests with
 | true =>
  have J3:=h2.out.wait u;go_upto_region 6 with (refine zD 6 λK' hK'=>?_;go_wp2_with fail;go_at_call 68;refine(HN.out.dr.wait).mono ?_;rintro _ w4 ⟨rfl,N⟩;refine zE ?_;clear hK' K')
  clear kc lg h7 ly;have kb:=h4.out.go N.M HD.out;obtain⟨kc,lg⟩:=kb.1.cl;have ly:=N.k.1.lt;have h5:=zhd N;have h0:=J3.bd;generalize hs3:{ s2 with g:=q2p cf.pw s2.g u } = s3 at N J3 h5 h0;have hn:=zhd hs3;clear hs3 N kb J3;have hj:=zhd (show s3.bounds.length<=100000000000 by have:=hf.out;omega);clear h0;go_upto_region 7 with (go_at_call 128;refine(h5.out.bound hj.out).mono ?_;rintro _ w5 ⟨rfl,o5,x5,N⟩)
  clear kc lg ly;have h1:=zhd N;clear N;go_wp2_with fail;go_returns;refine⟨rfl,hz.out _ _ o5 x5 ⟨H0.out.trans h1.out.M,h1.out.hy,h1.out.S⟩ ?_⟩;rw[<- hn.out,<- H3.out,<- H2.out];rfl
 | false =>
  go_upto_region 5 with (go_at_call 129;refine(HN.out.work h2.out (Nat.le_trans HA.out (by decide)) H1.out HP.out).mono ?_;rintro _ w4 ⟨rfl,o4,x4,N⟩)
  clear kc lg h7 ly;have J3:=h2.out.work HP.out u;have h5:=zhd N;generalize hs3:q5i cf s2 p u=s3 at N J3 h5;have hn:=zhd hs3;have J4:=J3.wait u;have kb:=h4.out.go N.M HD.out;obtain⟨kc,lg⟩:=kb.1.cl;have h7:w4.cell? ⟨y,12,none⟩=some (pp x4.gx.g):=N.k.1.cell 12;have ly:=N.k.1.lt;clear N kb hs3 HN;go_upto_region 6 with (refine zD 6 λK' hK'=>?_;go_wp2_with fail;go_at_call 68;refine(h5.out.dr.wait).mono ?_;rintro _ w5 ⟨rfl,N⟩;refine zE ?_;clear hK' K')
  clear kc lg h7 ly;have kb:=h4.out.go N.M HD.out;obtain⟨kc,lg⟩:=kb.1.cl;have ly:=N.k.1.lt;have h1:=zhd N;have h0:=J4.bd;generalize hs4:{ s3 with g:=q2p cf.pw s3.g u } = s4 at N J4 h1 h0;have Hg:=zhd hs4;have J5:=J4.bound u (-1);clear hs4 N kb J3 J4 h5;have hk:=zhd (show s4.bounds.length<=100000000000 by have:=hf.out;omega);clear h0;go_upto_region 7 with (go_at_call 128;refine(h1.out.bound hk.out).mono ?_;rintro _ w6 ⟨rfl,o6,x6,N⟩)
  clear kc lg ly;have h6:=zhd N;generalize hs5:q1w s4 u (-1)=s5 at N J5 h6;have Hh:=zhd hs5;have Hb:=zhd J5;have kb:=h4.out.go N.M HD.out;obtain⟨kc,lg⟩:=kb.1.cl;clear hs5 h1;go_upto_region 8 with fail;have kk:=N.k.1.cell;have c1:w6.cell? ⟨y,1,none⟩=some (.slice x6.mA x6.mh.length x6.mc):=kk 1;have c13:w6.cell? ⟨y,13,none⟩=some (.slice cf.parts.A cf.parts.l.length cf.parts.c):=kk 13;have c14:w6.cell? ⟨y,14,none⟩=some (.slice cf.chans.A cf.chans.l.length cf.chans.c):=kk 14;have c15:w6.cell? ⟨y,15,none⟩=some (.slice cf.modes.A cf.modes.l.length cf.modes.c):=kk 15;have c16:w6.cell? ⟨y,16,none⟩=some (.slice cf.pw.levels.A cf.pw.levels.l.length cf.pw.levels.c):=kk 16;have c17:w6.cell? ⟨y,17,none⟩=some (.slice cf.pw.naps.A cf.pw.naps.l.length cf.pw.naps.c):=kk 17;have c18:w6.cell? ⟨y,18,none⟩=some (ii cf.pw.sw):=kk 18;have c19:w6.cell? ⟨y,19,none⟩=some (ii cf.pw.idle):=kk 19;have c20:w6.cell? ⟨y,20,none⟩=some (ii cf.pw.change):=kk 20;have c21:w6.cell? ⟨y,21,none⟩=some (ii cf.pw.quant):=kk 21;have c22:w6.cell? ⟨y,22,none⟩=some (ii cf.pw.slow):=kk 22;have c23:w6.cell? ⟨y,23,none⟩=some (ii cf.pw.ppm):=kk 23;have c24:w6.cell? ⟨y,24,none⟩=some (.slice cf.shed.down.A cf.shed.down.l.length cf.shed.down.c):=kk 24;have c25:w6.cell? ⟨y,25,none⟩=some (.slice cf.shed.up.A cf.shed.up.l.length cf.shed.up.c):=kk 25;have H4:w6.cell? ⟨y,26,none⟩=some (.slice x6.cA cf.parts.l.length x6.cc):=kk 26;have Hm:w6.cell? ⟨y,27,none⟩=some (.slice x6.pA cf.parts.l.length x6.pc):=kk 27;have ly:=N.k.1.lt;obtain⟨cb,Hn,H5,lcb,Hs⟩:=qoy N.S.ca.1 HP.out;rw[H5]at H4
  have hu:p < s5.cs.length:=by rw[N.S.cn];exact HP.out
  have hq1:¬ FlQ o6 x6.mA y:=by
   rintro(h | h)
   .rw[N.k.2]at h;exact FnL.ns (by decide) (by decide) (by decide) (by decide) h
   .exact N.S.ms.1.ne N.k.1 (by decide) h
  have hq2:¬ FlQ o6 x6.mA g:=by
   rintro(h | h)
   .rw[kb.2]at h;exact FnL.nd h
   .exact N.S.ms.1.ne kb.1 (by decide) h
  have hq3:¬ FlQ o6 x6.mA cb:=by
   have h3:o6 cb = .sys 3:=N.S.ca.2 cb Hn (by have:=HP.out;omega) H5;rintro(h | h)
   .rw[h3]at h;exact FnL.n3 h
   .have:=N.S.ms.2 cb h;rw[h3]at this;cases this
  have b1:decide (cf.parts.l.length<=p)=false:=decide_eq_false (by have:=HP.out;omega);have Hk:=zhd (λ(w':World) (hb:bW w6 w')=>qw4 ((N.S.R p hu).blw hb));obtain⟨D,hD⟩:∃ D,D=q2i cf (atD Ce0 s5.cs p).win (q6v cf p) [] (atD Ce0 s5.cs p).pts []:=⟨_,rfl⟩
  have hr:D.1.length<=4096:=by rw[hD];exact J5.drain_len HP.out _ _
  have hg:∀ w',bW w6 w'->cP 130 #[.agg (Cf.lw cf),ii p,ii (atD Ce0 s5.cs p).win,.slice x6.pA cf.parts.l.length x6.pc] w' λe w2=>qu4 w' o6 x6.c x6.x (D.1.foldl (q0v cf) (s5.cs.set p (setPts (atD Ce0 s5.cs p) D.2))) D.1 e w2:=by
   intro w' hb;have S:=N.S.blw hb;have ht:=S.pa;rw[<- S.cn]at ht
   have h:=qor S.hc.2.1 S.B ht.1 (by have:=ht.2;exact this) (by rw[S.cn];exact H1.out) S.R hu (win:=(atD Ce0 s5.cs p).win) (by rw[<- hD];exact hr);rw[S.cn,<- hD]at h
   exact h
  have hg:=zhd hg;have hx:=zhd hr;have Ha:=zhd hD;clear hr hD kk hu N kb J5;haveI:DecidablePred (FlQ o6 x6.mA):=λ_=>Classical.propDecidable _
  have hpp:=HP.out;refine q88 (FlQ o6 x6.mA) [(20,0),(4,0),(0,0),(3,2)] ?_;simp only[q03,tkO,dpO]
  repeat(go_big_quiet_step (fail))
  refine qwW (λK' hK'=>?_);go_wp2_with fail;go_at_call 131
  refine(Hk.out _ bR.drew).mono ?_;rintro _ w7 ⟨rfl,rfl⟩;refine zGW (fO bR.drew _) ?_;clear hK' K';intro K' hK';go_wp2_with fail;go_at_call 130
  refine(hg.out _ bR.drew).mono ?_;rintro _ w8 ⟨B,cB,ms,o8,rfl,hs,he,Hr,H7,m8,R8⟩;have f8:Fr (FlQ o6 x6.mA) w6 w8:=(fO bR.drew _).trans (m8.f.mono λ_ _ h => .inl h);refine zG f8 ?_;clear hK' K';have bd:=(Below.refl w6.heap.size w6).drew;have S6:=h6.out.S.blw bd;have H6:(D.1.foldl (q0v cf) (s5.cs.set p (setPts (atD Ce0 s5.cs p) D.2))).length=s5.cs.length:=by rw[(SmE.fold cf _ _).n,List.length_set]
  have S8:=S6.flush_ m8 R8 H6;have Ht:ms.length<=4096:=by
   have h:=congrArg List.length hs;rw[List.length_map]at h
   rw[h];exact hx.out
  have Hu:x6.mh.length<=c:=by
   have h:=congrArg List.length S6.mg;rw[List.length_map]at h
   rw[h];exact Hb.out.ms
  have H8:=zhd (show x6.mh.length + ms.length<=100000000000 by have:=hf.out;omega);have h9:=zhd S8;have H9:=zhd H7;have He:=zhd hs;have Hc:=zhd ((Mv.below (L:=FnL) bd).trans m8);have Hj:=zhd he.sl;clear he Ht Hu hs H7 S8 S6 H6 m8 R8 Hr;refine qwW (λK' hK'=>?_);refine qas qon w8 _ _ (by rfl) (by rfl) h9.out.ms.1 (by rfl) Hj.out (qwi _) H8.out ?_;intro A' c' w9 own9 hf9 hat9;have f9:Fr (FlQ o6 x6.mA) w6 w9:=f8.trans (hf9.mono λ_ _ h => .inr h);refine hK' _ _ rfl (q01 f9) ?_;clear hK' K';have hd:=h9.out.k.1.fr hf9 (λh=>h9.out.ms.1.ne h9.out.k.1 (by decide) h);rw[h6.out.hy]at hd
  have Hp:w9.cell? ⟨y,1,none⟩=some (.slice x6.mA x6.mh.length x6.mc):=hd.cell 1;have Hq:=hd.frozen;have Hv:=hd.lt;refine zN ?_;refine qwB (λK' hK'=>?_);go_wp2_with fail;refine zE ?_;clear hK' K';obtain⟨Hx,hv,hq⟩:=h9.out.push_ms own9 hf9 hat9 H9.out;rw[h6.out.hy]at hv hq
  have hm:=zhd hq;have hh:=zhd hv;clear own9 hf9 hat9 f9 f8 hd Hp Hq Hv hv hq Hs H4 Hm c1;go_wp2_with fail;go_returns;refine⟨rfl,hz.out _ _ Hx _ ⟨H0.out.trans ((h6.out.M.trans (Hc.out.mono λl h=>?_)).trans (hh.out.mono (by rintro _ (rfl | rfl) <;> exact SyL.s (by decide)))),by rw[<- h6.out.hy],hm.out⟩ ?_⟩
  .exact⟨by rintro rfl;exact FnL.nf h,by rintro rfl;exact FnL.nd h,by rintro rfl;exact FnL.n3 h⟩
  .unfold slotZ;dsimp only;rw[H2.out,H3.out];simp only[Bool.false_eq_true,if_false];rw[hn.out,Hg.out,Hh.out];unfold q7n;dsimp only;rw[<- Ha.out,List.take_of_length_le hx.out,He.out]
end
structure SyR0(W w:World) (o:Gh) (cf:Cf) (x:Yx) (s:Sy):Prop where
 B:Bas W w o
 hc:q1k.ok W cf
 k:q1t w o (.sys 0) x.y 112 (x.cells cf s)
 g:∃ v d,q1t w o (.sys 1) x.gx.g 118 #[ii s.g.base,ii s.g.done,cf.pw.levels.hq,cf.pw.naps.hq,ii cf.pw.sw,ii cf.pw.idle,ii cf.pw.change,ii cf.pw.quant,ii cf.pw.slow,ii cf.pw.ppm,pp x.gx.p,v,ii d]
 P:PnR w x.gx.p x.gx.m x.gx.r cf.pw s.g.pl
 pl:o x.gx.p = .sys 1/\o x.gx.m = .sys 1/\o x.gx.r = .sys 1
 pt:x.gx.p < w.heap.size/\x.gx.m < w.heap.size/\x.gx.r < w.heap.size
 le:W.heap.size<=x.gx.g/\W.heap.size<=x.gx.p/\W.heap.size<=x.gx.m/\W.heap.size<=x.gx.r
 ne:x.gx.g≠x.gx.p/\x.gx.g≠x.gx.m/\x.gx.g≠x.gx.r
 nl:Hid (cf.pw.naps.l.length<=100000/\cf.pw.levels.l.length<=100000)
 L:LdL w o x.lb x.la x.lcap x.lq cf s.cy
 R:CsR w o x.c x.x s.cs
 cn:s.cs.length=cf.parts.l.length
 ca:SlL w o (.sys 3) x.cA cf.parts.l.length x.cc (qj2 x.c cf.parts.l.length)
 pa:SlL w o (.sys 3) x.pA cf.parts.l.length x.pc (qc7 x.x cf.parts.l.length)
 sn:s.seen.length=cf.parts.l.length
 se:q1t w o (.sys 5) x.sb 3 (s.seen.map λ(j:Nat)=>(ii (j:Int):Value)).toArray
 ev:q4q w o (.sys 6) 67 6 x.eA s.evs.length x.ec (s.evs.flatMap Ev.f)
 ms:q4q w o (.sys 7) 122 3 x.mA x.mh.length x.mc (x.mh.flatMap Mh.f)
 mg:x.mh.map Mh.g=s.msgs
 md:∀ m ∈ x.mh,Dat w o m.d
 bd:q4q w o (.sys 8) 86 3 x.bA s.bounds.length x.bc (s.bounds.flatMap Bd.f)
 sh:q4q w o (.sys 14) 3 1 x.hA s.sheds.length x.hc (s.sheds.map (.int .i64))
 mo:q4q w o (.sys 15) 3 1 x.dA s.modes.length x.dc (s.modes.map (.int .i64))
 cr:q4q w o (.sys 16) 29 1 x.rA x.rv.length x.rc x.rv
 cv:(∀ u ∈ x.rv,u.oneCell'=true)/\x.rv.length=s.creds.length
section
variable{W w w':World} {o:Gh} {cf:Cf} {x:Yx} {s:Sy}
theorem SyR.to0(S:SyR W w o cf x s):SyR0 W w o cf x s:=by
 have N:=S.G.N;obtain⟨a1,a2,a3,a4,a5⟩:=N.ne;obtain⟨l1,l2,l3,l4,l5⟩:=N.le;exact⟨S.B,S.hc,S.k,⟨_,_,N.k,S.G.l _ (.inl rfl)⟩,N.P,⟨S.G.l _ (.inr (.inl rfl)),S.G.l _ (.inr (.inr (.inl rfl))),S.G.l _ (.inr (.inr (.inr (.inl rfl))))⟩,⟨N.lt (.inr (.inl rfl)),N.lt (.inr (.inr (.inl rfl))),N.lt (.inr (.inr (.inr (.inl rfl))))⟩,⟨l1,l2,l3,l4⟩,⟨a1,a2,a3⟩,N.nl,S.L,S.R,S.cn,S.ca,S.pa,S.sn,S.se,S.ev,S.ms,S.mg,S.md,S.bd,S.sh,S.mo,S.cr,S.cv⟩
theorem SyR0.laid(S:SyR0 W w o cf x s) {l:Lb} (hb:bW w w'):Mv (λ_=>False) o w (lay w o l) w'/\SyR0 W w' (lay w o l) cf x s:=by
 have m:Mv (λ_=>False) o w (lay w o l) w':=Mv.lay (S:=λ_=>False) l (fO hb _) (λ_ _ h=>h.elim);obtain⟨v,d,g⟩:=S.g;obtain⟨t1,t2,t3⟩:=S.pt;obtain⟨l1,l2,l3⟩:=S.pl;have hz:=hb.size;exact⟨m,S.B.go m id,S.hc,S.k.go m id,⟨v,d,g.go m id⟩,S.P.keep hb,⟨(m.a _ t1).trans l1,(m.a _ t2).trans l2,(m.a _ t3).trans l3⟩,⟨zo,zo,zo⟩,S.le,S.ne,S.nl,S.L.go m id id,S.R.go m (λ_ h=>h.elim) id,S.cn,S.ca.go m id,S.pa.go m id,S.sn,S.se.go m id,S.ev.go m id,S.ms.go m id,S.mg,λy hy=>(S.md y hy).go m id,S.bd.go m id,S.sh.go m id,S.mo.go m id,S.cr.go m id,S.cv⟩
theorem SyR0.beg(S:SyR0 W w o cf x s) (hb:bW w w') {fb nb:Nat} (h1:w.heap.size<=fb) (h2:w.heap.size<=nb) (hne:nb≠fb) {first drift:Int} (hi:i64 first) (kf:Blk w' fb 3 #[ii first]) (kn:Blk w' nb 3 #[ii 0]) :
  ∃ o',Mv (λl=>l = .sys 1) o w o' ((w'.setCell ⟨x.gx.g,11,none⟩ (.func (.func 126) #[] #[pp fb,pp nb])).setCell ⟨x.gx.g,12,none⟩ (ii drift))/\SyR W ((w'.setCell ⟨x.gx.g,11,none⟩ (.func (.func 126) #[] #[pp fb,pp nb])).setCell ⟨x.gx.g,12,none⟩ (ii drift)) o' cf { x with gx:={ x.gx with fb:=fb,nb:=nb } } { s with g:={ s.g with first:=first,n:=0,drift:=drift } }:=by
 obtain⟨v0,d0,h7⟩:=S.g;have kg:=h7.1;have lg:=kg.lt;have hW:=S.B.b.size;obtain⟨h5,h4,h6⟩:=S.pt;obtain⟨lp,lm,lr⟩:=S.pl;have f2:Fr (λk=>k=x.gx.g) w' ((w'.setCell ⟨x.gx.g,11,none⟩ (.func (.func 126) #[] #[pp fb,pp nb])).setCell ⟨x.gx.g,12,none⟩ (ii drift)):=((Fr.refl (λk=>k=x.gx.g) w').setCell (p:=⟨x.gx.g,11,none⟩) (λ_=>rfl) _).setCell (p:=⟨x.gx.g,12,none⟩) (λ_=>rfl) _;have h9:=((kg.keep hb).set_ 11 (.func (.func 126) #[] #[pp fb,pp nb])).set_ 12 (ii drift);have fr:Fr (λk=>k=x.gx.g) w ((w'.setCell ⟨x.gx.g,11,none⟩ (.func (.func 126) #[] #[pp fb,pp nb])).setCell ⟨x.gx.g,12,none⟩ (ii drift)):=(fO hb _).trans f2;generalize (w'.setCell ⟨x.gx.g,11,none⟩ (.func (.func 126) #[] #[pp fb,pp nb])).setCell ⟨x.gx.g,12,none⟩ (ii drift)=w2 at *;have h8:=kf.fr f2 (show fb≠x.gx.g by omega);have ha:=kn.fr f2 (show nb≠x.gx.g by omega);obtain⟨o',h3⟩:∃ o':Gh,o'=λk=>if k < w.heap.size then o k else if k=nb then .sys 1 else .sys 2:=⟨_,rfl⟩
 have m:Mv (λl=>l = .sys 1) o w o' w2:=⟨fr.mono λk _ hk=>by rw[hk];exact h7.2,λk hk=>by rw[h3];exact if_pos hk⟩
 obtain⟨a1,a2,a3⟩:=S.ne;have h0:=S.le;refine⟨o',m,S.B.go m zp,S.hc,S.k.go m zp,?_,S.L.go m zp zp,S.R.go m (by rintro _ rfl;rfl) zp,S.cn,S.ca.go m zp,S.pa.go m zp,S.sn,S.se.go m zp,S.ev.go m zp,S.ms.go m zp,S.mg,λy hy=>(S.md y hy).go m zp,S.bd.go m zp,S.sh.go m zp,S.mo.go m zp,S.cr.go m zp,S.cv⟩;refine⟨⟨S.B.b.trans (fr.below (λk hk hs=>by have:=h0.1;omega) S.B.b.size),Fr.refl _ _,S.hc.2.2.2.1,h9,S.P.fr fr (λe=>a1 e.symm) (λe=>a2 e.symm) (λe=>a3 e.symm),h8,ha,⟨h0.1,h0.2.1,h0.2.2.1,h0.2.2.2,by show _<=nb;omega⟩,⟨a1,a2,a3,by show x.gx.g≠nb;omega,by show x.gx.g≠fb;omega⟩,⟨Nat.ne_of_gt (Nat.lt_of_lt_of_le h5 h2),Nat.ne_of_gt (Nat.lt_of_lt_of_le h4 h2),Nat.ne_of_gt (Nat.lt_of_lt_of_le h6 h2),hne⟩,⟨Nat.ne_of_gt (Nat.lt_of_lt_of_le h5 h1),Nat.ne_of_gt (Nat.lt_of_lt_of_le h4 h1),Nat.ne_of_gt (Nat.lt_of_lt_of_le h6 h1)⟩,hi,S.nl⟩,λk hk=>?_,?_⟩
 .rw[h3];rcases hk with rfl | rfl | rfl | rfl | hk
  .exact(if_pos lg).trans h7.2
  .exact(if_pos h5).trans lp
  .exact(if_pos h4).trans lm
  .exact(if_pos h6).trans lr
  .have hk:k=nb:=hk;show(if k < w.heap.size then o k else if k=nb then Lb.sys 1 else Lb.sys 2)=Lb.sys 1;rw[hk,if_neg zo,if_pos rfl]
 .rw[h3];show(if fb < w.heap.size then o fb else if fb=nb then Lb.sys 1 else Lb.sys 2)=Lb.sys 2;rw[if_neg zo,if_neg zo]
end
def q33(cf:Cf) (sc:Sc) (q:Nat):Ce:=q8b (atD Pt0 cf.parts.l q) q (prL (q2c sc q))
def pl0(cf:Cf):Pn:=⟨0,0,0,wrap64 (cf.pw.levels.l.length - 1),⟨List.replicate cf.parts.l.length 0,0,0,0,0,0⟩⟩
def q3i(cf:Cf) (sc:Sc):Sy :=
 ⟨[],[],[],[],[],[],0,⟨0,0,pl0 cf,0,0,0⟩,(List.range cf.parts.l.length).map (q33 cf sc),List.replicate cf.parts.l.length 0,List.replicate cf.parts.l.length 0⟩
def mkC(x:Yx) (cf:Cf) (a b:Nat):Array Value:=#[.slice none 0 0,.slice none 0 0,.slice none 0 0,.slice none 0 0,ii 0,ii 0,ii 0,ii 0,.slice none 0 0,.slice none 0 0,.slice none 0 0,ii 0,pp x.gx.g,cf.parts.hq,cf.chans.hq,cf.modes.hq,cf.pw.levels.hq,cf.pw.naps.hq,ii cf.pw.sw,ii cf.pw.idle,ii cf.pw.change,ii cf.pw.quant,ii cf.pw.slow,ii cf.pw.ppm,cf.shed.down.hq,cf.shed.up.hq,.slice x.cA a x.cc,.slice x.pA b x.pc,.slice (some ⟨x.sb,0,none⟩) cf.parts.l.length cf.parts.l.length,pp x.lb]
structure MkB(W w:World) (o:Gh) (cf:Cf) (x:Yx) (cs:List Ce):Prop where
 B:Bas W w o
 hc:q1k.ok W cf
 g:∃ v d,q1t w o (.sys 1) x.gx.g 118 #[ii 0,ii 0,cf.pw.levels.hq,cf.pw.naps.hq,ii cf.pw.sw,ii cf.pw.idle,ii cf.pw.change,ii cf.pw.quant,ii cf.pw.slow,ii cf.pw.ppm,pp x.gx.p,v,ii d]
 P:PnR w x.gx.p x.gx.m x.gx.r cf.pw (pl0 cf)
 pl:o x.gx.p = .sys 1/\o x.gx.m = .sys 1/\o x.gx.r = .sys 1
 pt:x.gx.p < w.heap.size/\x.gx.m < w.heap.size/\x.gx.r < w.heap.size
 le:W.heap.size<=x.gx.g/\W.heap.size<=x.gx.p/\W.heap.size<=x.gx.m/\W.heap.size<=x.gx.r
 ne:x.gx.g≠x.gx.p/\x.gx.g≠x.gx.m/\x.gx.g≠x.gx.r
 L:LdL w o x.lb x.la x.lcap x.lq cf (List.replicate cf.parts.l.length 0)
 R:CsR w o x.c x.x cs
 se:q1t w o (.sys 5) x.sb 3 ((List.replicate cf.parts.l.length (0:Nat)).map λ(j:Nat)=>(ii (j:Int):Value)).toArray
 pq:∀ j,j < w.heap.size->∀ q,(o j).part=some q->q < cs.length
structure MkR(W w:World) (o:Gh) (cf:Cf) (x:Yx) (cs:List Ce) (a b:Nat):Prop where
 H:MkB W w o cf x cs
 k:q1t w o (.sys 0) x.y 112 (mkC x cf a b)
 ca:q4q w o (.sys 11) 162 1 x.cA a x.cc (qj2 x.c a)
 pa:q4q w o (.sys 12) 165 1 x.pA b x.pc (qc7 x.x b)
section
variable{L:Lb->Prop} {W w w':World} {o o':Gh} {cf:Cf} {x:Yx} {cs:List Ce} {a b:Nat}
theorem MkB.go(S:MkB W w o cf x cs) (m:Mv L o w o' w') (hl:∀ l,L l->l = .sys 0\/l = .sys 11\/l = .sys 12) (hn:∀ j,w.heap.size<=j->∀ q,(o' j).part=some q->q < cs.length):MkB W w' o' cf x cs:=by
 have hf:¬ L .free:=λh=>by simpa using hl _ h
 have hs:∀ i,i≠0->i≠11->i≠12->¬ L (.sys i):=λi h0 h1 h2 h=>by
  rcases hl _ h with e | e | e
  .injection e with e;exact h0 e
  .injection e with e;exact h1 e
  .injection e with e;exact h2 e
 obtain⟨v,d,g⟩:=S.g;obtain⟨l1,l2,l3⟩:=S.pl;obtain⟨t1,t2,t3⟩:=S.pt;have hz:=m.f.size;have h1:=hs 1 zd zd zd;refine⟨S.B.go m hf,S.hc,⟨v,d,g.go m h1⟩,S.P.fr m.f (by rw[l1];exact h1) (by rw[l2];exact h1) (by rw[l3];exact h1),⟨(m.a _ t1).trans l1,(m.a _ t2).trans l2,(m.a _ t3).trans l3⟩,⟨zo,zo,zo⟩,S.le,S.ne,S.L.go m (hs 3 zd zd zd) (hs 4 zd zd zd),S.R.go m (λl h=>by rcases hl l h with rfl | rfl | rfl <;> rfl) (λh=>by simpa using hl _ h),S.se.go m (hs 5 zd zd zd),λj hj q hq=>?_⟩;rcases Nat.lt_or_ge j w.heap.size with h | h
 .exact S.pq j h q (by rw[<- m.a j h];exact hq)
 .exact hn j h q hq
theorem MkR.laid(S:MkR W w o cf x cs a b) (hb:bW w w'):Mv (λ_=>False) o w (lay w o .data) w'/\MkR W w' (lay w o .data) cf x cs a b:=by
 have m:Mv (λ_=>False) o w (lay w o .data) w':=Mv.lay (S:=λ_=>False) .data (fO hb _) (λ_ _ h=>h.elim);exact⟨m,S.H.go m (λ_ h=>h.elim) (λj hj q hq=>by rw[q07 hj]at hq;cases hq),S.k.go m id,S.ca.go m id,S.pa.go m id⟩
theorem qt1{c:Nat->Nat} {k v:Nat} : qj2 (λq=>if q=k then v else c q) k=qj2 c k:=by
 unfold qj2;refine List.map_congr_left λq hq=>?_;have h0:q≠k:=by have:=List.mem_range.1 hq;omega
 simp[h0]
theorem qt2{c:Nat->Cx} {k:Nat} {v:Cx} : qc7 (λq=>if q=k then v else c q) k=qc7 c k:=by
 unfold qc7;refine List.map_congr_left λq hq=>?_;have h0:q≠k:=by have:=List.mem_range.1 hq;omega
 simp[h0]
theorem qt3{α : Type} {z : α} {l:List α} {v : α} : atD z (l ++ [v]) q=if q < l.length then atD z l q else if q=l.length then v else z:=by
 unfold atD;rw[List.getD_eq_getElem?_getD,List.getD_eq_getElem?_getD,List.getElem?_append];split
 .rfl
 .rename_i h;split
  .rename_i e;subst e;simp
  .rename_i e;rw[List.getElem?_eq_none (by simp;omega)];rfl
theorem MkR.cell{k:Nat} (S:MkR W w o cf x cs k k) (hk:cs.length=k) (m:Mv (λ_=>False) o w o' w') {c p:Nat} {s:Ce} (C:CeW w' o' k c p s) (hn:∀ j,w.heap.size<=j->(o' j).part=some k\/o' j = .data) :
  ∃ xx:Cx,xx.p=p/\MkR W w' o' cf { x with c:=λq=>if q=k then c else x.c q,x:=λq=>if q=k then xx else x.x q } (cs ++ [s]) k k/\CeR w' o' k c xx s:=by
 obtain⟨xx,hp,R⟩:=C;have H:=S.H;obtain⟨v,d,g⟩:=H.g;obtain⟨l1,l2,l3⟩:=H.pl;obtain⟨t1,t2,t3⟩:=H.pt;have hz:=m.f.size;refine⟨xx,hp,⟨⟨H.B.go m id,H.hc,⟨v,d,g.go m id⟩,H.P.fr m.f id id id,⟨(m.a _ t1).trans l1,(m.a _ t2).trans l2,(m.a _ t3).trans l3⟩,⟨Nat.lt_of_lt_of_le t1 hz,Nat.lt_of_lt_of_le t2 hz,Nat.lt_of_lt_of_le t3 hz⟩,H.le,H.ne,H.L.go m id id,λq hq=>?_,H.se.go m id,λj hj q hq=>?_⟩,S.k.go m id,?_,?_⟩,R⟩
 .rw[List.length_append,List.length_singleton]at hq
  have hR:=H.R.go m (λ_ h=>h.elim) id;show CeR w' o' q (if q=k then c else x.c q) (if q=k then xx else x.x q) (atD Ce0 (cs ++ [s]) q);rw[qt3];by_cases e:q=k
  .subst e;rw[if_pos rfl,if_pos rfl,if_neg zo,if_pos hk.symm];exact R
  .rw[if_neg e,if_neg e,if_pos zo];exact hR q zo
 .rw[List.length_append,List.length_singleton];rcases Nat.lt_or_ge j w.heap.size with h | h
  .have:=H.pq j h q (by rw[<- m.a j h];exact hq);omega
  .rcases hn j h with e | e
   .rw[e]at hq;injection hq with hq;omega
   .rw[e]at hq;cases hq
 .show q4q w' o' (.sys 11) _ 1 x.cA k x.cc (qj2 (λq=>if q=k then c else x.c q) k);rw[qt1];exact S.ca.go m id
 .show q4q w' o' (.sys 12) _ 1 x.pA k x.pc (qc7 (λq=>if q=k then xx else x.x q) k);rw[qt2];exact S.pa.go m id
theorem qpc(c:Nat->Nat) (k:Nat):qj2 c (k + 1)=qj2 c k ++ [pp (c k)]:=by unfold qj2;rw[List.range_succ,List.map_append];rfl
theorem qpd(c:Nat->Cx) (k:Nat):qc7 c (k + 1)=qc7 c k ++ [pp ((c k).p)]:=by unfold qc7;rw[List.range_succ,List.map_append];rfl
theorem MkR.pushC(S:MkR W w o cf x cs a b) {w5:World} {A':Option Addr} {c':Nat} (own:Own w5 162 1 A' (a + 1) c' (qj2 x.c a ++ [pp (x.c a)])) (hf:Fr (q02 x.cA) w w5) (hat:∀ k,q02 A' k->q02 x.cA k\/w.heap.size<=k) :
  ∃ o',Mv (λl=>l = .sys 11\/l = .sys 0) o w o' (w5.setCell ⟨x.y,26,none⟩ (.slice A' (a + 1) c'))/\MkR W (w5.setCell ⟨x.y,26,none⟩ (.slice A' (a + 1) c')) o' cf { x with cA:=A',cc:=c' } cs (a + 1) b:=by
 have m1:Mv (λl=>l = .sys 11) o w (lay w o (.sys 11)) w5:=Mv.lay (S:=q02 x.cA) _ hf (λk _ hk=>S.ca.2 k hk);have k9:=S.k.go m1 zp;have m:Mv (λl=>l = .sys 11\/l = .sys 0) o w (lay w o (.sys 11)) (w5.setCell ⟨x.y,26,none⟩ (.slice A' (a + 1) c')):=(m1.mono λ_ h => .inl h).setC (λ_ => .inr S.k.2) 26 _;have hk:=k9.set 26 (.slice A' (a + 1) c');have H:MkB W (w5.setCell ⟨x.y,26,none⟩ (.slice A' (a + 1) c')) (lay w o (.sys 11)) cf x cs:=S.H.go m (by rintro _ (rfl | rfl) <;> simp) (λj hj q hq=>by rw[q07 hj]at hq;cases hq);refine⟨_,m,⟨H.B,H.hc,H.g,H.P,H.pl,H.pt,H.le,H.ne,H.L,H.R,H.se,H.pq⟩,hk,⟨?_,λk hk=>?_⟩,S.pa.go m zp⟩
 .show Own _ _ _ _ _ _ (qj2 x.c (a + 1));rw[qpc];exact own.fr ((Fr.refl (λk=>k=x.y) w5).setCell (p:=⟨x.y,26,none⟩) (λ_=>rfl) _) (λk hk e=>own.ne k9.1 zd (by rw[<- e];exact hk))
 .by_cases h:k < w.heap.size
  .exact(q0l h).trans (S.ca.2 k ((hat k hk).resolve_right zo))
  .exact q07 zo
theorem MkR.pushP(S:MkR W w o cf x cs a b) {w5:World} {A':Option Addr} {c':Nat} (own:Own w5 165 1 A' (b + 1) c' (qc7 x.x b ++ [pp ((x.x b).p)])) (hf:Fr (q02 x.pA) w w5) (hat:∀ k,q02 A' k->q02 x.pA k\/w.heap.size<=k) :
  ∃ o',Mv (λl=>l = .sys 12\/l = .sys 0) o w o' (w5.setCell ⟨x.y,27,none⟩ (.slice A' (b + 1) c'))/\MkR W (w5.setCell ⟨x.y,27,none⟩ (.slice A' (b + 1) c')) o' cf { x with pA:=A',pc:=c' } cs a (b + 1):=by
 have m1:Mv (λl=>l = .sys 12) o w (lay w o (.sys 12)) w5:=Mv.lay (S:=q02 x.pA) _ hf (λk _ hk=>S.pa.2 k hk);have k9:=S.k.go m1 zp;have m:Mv (λl=>l = .sys 12\/l = .sys 0) o w (lay w o (.sys 12)) (w5.setCell ⟨x.y,27,none⟩ (.slice A' (b + 1) c')):=(m1.mono λ_ h => .inl h).setC (λ_ => .inr S.k.2) 27 _;have hk:=k9.set 27 (.slice A' (b + 1) c');have H:MkB W (w5.setCell ⟨x.y,27,none⟩ (.slice A' (b + 1) c')) (lay w o (.sys 12)) cf x cs:=S.H.go m (by rintro _ (rfl | rfl) <;> simp) (λj hj q hq=>by rw[q07 hj]at hq;cases hq);refine⟨_,m,⟨H.B,H.hc,H.g,H.P,H.pl,H.pt,H.le,H.ne,H.L,H.R,H.se,H.pq⟩,hk,S.ca.go m zp,⟨?_,λk hk=>?_⟩⟩
 .show Own _ _ _ _ _ _ (qc7 x.x (b + 1));rw[qpd];exact own.fr ((Fr.refl (λk=>k=x.y) w5).setCell (p:=⟨x.y,27,none⟩) (λ_=>rfl) _) (λk hk e=>own.ne k9.1 zd (by rw[<- e];exact hk))
 .by_cases h:k < w.heap.size
  .exact(q0l h).trans (S.pa.2 k ((hat k hk).resolve_right zo))
  .exact q07 zo
theorem MkR.done{sc:Sc} (S:MkR W w o cf x ((List.range cf.parts.l.length).map (q33 cf sc)) cf.parts.l.length cf.parts.l.length) (nl:Hid (cf.pw.naps.l.length<=100000/\cf.pw.levels.l.length<=100000)):∃ o' x',x'.y=x.y/\SyR0 W w o' cf x' (q3i cf sc):=by
 have H:=S.H;haveI:∀ j,Decidable (o j = .sys 11\/o j = .sys 12):=λ_=>Classical.propDecidable _
 obtain⟨o2,ho⟩:∃ o2:Gh,o2=λj=>if o j = .sys 11\/o j = .sys 12 then .sys 3 else o j:=⟨_,rfl⟩
 have hk:∀ j l,l ≠ .sys 11->l ≠ .sys 12->o j=l->o2 j=l:=λj l h1 h2 e=>by
  rw[ho];show(if o j = .sys 11\/o j = .sys 12 then Lb.sys 3 else o j)=l;rw[if_neg (by rw[e];rintro(h | h);exact h1 h;exact h2 h),e]
 obtain⟨v,d,g⟩:=H.g;obtain⟨l1,l2,l3⟩:=H.pl;have hs:∀ i,i≠11->i≠12->∀ j,o j = .sys i->o2 j = .sys i:=λi h1 h2 j=>hk j _ (by simpa using h1) (by simpa using h2);refine⟨o2,{ x with eA:=none,ec:=0,mA:=none,mc:=0,mh:=[],bA:=none,bc:=0,hA:=none,hc:=0,dA:=none,dc:=0,rA:=none,rc:=0,rv:=[] },rfl,⟨H.B.b,λj hj=>hk j _ zp zp (H.B.l j hj)⟩,H.hc,S.k.re (hs 0 zd zd),⟨v,d,g.re (hs 1 zd zd)⟩,H.P,⟨hs 1 zd zd _ l1,hs 1 zd zd _ l2,hs 1 zd zd _ l3⟩,H.pt,H.le,H.ne,nl,⟨H.L.H,hs 3 zd zd _ H.L.b,hs 3 zd zd _ H.L.a,λk hk=>hs 4 zd zd _ (H.L.q k hk),H.L.al⟩,λq hq=>(H.R q hq).re (λj l hl e=>hk j l (by rintro rfl;rcases hl with h | h <;> cases h) (by rintro rfl;rcases hl with h | h <;> cases h) e),by simp[q3i],⟨S.ca.1.sl,λb f hn e=>?_⟩,⟨S.pa.1.sl,λb f hn e=>?_⟩,by simp[q3i],H.se.re (hs 5 zd zd),⟨Own.nil _ _ _,λk hk=>by cases hk⟩,⟨Own.nil _ _ _,λk hk=>by cases hk⟩,rfl,λy hy=>absurd hy List.not_mem_nil,⟨Own.nil _ _ _,λk hk=>by cases hk⟩,⟨Own.nil _ _ _,λk hk=>by cases hk⟩,⟨Own.nil _ _ _,λk hk=>by cases hk⟩,⟨Own.nil _ _ _,λk hk=>by cases hk⟩,λu hu=>absurd hu List.not_mem_nil,rfl⟩
 .have h2:o b = .sys 11:=S.ca.2 b (by obtain⟨g,hg⟩:=S.ca.1.head hn;rw[hg]at e;cases e;exact hg);rw[ho];exact if_pos (.inl h2)
 .have h2:o b = .sys 12:=S.pa.2 b (by obtain⟨g,hg⟩:=S.pa.1.head hn;rw[hg]at e;cases e;exact hg);rw[ho];exact if_pos (.inr h2)
end
def mk0(cf:Cf) (sb lb:Nat) (g:Value):Array Value:=#[.slice none 0 0,.slice none 0 0,.slice none 0 0,.slice none 0 0,ii 0,ii 0,ii 0,ii 0,.slice none 0 0,.slice none 0 0,.slice none 0 0,ii 0,g,cf.parts.hq,cf.chans.hq,cf.modes.hq,cf.pw.levels.hq,cf.pw.naps.hq,ii cf.pw.sw,ii cf.pw.idle,ii cf.pw.change,ii cf.pw.quant,ii cf.pw.slow,ii cf.pw.ppm,cf.shed.down.hq,cf.shed.up.hq,.slice none 0 0,.slice none 0 0,.slice (some ⟨sb,0,none⟩) cf.parts.l.length cf.parts.l.length,pp lb]
def Rx0:Rx:=⟨none,0,[]⟩
def Cx0:Cx:=⟨Rx0,0,0,0,0,none,0,[],0,none,0,[],0,⟨Rx0,Rx0,Rx0,Rx0⟩,0,none,0,0,[],none,0⟩
def yx0(y sb lb la lc:Nat) (lq:List Nat) (gg p g r:Nat):Yx:=⟨y,⟨gg,p,g,r,0,0⟩,λ_=>0,λ_=>Cx0,none,0,none,0,sb,lb,la,lc,lq,none,0,none,0,[],none,0,none,0,none,0,none,0,[]⟩
theorem qwk{cf:Cf} {y sb lb la lc gg p g:Nat} {lq:List Nat} (hm:W.heap.size<=m) (hb:bW W w) (hc:q1k.ok W cf) (k:Blk w y 112 (mk0 cf sb lb (pp gg)))
  (s:Blk w sb 3 ((List.replicate cf.parts.l.length (0:Nat)).map λ(j:Nat)=>(ii (j:Int):Value)).toArray) (L:LdR w lb la lc lq cf (List.replicate cf.parts.l.length 0)) (h0:0 < cf.parts.l.length)
  {v:Value} (G:Blk w gg 118 #[ii 0,ii 0,cf.pw.levels.hq,cf.pw.naps.hq,ii cf.pw.sw,ii cf.pw.idle,ii cf.pw.change,ii cf.pw.quant,ii cf.pw.slow,ii cf.pw.ppm,pp p,v,ii 0]) (P:PnR w p g r cf.pw (pl0 cf))
  (ge:m<=y/\m<=sb/\m<=lb/\m<=la/\m<=gg/\m<=p/\m<=g/\m<=r) (gq:∀ q ∈ lq,m<=q) (na:la≠y/\la≠gg/\la≠p/\la≠g/\la≠r/\la≠sb) (nr:r≠sb) :
  ∃ o,MkR W w o cf (yx0 y sb lb la lc lq gg p g r) [] 0 0/\∀ j,W.heap.size<=j->j < m->o j = .data:=by
 obtain⟨o,ho⟩:∃ o:Gh,o=λj=>if j < m then (if j < W.heap.size then .free else .data) else if j=y then .sys 0 else if j=gg\/j=p\/j=g\/j=r then .sys 1 else if j=lb\/j=la then .sys 3 else if j ∈ lq then .sys 4 else if j=sb then .sys 5 else .data:=⟨_,rfl⟩
 have Pb:=P.b;have Pm:=P.m.b;have Pr:=P.m.c;have kb:=L.kb;have n1:gg≠y:=G.ne k zd;have n2:p≠y:=Pb.ne k zd;have n3:g≠y:=Pm.ne k zd;have n4:r≠y:=Pr.ne k zd;have n5:gg≠p:=G.ne Pb zd;have n6:gg≠g:=G.ne Pm zd;have n7:gg≠r:=G.ne Pr zd;have l1:lb≠y:=kb.ne k zd;have l2:lb≠gg:=kb.ne G zd;have l3:lb≠p:=kb.ne Pb zd;have l4:lb≠g:=kb.ne Pm zd;have l5:lb≠r:=kb.ne Pr zd;have s1:sb≠y:=s.ne k zd;have s2:sb≠gg:=s.ne G zd;have s3:sb≠p:=s.ne Pb zd;have s4:sb≠g:=s.ne Pm zd;have s5:sb≠lb:=s.ne kb zd;obtain⟨g1,g2,g3,g4,g5,g6,g7,g8⟩:=ge;obtain⟨a1,a2,a3,a4,a5,a6⟩:=na;have hq:∀ q ∈ lq,∃ cs,Blk w q 241 cs/\q≠lb/\q≠la:=λq hq=>by
  obtain⟨i,hi,rfl⟩:=List.getElem_of_mem hq;have h6:i < cf.parts.l.length:=by rw[<- L.ql];exact hi
  have e:atN lq i=lq[i]:=by simp[atN,List.getElem?_eq_getElem hi]
  have h1:=L.q i h6;have h2:=L.qb i h6;rw[e]at h1 h2
  exact⟨_,h1,h2⟩
 have h7:sb ∉ lq:=λh=>by
  obtain⟨cs,h1,_⟩:=hq sb h;exact s.ne h1 zd rfl
 have oy:o y = .sys 0:=by rw[ho];show(if y < m then _ else _)=_;rw[if_neg (Nat.not_lt.2 g1),if_pos rfl]
 have og:∀ j,m<=j->j≠y->(j=gg\/j=p\/j=g\/j=r)->o j = .sys 1:=λj h1 h2 h3=>by rw[ho];show(if j < m then _ else _)=_;rw[if_neg (Nat.not_lt.2 h1),if_neg h2,if_pos h3]
 have ol:∀ j,m<=j->j≠y->¬ (j=gg\/j=p\/j=g\/j=r)->(j=lb\/j=la)->o j = .sys 3:=λj h1 h2 h3 h4=>by rw[ho];show(if j < m then _ else _)=_;rw[if_neg (Nat.not_lt.2 h1),if_neg h2,if_neg h3,if_pos h4]
 have oq:∀ j,m<=j->j≠y->¬ (j=gg\/j=p\/j=g\/j=r)->¬ (j=lb\/j=la)->j ∈ lq->o j = .sys 4:=λj h1 h2 h3 h4 h5=>by rw[ho];show(if j < m then _ else _)=_;rw[if_neg (Nat.not_lt.2 h1),if_neg h2,if_neg h3,if_neg h4,if_pos h5]
 have os:o sb = .sys 5:=by rw[ho];show(if sb < m then _ else _)=_;rw[if_neg (Nat.not_lt.2 g2),if_neg s1,if_neg (by rintro(e | e | e | e);exact s2 e;exact s3 e;exact s4 e;exact nr e.symm),if_neg (by rintro(e | e);exact s5 e;exact a6 e.symm),if_neg h7,if_pos rfl]
 have hk:la < w.heap.size:=by obtain⟨b,f,e,hb,_⟩:=L.ka.2.2.2.2 h0;cases e;exact hb
 have h8:∀ j,j < W.heap.size->o j = .free:=λj hj=>by rw[ho];show(if j < m then _ else _)=_;rw[if_pos (Nat.lt_of_lt_of_le hj hm),if_pos hj]
 have od:∀ j,W.heap.size<=j->j < m->o j = .data:=λj h1 h2=>by rw[ho];show(if j < m then _ else _)=_;rw[if_pos h2,if_neg (Nat.not_lt.2 h1)]
 have hh:∀ q ∈ lq,o q = .sys 4:=λq hq'=>by
  obtain⟨cs,h1,h2,h3⟩:=hq q hq';have e1:q≠y:=h1.ne k zd;have e2:q≠gg:=h1.ne G zd;have e3:q≠p:=h1.ne Pb zd;have e4:q≠g:=h1.ne Pm zd;have e5:q≠r:=h1.ne Pr zd;exact oq q (gq q hq') e1 (by rintro(e | e | e | e);exact e2 e;exact e3 e;exact e4 e;exact e5 e) (by rintro(e | e);exact h2 e;exact h3 e) hq'
 have h9:=og gg g5 n1 (.inl rfl);have hf:=og p g6 n2 (.inr (.inl rfl));have he:=og g g7 n3 (.inr (.inr (.inl rfl)));have hg:=og r g8 n4 (.inr (.inr (.inr rfl)));have hd:=ol lb g3 l1 (by rintro(e | e | e | e);exact l2 e;exact l3 e;exact l4 e;exact l5 e) (.inl rfl);have ha:=ol la g4 a1 (by rintro(e | e | e | e);exact a2 e;exact a3 e;exact a4 e;exact a5 e) (.inr rfl);refine⟨o,⟨⟨⟨hb,h8⟩,hc,⟨v,0,G,h9⟩,P,⟨hf,he,hg⟩,⟨Pb.lt,Pm.lt,Pr.lt⟩,⟨Nat.le_trans hm g5,Nat.le_trans hm g6,Nat.le_trans hm g7,Nat.le_trans hm g8⟩,⟨n5,n6,n7⟩,⟨L,hd,ha,hh,hk⟩,λq hq=>absurd hq (Nat.not_lt_zero _),⟨s,os⟩,λj hj q hq=>?_⟩,⟨k,oy⟩,⟨Own.nil _ _ _,λ_ h=>by cases h⟩,⟨Own.nil _ _ _,λ_ h=>by cases h⟩⟩,od⟩
 .exfalso;rw[ho]at hq
  revert hq;show(if j < m then (if j < W.heap.size then Lb.free else Lb.data) else if j=y then Lb.sys 0 else if j=gg\/j=p\/j=g\/j=r then Lb.sys 1 else if j=lb\/j=la then Lb.sys 3 else if j ∈ lq then Lb.sys 4 else if j=sb then Lb.sys 5 else Lb.data).part=some q->False
  repeat' split
  all_goals (intro h;cases h)
end Go.Proofs.YtncfcbohiodnnaaGreat
