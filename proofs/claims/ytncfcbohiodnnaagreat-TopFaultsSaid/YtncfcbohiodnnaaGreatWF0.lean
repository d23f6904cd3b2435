/- Parts of this seat's claims. -/
import Derived.Test.YtncfcbohiodnnaaGreatW39
set_option maxRecDepth 100000
set_option maxHeartbeats 6400000
namespace Go.Proofs.YtncfcbohiodnnaaGreat
open Go.RowKit
variable{w w' W wa wo W':World} {c n pt r B j b m mb q base cap id B0:Nat} {A:Option Addr} {a code what:Int} {cs:Array Value}
theorem qcj{l:List Int} (hl:SlI w A n c l) (k:Int) :
  cP 15 #[.slice A n c,ii k] w λe w'=>e = .returned (ii (q6p l k))/\w=w':=by
 have hn:=hl.len;have hll:=hl.2.1;by_cases h0:k < 0
 .have HR:=zhd (qmz l (qi5 (n:=k) zo));refine inC ?_;go_in;go_wp2_with fail;go_ret;exact⟨by rw[HR.out];rfl,rfl⟩
 .have h0':decide (k < 0)=false:=by simpa using h0
  by_cases h4:4 < k
  .have HR:=zhd (qmz l (qi5 (n:=k) zo));refine inC ?_;go_in;go_wp2_with fail;go_ret;exact⟨by rw[HR.out];rfl,rfl⟩
  .have h4':decide (4 < k)=false:=by simpa using h4
   obtain⟨j,rfl⟩:=Int.eq_ofNat_of_zero_le (show 0<=k by omega);have h7:j < 5:=zo;have h1:=qi6 l j h7;by_cases h6:j < n
   .obtain⟨b,o,rfl,hb,hc⟩:=hl.at_ h6;have h3:decide ((n:Int)<=j)=false:=by simp;omega
    by_cases hi:isB (at0 l j)=true
    .have HR:Hid (q6p l j=at0 l j):=by unfold Hid;rw[h1];unfold q9b;rw[if_pos ⟨zo,hi⟩]
     have h2:=qa9.1 hi;have d1:decide (at0 l j < 0)=false:=by simp;omega
     have d2:decide (4 < at0 l j)=false:=by simp;omega
     clear h1 hi h2;refine inC ?_;go_in;go_wp2_with fail;go_ret;exact⟨by rw[HR.out];rfl,rfl⟩
    .have HR:Hid (q6p l j=0):=by unfold Hid;rw[h1];unfold q9b;rw[if_neg (λh=>hi h.2)]
     have h2:¬ (0<=at0 l j/\at0 l j < 5):=λh=>hi (qa9.2 h);by_cases h5:at0 l j < 0
     .clear h1 hi h2;refine inC ?_;go_in;go_wp2_with fail;go_ret;exact⟨by rw[HR.out];rfl,rfl⟩
     .have d1:decide (at0 l j < 0)=false:=by simp;omega
      have d2:4 < at0 l j:=zo;clear h1 hi h2 h5;refine inC ?_;go_in;go_wp2_with fail;go_ret;exact⟨by rw[HR.out];rfl,rfl⟩
   .have HR:Hid (q6p l j=0):=by unfold Hid;rw[h1];unfold q9b;rw[if_neg (λh=>h6 zo)]
    have h3:decide ((n:Int)<=j)=true:=by simp;omega
    clear h1;refine inC ?_;go_in;go_wp2_with fail;go_ret;exact⟨by rw[HR.out];rfl,rfl⟩
def ofP(l:List Ev) (k:Int):List Ev:=l.filter λe=>e.part == k
theorem qtd(l:List Ev) (x:Ev) (k:Int):ofP (l ++ [x]) k=ofP l k ++ (if x.part=k then [x] else []):=by
 unfold ofP;rw[List.filter_append,List.filter_cons];by_cases h:x.part=k <;> simp[h]
theorem qpu(l:List Ev) (k:Int):(ofP l k).length<=l.length:=List.length_filter_le _ _
theorem qte:(Tryz.prog.info? 67).map (λi=>(i.zero,i.size,i.bytes))=some (some (.agg #[ii 0,ii 0,ii 0,ii 0,ii 0,ii 0]),6,48):=zk
theorem qzn{l:List Ev} (hl:SlG w A n c 6 Ev.f l) (hn:n<=11000000) (p:Int) :
  cP 14 #[.slice A n c,ii p] w λe w'=>∃ v,e = .returned v/\w'.ownsRow w.heap.size 67 6 v (ofP l p).length ((ofP l p).flatMap Ev.f)/\bW w w':=by
 obtain⟨i0,ha,hf,hh,hj⟩:=info_parts qte;have hln:=hl.2.1;refine inC ?_;go_in;go_wp2_with fail;go_loopw [5,6] (λv i wr=>∃ k:Nat,k<=n/\i = .int .i64 k/\wr.ownsRow w.heap.size 67 6 v (ofP (l.take k) p).length ((ofP (l.take k) p).flatMap Ev.f)/\bW w wr) (λ_ i _=>n - (intOf i).toNat)
 case atStart=>exact⟨0,zo,rfl,World.ownsRow_nil _ _ _ _,bR⟩
 case round =>
  obtain⟨k,hk,rfl,h6,h7⟩:=hrel;have hzr:=h7.size;by_cases hd:k < n
  .obtain⟨b,o,rfl,hb,hc⟩:=(hl.keep h7).at_ Ev0 hd;have h0:wr.cell? ⟨b,o + k * 6,none⟩=some (ii (atD Ev0 l k).part):=hc 0 _ rfl;have h1:=hc 1 _ rfl;have h2:=hc 2 _ rfl;have h3:=hc 3 _ rfl;have h4:=hc 4 _ rfl;have h5:=hc 5 _ rfl;have HT:Hid (ofP (l.take (k + 1)) p=ofP (l.take k) p ++ (if (atD Ev0 l k).part=p then [atD Ev0 l k] else [])):=by unfold Hid;rw[q4l Ev0 l k zo,qtd]
   have h8:=qpu (l.take k) p;rw[List.length_take]at h8
   clear hc;generalize ofP (l.take k) p=L at h6 h8 HT;generalize atD Ev0 l k=x at h0 h1 h2 h3 h4 h5 HT;by_cases he:x.part=p
   .have h9:(x.part == p)=true:=by simpa using he
    rw[if_pos he]at HT
    have HE:=zhd he;clear he;go_wp2_with (at_builtin;refine q6r wr zr _ _ 55 zr w.heap.size 67 i0 _ 6 48 Tryz.underlying55 ha hf hh hj rfl zd zd _ L.length _ zr h6 #[ii x.part,ii x.win,ii x.proc,ii x.call,ii x.code,ii x.value] rfl (by simp[Value.oneCell']) zr zo zo ?_;intro v' w2 hown2 hf2 hat2);exact⟨⟨k + 1,zo,by go_num,by rw[HT.out,List.flatMap_append,List.length_append];exact hown2,h7.trans (hf2.below (λg hg h=>qe0 h6 hg h.symm) zo)⟩,by simp[intOf];omega⟩
   .have h9:(x.part == p)=false:=by simpa using he
    rw[if_neg he,List.append_nil]at HT
    clear he;go_wp2_with fail;exact⟨⟨k + 1,zo,by go_num,by rw[HT.out];exact h6,h7⟩,by simp[intOf];omega⟩
  .obtain rfl:k=n:=zo;have HT:Hid (l.take k=l):=List.take_of_length_le zo;rw[HT.out]at h6
   go_wp2_with fail;go_ret;exact⟨_,rfl,h6,h7⟩
theorem qzo{cf:Cf} {sc:Sc} (hx:q1k.ok W cf) (hb:q2d cf sc=true):EvI cf (qhr cf sc):=by
 have G:CfG cf:=qds (by unfold q2d at hb;simp only[Bool.and_eq_true]at hb;exact hb.1);have hfr:sc.frames.l.length<=64:=by unfold q2d qxe at hb;simp only[Bool.and_eq_true,decide_eq_true_eq]at hb;exact hb.2.1
 have hP:=q84 G sc.frames.l Ca.Pg0 ⟨zd,by have:=G.m1;show(0:Int) < _;omega⟩ zd (by show(0:Int) + _<=_;omega);refine EvI.run _ (qwq hx G) λy hy z hz=>?_;obtain⟨_,h⟩:=hP.2 y.1 (List.of_mem_zip hy).1;obtain⟨m,hm⟩:=Int.eq_ofNat_of_zero_le h.m0;have h0:m < cf.modes.l.length:=by have:=h.m1;omega
 rw[hm]at hz
 exact(qb0 G h0).2.2.2 z hz
theorem qdu{cf:Cf} {sc:Sc} (hx:q1k.ok w cf) (hs:q73.ok w sc) :
  cP 4 #[.agg (Cf.lw cf),.agg #[.slice sc.progs.A sc.progs.l.length sc.progs.c,.slice sc.frames.A sc.frames.l.length sc.frames.c]] w λe w'=>e = .returned (.bool true)/\bW w w':=by
 have b0:bW w ((w.alloc (.cells (Cf.lw cf) 33)).alloc (.cells #[.slice sc.progs.A sc.progs.l.length sc.progs.c,.slice sc.frames.A sc.frames.l.length sc.frames.c] 37)):=zv;have kp:=(Blk.new w 33 (Cf.lw cf)).alloc (.cells #[.slice sc.progs.A sc.progs.l.length sc.progs.c,.slice sc.frames.A sc.frames.l.length sc.frames.c] 37);have ks:=Blk.new (w.alloc (.cells (Cf.lw cf) 33)) 37 #[.slice sc.progs.A sc.progs.l.length sc.progs.c,.slice sc.frames.A sc.frames.l.length sc.frames.c];rw[World.size_alloc]at ks
 have HX:=zhd (q1k.keep hx b0);have HS:=zhd (q73.keep hs b0);have hn3:=hx.1.1.len;clear hx hs;obtain⟨wo,rfl⟩:∃ wo:World,wo=w:=⟨_,rfl⟩
 refine inC ?_;go_in;go_upto_region 1 with fail;generalize (wo.alloc (.cells (Cf.lw cf) 33)).alloc (.cells #[.slice sc.progs.A sc.progs.l.length sc.progs.c,.slice sc.frames.A sc.frames.l.length sc.frames.c] 37)=w1 at *;obtain⟨g,hg⟩:∃ g,g=wo.heap.size:=⟨_,rfl⟩
 rw[<- hg]at kp ks ⊢
 have H7:=zhd kp;have Hh:=zhd ks;have Hc:=zhd b0;have kc:=kp.cell;have tc:=ks.cell;have lg:=kp.lt;have lt:=ks.lt;have hF:=qpt HX.out HS.out;have HG:=zhd hg;clear kp ks b0 hg;go_upto_region 3 with (first | ((go_at_call 6;refine(hF).mono ?_;rintro _ w2 ⟨b,rfl,a4,hm⟩);replace kc:=(H7.out.keep hm).cell;replace tc:=(Hh.out.keep hm).cell;replace lg:=(H7.out.keep hm).lt;replace lt:=(Hh.out.keep hm).lt;have hr:=zhd hm;cases b) | (go_at_call 8;refine(q43 _).mono ?_;rintro _ w3 ⟨rfl,hn⟩))
 .go_returns;exact⟨rfl,bt (bt Hc.out hr.out) hn⟩
 have Hx:=zhd (a4 trivial);have hR:=qhs (q1k.keep HX.out hm) (q73.keep HS.out hm) (λp hp=>by have:=Hx.out.2.1 p hp;omega);clear hF a4 hm;have a1:=zhd (q1k.keep HX.out hr.out);have ad:=zhd (q73.keep HS.out hr.out);have ht:=zhd (bt Hc.out hr.out);have Hy:=zhd (H7.out.keep hr.out);cases hb:q2d cf sc with
 | false =>
  have Hn:cP 13 #[.agg (Cf.lw cf),.agg #[.slice sc.progs.A sc.progs.l.length sc.progs.c,.slice sc.frames.A sc.frames.l.length sc.frames.c]] w2 λe w'=>(∃ z:Int,z≠0/\e = .returned (.tuple #[.agg #[.slice none 0 0,.slice none 0 0,.slice none 0 0,.slice none 0 0,ii 0,ii 0,ii 0,ii 0,.slice none 0 0,.slice none 0 0,.slice none 0 0,ii 0],ii z]))/\bW w2 w':=hR.mono λe w' h=>⟨h.2.1 hb,h.2.2⟩
  clear hR hb;go_wp2_with (first | ((go_at_call 13;refine(Hn).mono ?_;rintro _ w3 ⟨⟨z,hz,rfl⟩,hn⟩);have hz2:decide (z≠0)=true:=decide_eq_true hz;replace ht:=zhd (bt ht.out hn);clear hn) | (go_at_call 8;refine(q43 _).mono ?_;rintro _ w4 ⟨rfl,af⟩));go_returns;exact⟨rfl,bt (ht.out.alloc ht.out.size _) af⟩
 | true =>
  have Hv:=zhd (qzo HX.out hb);have Hn:cP 13 #[.agg (Cf.lw cf),.agg #[.slice sc.progs.A sc.progs.l.length sc.progs.c,.slice sc.frames.A sc.frames.l.length sc.frames.c]] w2 λe w'=>∃ q S,EvI cf S/\e = .returned (.tuple #[.agg #[.slice q.eA S.evs.length q.ec,.slice q.mA S.msgs.length q.mc,.slice q.bA S.bounds.length q.bc,.slice q.gA q.gn q.gc,ii q.i1,ii q.i2,ii q.i3,ii S.g.pl.m.total,.slice q.hA S.sheds.length q.hc,.slice q.dA S.modes.length q.dc,.slice q.rA q.rn q.rc,ii S.late],ii 0])/\RsR w2.heap.size w' q S/\bW w2 w':=hR.mono λe w' h=>by
   obtain⟨q,h1,h2⟩:=h.1 hb;exact⟨q,_,Hv.out,h1,h2,h.2.2⟩
  clear hR hb Hv;go_upto_region 6 with ((go_at_call 13;refine(Hn).mono ?_;rintro _ w3 ⟨q,S,HE,rfl,HR,hn⟩);replace HE:=zhd HE;have Hm:=zhd HR;have Ht:=zhd hn;clear HR hn)
  have kr:=Blk.new w3 62 #[.slice q.eA S.evs.length q.ec,.slice q.mA S.msgs.length q.mc,.slice q.bA S.bounds.length q.bc,.slice q.gA q.gn q.gc,ii q.i1,ii q.i2,ii q.i3,ii S.g.pl.m.total,.slice q.hA S.sheds.length q.hc,.slice q.dA S.modes.length q.dc,.slice q.rA q.rn q.rc,ii S.late];have Hp:=zA w3 (.cells #[.slice q.eA S.evs.length q.ec,.slice q.mA S.msgs.length q.mc,.slice q.bA S.bounds.length q.bc,.slice q.gA q.gn q.gc,ii q.i1,ii q.i2,ii q.i3,ii S.g.pl.m.total,.slice q.hA S.sheds.length q.hc,.slice q.dA S.modes.length q.dc,.slice q.rA q.rn q.rc,ii S.late] 62);have aa:Hid (SlG (w3.alloc (.cells #[.slice q.eA S.evs.length q.ec,.slice q.mA S.msgs.length q.mc,.slice q.bA S.bounds.length q.bc,.slice q.gA q.gn q.gc,ii q.i1,ii q.i2,ii q.i3,ii S.g.pl.m.total,.slice q.hA S.sheds.length q.hc,.slice q.dA S.modes.length q.dc,.slice q.rA q.rn q.rc,ii S.late] 62)) q.eA S.evs.length q.ec 6 Ev.f S.evs):=zhd (Hm.out.ev.keep Hp);have a0:=zhd Hm.out.le.1;have H6:=zhd (bt Ht.out Hp);clear Hp Hm;obtain⟨gr,a6⟩:∃ gr,gr=w3.heap.size:=⟨_,rfl⟩
  rw[<- a6]at kr ⊢
  clear a6;generalize w3.alloc (.cells #[.slice q.eA S.evs.length q.ec,.slice q.mA S.msgs.length q.mc,.slice q.bA S.bounds.length q.bc,.slice q.gA q.gn q.gc,ii q.i1,ii q.i2,ii q.i3,ii S.g.pl.m.total,.slice q.hA S.sheds.length q.hc,.slice q.dA S.modes.length q.dc,.slice q.rA q.rn q.rc,ii S.late] 62)=w4 at *;have Hz:=zhd kr;have hu:=zhd (Hy.out.keep H6.out);have H9:=zhd (q1k.keep a1.out H6.out);have a9:=zhd (bt ht.out H6.out);clear kr kc tc lg lt Ht H6 HX HS H7 Hh Hc HG hr a1 ad ht Hy Hx;go_upto_region 7 with fail;go_loopw [7] (λi wr=>∃ k:Nat,i = .int .i64 k/\k<=cf.parts.l.length/\bW w4 wr) (λi _=>cf.parts.l.length - (intOf i).toNat)
  case atStart=>exact⟨0,rfl,Nat.zero_le _,bR⟩
  case round =>
   obtain⟨k,rfl,hkn,h9⟩:=hrel;have Hu:=zhd h9;have c0:wr.cell? ⟨g,0,none⟩=some (.slice cf.parts.A cf.parts.l.length cf.parts.c):=(hu.out.keep h9).cell 0;have lg:=(hu.out.keep h9).lt;have r0:wr.cell? ⟨gr,0,none⟩=some (.slice q.eA S.evs.length q.ec):=(Hz.out.keep h9).cell 0;have lr:=(Hz.out.keep h9).lt;by_cases hk:k < cf.parts.l.length
   .have hO:=qzn (aa.out.keep h9) a0.out (k:Int);have hw1:wrap64 ((k:Int) + 1)=((k + 1:Nat):Int):=by unfold wrap64;omega
    have HC:=zhd (HE.out.c k hk);have Hg:Hid (ofP S.evs k=(atD Ce0 S.cs k).evs):=HE.out.f k hk;rw[Hg.out]at hO
    have hle:(atD Ce0 S.cs k).evs.length<=11000000:=by rw[<- Hg.out];exact Nat.le_trans (qpu _ _) a0.out
    obtain⟨ah,aj,a5⟩:=HC.out;have ab:=zhd a5;clear ah aj a5 HC Hg h9;generalize (atD Ce0 S.cs k).evs=l at *;go_upto_region 11 with (go_at_call 14;refine(hO).mono ?_;rintro _ w5 ⟨v,rfl,H3,a2⟩;obtain⟨A,c,rfl,hl,-⟩:=SlG.of_own H3 (λ_ _=>rfl) rfl;have Hj:=zhd hl;have hv:=zhd (bt Hu.out a2);clear H3 hl)
    clear c0 lg r0 lr hO a2;go_loopw [9] (λi wr=>∃ j:Nat,i = .int .i64 j/\j<=l.length/\bW w5 wr) (λi _=>l.length - (intOf i).toNat)
    case atStart=>exact⟨0,rfl,Nat.zero_le _,bR⟩
    case round =>
     obtain⟨j,rfl,hjn,h9⟩:=hrel;by_cases hj:j < l.length
     .have hw2:wrap64 ((j:Int) + 1)=((j + 1:Nat):Int):=by unfold wrap64;omega
      obtain⟨b,o,hA,hb,hc⟩:=(Hj.out.keep h9).at_ Ev0 hj;have h0:wr.cell? ⟨b,o + j * 6,none⟩=some (ii (atD Ev0 l j).part):=hc 0 _ rfl;have h1:wr.cell? ⟨b,o + j * 6 + 1,none⟩=some (ii (atD Ev0 l j).win):=hc 1 _ rfl;have h2:wr.cell? ⟨b,o + j * 6 + 2,none⟩=some (ii (atD Ev0 l j).proc):=hc 2 _ rfl;have h3:wr.cell? ⟨b,o + j * 6 + 3,none⟩=some (ii (atD Ev0 l j).call):=hc 3 _ rfl;have h4:wr.cell? ⟨b,o + j * 6 + 4,none⟩=some (ii (atD Ev0 l j).code):=hc 4 _ rfl;have h5:wr.cell? ⟨b,o + j * 6 + 5,none⟩=some (ii (atD Ev0 l j).value):=hc 5 _ rfl;have HN:=zhd (q3g.next ab.out j hj);have a8:=zhd h9;have Hs:=zhd hA;rw[hA];clear hc hA h9;generalize hx:atD Ev0 l j=x at *;clear hx;go_upto_region 14 with fail;have kx:=Blk.new wr 67 #[ii x.part,ii x.win,ii x.proc,ii x.call,ii x.code,ii x.value];have a3:=zA wr (.cells #[ii x.part,ii x.win,ii x.proc,ii x.call,ii x.code,ii x.value] 67);have h9:=bt a8.out a3;clear h0 h1 h2 h3 h4 h5 a3 hb;obtain⟨gx,a7⟩:∃ gx,gx=wr.heap.size:=⟨_,rfl⟩
      rw[<- a7]at kx ⊢
      clear a7;generalize wr.alloc (.cells #[ii x.part,ii x.win,ii x.proc,ii x.call,ii x.code,ii x.value] 67)=w6 at *;have h6:=zhd h9;have x1:w6.cell? ⟨gx,1,none⟩=some (ii x.win):=kx.cell 1;have x2:w6.cell? ⟨gx,2,none⟩=some (ii x.proc):=kx.cell 2;have x3:w6.cell? ⟨gx,3,none⟩=some (ii x.call):=kx.cell 3;have x4:w6.cell? ⟨gx,4,none⟩=some (ii x.code):=kx.cell 4;have lx:=kx.lt;have H8:=zhd kx;clear kx h9;by_cases h7:x.code=7
      .by_cases hc:27 < x.call
       .have _d:=True.intro;have Hk:=HN.out (.inl ⟨h7,hc⟩);obtain⟨Hq,e2,e1,e3,e4⟩:=Hk;have H2:qkh x=1:=by unfold qkh;simp[h7]
        rw[H2]at e3 e4
        have e3:(atD Ev0 l (j + 1)).call = -2:=e3;have FA:∀ w6:World,bW w5 w6->(w6.cell? ⟨b,o + (j + 1) * 6 + 1,none⟩=some (ii x.win)/\w6.cell? ⟨b,o + (j + 1) * 6 + 2,none⟩=some (ii x.proc)/\w6.cell? ⟨b,o + (j + 1) * 6 + 3,none⟩=some (ii (-2))/\w6.cell? ⟨b,o + (j + 1) * 6 + 4,none⟩=some (ii (q6p (atD Pt0 cf.parts.l k).acts.l 1)))/\b < w6.heap.size:=λw6 hw6=>by
         obtain⟨b',o',H0,hb,hh⟩:=(Hj.out.keep hw6).at_ Ev0 Hq;rw[Hs.out]at H0
         cases H0;exact⟨⟨by rw[<- e1];exact hh 1 _ rfl,by rw[<- e2];exact hh 2 _ rfl,by rw[<- e3];exact hh 3 _ rfl,by rw[<- e4];exact hh 4 _ rfl⟩,hb⟩
        have FP:∃ pb po,cf.parts.A=some ⟨pb,po,none⟩/\∀ w6:World,bW w5 w6->w6.cell? ⟨pb,po + k * 11 + 10,none⟩=some (.slice (atD Pt0 cf.parts.l k).acts.A (atD Pt0 cf.parts.l k).acts.l.length (atD Pt0 cf.parts.l k).acts.c)/\pb < w6.heap.size/\SlI w6 (atD Pt0 cf.parts.l k).acts.A (atD Pt0 cf.parts.l k).acts.l.length (atD Pt0 cf.parts.l k).acts.c (atD Pt0 cf.parts.l k).acts.l/\w6.cell? ⟨g,0,none⟩=some (.slice cf.parts.A cf.parts.l.length cf.parts.c)/\g < w6.heap.size:=by
         obtain⟨pb,po,hd,-,-⟩:=(q1k.keep H9.out hv.out).1.1.at_ Pt0 hk;refine⟨pb,po,hd,λw6 hw6=>?_⟩;have hq:=bt hv.out hw6;have H5:=(q1k.keep H9.out hq).1;obtain⟨aq,ar,he,Hr,H4⟩:=H5.1.at_ Pt0 hk;rw[hd]at he
         cases he;rw[show qcu.sz=11 from rfl]at H4
         exact⟨H4 10 _ rfl,Hr,(H5.2 _ (q0h (d:=Pt0) hk)).2.2.2.2.2.2.2.2.2.2,(hu.out.keep hq).cell 0,(hu.out.keep hq).lt⟩
        obtain⟨pb,po,hd,FP⟩:=FP;rw[hd]at FP
        have ak:decide (((l.length:Nat):Int)<=((j + 1:Nat):Int))=false:=by simp;omega
        have ap:IntKind.i64.wrap ((j:Int) + 1)=((j + 1:Nat):Int):=by rw[IntWalk.i64_in _ zo];omega
        have am:decide (((l.length:Nat):Int)<=(j:Int) + 1)=false:=by simp;omega
        have an:¬ (((l.length:Nat):Int)<=(j:Int) + 1):=zo;have hy:=zhd FA;have Ha:=zhd h7;have Hf:=zhd FP;rw[h7]at x4
        clear FA FP e1 e2 e3 e4 H2 hd h7 HN;generalize (atD Pt0 cf.parts.l k).acts=ac at *;obtain⟨⟨y1,y2,y3,y4⟩,yl⟩:=hy.out w6 h6.out;go_upto_region 15 with fail;go_quiet (fail)
        have hf:=q19 h6.out nq;have ha:=zhd (H8.out.keep (q0a _ w6 nq));clear x1 x2 x3 x4 lx y1 y2 y3 y4 yl h6 H8;generalize w6.drewN nq=w7 at *;have He:=zhd hf;obtain⟨⟨y1,y2,y3,y4⟩,yl⟩:=hy.out w7 hf;obtain⟨pa,pl,H1,ae,gl⟩:=Hf.out w7 hf;have Hb:=zhd H1;have x4:w7.cell? ⟨gx,4,none⟩=some (ii x.code):=ha.out.cell 4;rw[Ha.out]at x4
        have lx:=ha.out.lt;clear H1 hf;go_upto_region 20 with fail;have hA:=qcj (Hb.out.keep (Below.refl _ w7).drew) 1;refine zW [(23,0)] λK' hK'=>?_;go_wp2_with (go_at_call 15;refine hA.mono ?_;rintro _ _ ⟨rfl,rfl⟩);refine zGZ (fO bR.drew _) ?_;clear hK' K';go_wp2_with fail;exact⟨⟨j + 1,by go_num,hj,He.out.drew⟩,by simp[intOf];omega⟩
       .rw[h7]at x4
        have HD:Hid (x.code=7):=h7;clear h7;go_wp2_with fail;exact⟨⟨j + 1,by go_num,hj,h6.out⟩,by simp[intOf];omega⟩
      .by_cases h8:x.code=8
       .by_cases hc:0 < x.call
        .have _d:=True.intro;have Hk:=HN.out (.inr ⟨h8,hc⟩);obtain⟨Hq,e2,e1,e3,e4⟩:=Hk;have H2:qkh x=2:=by unfold qkh;simp[h8]
         rw[H2]at e3 e4
         have e3:(atD Ev0 l (j + 1)).call = -3:=e3;have FA:∀ w6:World,bW w5 w6->(w6.cell? ⟨b,o + (j + 1) * 6 + 1,none⟩=some (ii x.win)/\w6.cell? ⟨b,o + (j + 1) * 6 + 2,none⟩=some (ii x.proc)/\w6.cell? ⟨b,o + (j + 1) * 6 + 3,none⟩=some (ii (-3))/\w6.cell? ⟨b,o + (j + 1) * 6 + 4,none⟩=some (ii (q6p (atD Pt0 cf.parts.l k).acts.l 2)))/\b < w6.heap.size:=λw6 hw6=>by
          obtain⟨b',o',H0,hb,hh⟩:=(Hj.out.keep hw6).at_ Ev0 Hq;rw[Hs.out]at H0
          cases H0;exact⟨⟨by rw[<- e1];exact hh 1 _ rfl,by rw[<- e2];exact hh 2 _ rfl,by rw[<- e3];exact hh 3 _ rfl,by rw[<- e4];exact hh 4 _ rfl⟩,hb⟩
         have FP:∃ pb po,cf.parts.A=some ⟨pb,po,none⟩/\∀ w6:World,bW w5 w6->w6.cell? ⟨pb,po + k * 11 + 10,none⟩=some (.slice (atD Pt0 cf.parts.l k).acts.A (atD Pt0 cf.parts.l k).acts.l.length (atD Pt0 cf.parts.l k).acts.c)/\pb < w6.heap.size/\SlI w6 (atD Pt0 cf.parts.l k).acts.A (atD Pt0 cf.parts.l k).acts.l.length (atD Pt0 cf.parts.l k).acts.c (atD Pt0 cf.parts.l k).acts.l/\w6.cell? ⟨g,0,none⟩=some (.slice cf.parts.A cf.parts.l.length cf.parts.c)/\g < w6.heap.size:=by
          obtain⟨pb,po,hd,-,-⟩:=(q1k.keep H9.out hv.out).1.1.at_ Pt0 hk;refine⟨pb,po,hd,λw6 hw6=>?_⟩;have hq:=bt hv.out hw6;have H5:=(q1k.keep H9.out hq).1;obtain⟨aq,ar,he,Hr,H4⟩:=H5.1.at_ Pt0 hk;rw[hd]at he
          cases he;rw[show qcu.sz=11 from rfl]at H4
          exact⟨H4 10 _ rfl,Hr,(H5.2 _ (q0h (d:=Pt0) hk)).2.2.2.2.2.2.2.2.2.2,(hu.out.keep hq).cell 0,(hu.out.keep hq).lt⟩
         obtain⟨pb,po,hd,FP⟩:=FP;rw[hd]at FP
         have ak:decide (((l.length:Nat):Int)<=((j + 1:Nat):Int))=false:=by simp;omega
         have ap:IntKind.i64.wrap ((j:Int) + 1)=((j + 1:Nat):Int):=by rw[IntWalk.i64_in _ zo];omega
         have am:decide (((l.length:Nat):Int)<=(j:Int) + 1)=false:=by simp;omega
         have an:¬ (((l.length:Nat):Int)<=(j:Int) + 1):=zo;have hy:=zhd FA;have Ha:=zhd h8;have Hf:=zhd FP;rw[h8]at x4
         clear FA FP e1 e2 e3 e4 H2 hd h7 h8 HN;generalize (atD Pt0 cf.parts.l k).acts=ac at *;obtain⟨⟨y1,y2,y3,y4⟩,yl⟩:=hy.out w6 h6.out;go_upto_region 15 with fail;go_quiet (fail)
         have hf:=q19 h6.out nq;have ha:=zhd (H8.out.keep (q0a _ w6 nq));clear x1 x2 x3 x4 lx y1 y2 y3 y4 yl h6 H8;generalize w6.drewN nq=w7 at *;have He:=zhd hf;obtain⟨⟨y1,y2,y3,y4⟩,yl⟩:=hy.out w7 hf;obtain⟨pa,pl,H1,ae,gl⟩:=Hf.out w7 hf;have Hb:=zhd H1;have x4:w7.cell? ⟨gx,4,none⟩=some (ii x.code):=ha.out.cell 4;rw[Ha.out]at x4
         have lx:=ha.out.lt;clear H1 hf;go_upto_region 20 with fail;have hA:=qcj (Hb.out.keep (Below.refl _ w7).drew) 2;refine zW [(23,0)] λK' hK'=>?_;go_wp2_with (go_at_call 15;refine hA.mono ?_;rintro _ _ ⟨rfl,rfl⟩);refine zGZ (fO bR.drew _) ?_;clear hK' K';go_wp2_with fail;exact⟨⟨j + 1,by go_num,hj,He.out.drew⟩,by simp[intOf];omega⟩
        .rw[h8]at x4
         clear h7 h8;go_wp2_with fail;exact⟨⟨j + 1,by go_num,hj,h6.out⟩,by simp[intOf];omega⟩
       .go_wp2_with fail;exact⟨⟨j + 1,by go_num,hj,h6.out⟩,by simp[intOf];omega⟩
     .obtain rfl:j=l.length:=zo;go_wp2_with fail;exact⟨⟨k + 1,by go_num,hk,bt hv.out h9⟩,by simp[intOf];omega⟩
   .obtain rfl:k=cf.parts.l.length:=zo;clear hk;go_wp2_with (go_at_call 8;refine(q43 _).mono ?_;rintro _ w9 ⟨rfl,ag⟩);go_returns;exact⟨rfl,bt (bt a9.out Hu.out) ag⟩
end Go.Proofs.YtncfcbohiodnnaaGreat
