/- Parts of this seat's claims. -/
import Derived.Test.YtncfcbohiodnnaaGreatW11
import Derived.Lib.MinMax
set_option maxRecDepth 100000
set_option maxHeartbeats 6400000
namespace Go.Proofs.YtncfcbohiodnnaaGreat
open Go.RowKit
variable{w w' W wa wo W':World} {c n pt r B j b m mb q base cap id B0:Nat} {A:Option Addr} {a code what:Int} {cs:Array Value}
theorem qr9{p g:Nat} {c:Pw} {x:Pn} {e:Int} {tm:Array Value} {R:Ending->World->Prop} (H:PnR W p g r c x) (k:Blk W q 63 #[ii e]) (hq:q≠p) (ht:tm[8]?=some (pp q))
  (f:Fr (S3 p g r) w W) (h:∀ w',PnR w' p g r c (if e=0 then qh0 x else x)->Fr (S3 p g r) w w'->R (.returned (ii e)) w') :
  bodyPostD Tryz.prog Tryz.f134 R Exit.ret { tmps:=tm,defers:=[{ target:=Target.fn (Fn.func 204) #[],args:=#[pp p,pp q] }] } W:=by
 refine leaves_cons (f:=204) (args:=#[pp p,pp q]) zp (by simp[go_sem]) ?_;refine(qad H (k.cell 0)).mono ?_;rintro _ u' w'' ⟨rfl,rfl,H2,f2⟩;have c1:=(k.fr f2 hq).cell 0;exact⟨_,by simp[results,Tryz.results134,go_sem,ht,c1],h _ H2 (f.trans' f2 λ_ _ h => .inl h)⟩
def qx8(c:Pw) (y:Np) (ns:Int):List Sp:=[⟨3,0,c.change,y.enter⟩,⟨2,0,y.power,ns⟩,⟨3,0,c.change,y.wake⟩]
def qex(c:Pw) (x:Pn) (k n d:Int):Int×Pn :=
 if k < 0\/(c.naps.l.length:Int)<=k then (2,x) else if (q0j c.slow d n).2≠0 then (2,x)
 else ((q0r x (qx8 c (atD Np0 c.naps.l k.toNat) (q0j c.slow d n).1)).1,if (q0r x (qx8 c (atD Np0 c.naps.l k.toNat) (q0j c.slow d n).1)).1=0 then qh0 (q0r x (qx8 c (atD Np0 c.naps.l k.toNat) (q0j c.slow d n).1)).2 else (q0r x (qx8 c (atD Np0 c.naps.l k.toNat) (q0j c.slow d n).1)).2)
theorem qjz(h p n:Int):i64 (q0j h p n).1:=by
 unfold q0j;split
 .unfold i64;simp
 .exact q9u _ _ _ _
theorem qra{p g:Nat} {c:Pw} {x:Pn} {k n d:Int} (H:PnR w p g r c x) (hc:q1y.ok W c) (hW:bW W w) (hn:i64 n):cP 134 #[pp p,ii k,ii n,ii d] w λe w'=>e = .returned (ii (qex c x k n d).1)/\PnR w' p g r c (qex c x k n d).2/\Fr (S3 p g r) w w':=by
 have hE:qex c x k n d=qex c x k n d:=rfl
 conv at hE=>rhs;unfold qex
 generalize qex c x k n d=R at *;have hp:=λw=>q6t (w:=w) (h:=c.slow) (p:=d) hn;have hm:=zhd (qjz c.slow d n);generalize q0j c.slow d n=E at *;have hq:w.heap.size≠p:=by have:=H.b.lt;omega
 have h5:w.heap.size≠g:=by have:=H.m.b.lt;omega
 have h6:w.heap.size≠r:=by have:=H.m.c.lt;omega
 have bq:=zA w (.cells #[ii 0] 63);have kq:=Blk.new w 63 #[ii 0];have H1:=H.keep bq;by_cases a1:k < 0\/(c.naps.l.length:Int)<=k
 .have HE:=zhd (hE.trans (if_pos a1));clear hE;have kk:=H1.cell;have b9:=zA w (.cells #[ii 2] 63);go_enter_defers Tryz.func134,Tryz.ntmps134
  go_wp2_with (go_at_call 70;refine(q0z H1).mono ?_;rintro _ _ ⟨rfl,rfl⟩)
  all_goals first | (exfalso;simp at *;omega) | exact⟨_,by simp[results,Tryz.results134,go_sem],q0w (congrArg Prod.fst HE.out).symm,by rw[HE.out];exact H.keep b9,fO b9 _⟩
 rw[if_neg a1]at hE
 obtain⟨j,rfl⟩:=Int.eq_ofNat_of_zero_le (show 0<=k by omega);have hj:j < c.naps.l.length:=zo;rw[Int.toNat_natCast]at hE
 have b1:decide ((j:Int) < 0)=false:=decide_eq_false zo;have b2:decide ((c.naps.l.length:Int)<=j)=false:=decide_eq_false zo;have hsl:=hc.2.2.2.2.2.2.1;have lp:=H1.b.lt;have lq:=kq.lt;have h3:=bt hW bq;go_enter_defers Tryz.func134,Tryz.ntmps134
 go_upto_region 1 with fail;generalize w.alloc (.cells #[ii 0] 63)=w1 at *;obtain⟨q,hh⟩:∃ q,q=w.heap.size:=⟨_,rfl⟩
 have hv:w.heap.size<=q:=zo;rw[<- hh]at hq h5 h6 kq lq ⊢
 clear hh;have kk:=H1.cell;have hD:=q0z H1;clear a1;go_wp2_with (go_at_call 70;refine(hD).mono ?_;rintro _ _ ⟨rfl,rfl⟩);refine(hp _).mono ?_;rintro _ w3 ⟨rfl,h1⟩;replace H1:=H1.keep h1;replace kq:=kq.keep h1;replace h3:=bt h3 h1;replace bq:=bt bq h1;replace kk:=H1.cell;replace lp:=H1.b.lt;replace lq:=kq.lt;clear h1 hD;by_cases a2:E.2=0;rotate_left
 .have HE:=zhd (hE.trans (if_pos a2));have b3:(E.2 != 0)=true:=by simpa using a2
  have fz:=kq.frozen 0;have kc:=kq.cell 0;clear hE a2;go_wp2_with fail;have hB:=(bq.setCell (p:=⟨q,0,none⟩) hv (ii 2))
  exact⟨_,by simp[results,Tryz.results134,go_sem,kc],q0w (congrArg Prod.fst HE.out).symm,by rw[HE.out];exact H1.offq hq.symm h5.symm h6.symm,fO hB _⟩
 have h8:=hE.trans (if_neg (by simpa using a2));clear hE;obtain⟨sb,so,hA,hu,h2⟩:=(qe8.keep hc.2.1 h3).1.at_ Np0 hj;rw[show z1s.sz=3 from rfl]at h2
 have hy:=hc.2.1.2 _ (q0h (d:=Np0) hj);have s0:w3.cell? ⟨sb,so + j * 3,none⟩=some (ii (atD Np0 c.naps.l j).power):=h2 0 _ rfl;have s1:=h2 1 _ rfl;have s2:=h2 2 _ rfl;generalize atD Np0 c.naps.l j=y at *;rw[hA]at kk
 have b3:(E.2 != 0)=false:=by simpa using a2
 obtain⟨l,h0⟩:∃ l:List Sp,l=qx8 c y E.1:=⟨_,rfl⟩
 rw[<- h0]at h8
 unfold qx8 at h0;have HE:=zhd h8;have h9:i64 c.change:=hc.2.2.2.2.1;have hr:∀ s ∈ l,i64 s.power/\i64 s.ns:=by
  rw[h0];intro s hs;simp only[List.mem_cons,List.not_mem_nil,or_false]at hs;rcases hs with rfl | rfl | rfl
  .exact⟨h9,hy.2.1⟩
  .exact⟨hy.1,hm.out⟩
  .exact⟨h9,hy.2.2⟩
 have b5:=zA w3 (.cells (Np.lw y) 219);have kd:=Blk.new w3 219 (Np.lw y);clear h8 a2 h2 h9 hy hA H;go_upto_region 10 with fail;generalize hw5:w3.alloc (.cells (Np.lw y) 219)=w5 at b5 kd ⊢;replace H1:=H1.keep b5;replace kq:=kq.keep b5;replace kk:=H1.cell;have fq:=fO (bt bq b5) (S3 p g r);obtain⟨d5,hg⟩:∃ d5,d5=w3.heap.size:=⟨_,rfl⟩
 rw[<- hg]at kd ⊢
 clear hg hw5 s0 s1 s2 hu b5 bq h3 lp lq;have l1:=H1.b.lt;have ld:=kd.lt;have kdc:=kd.cell;refine zW [(21,0),(0,2),(0,2)] λK' hK'=>?_;go_wp2_with fail;have bA:=(zA w5 (.cells #[ii 3,ii 0,ii c.change,ii y.enter,ii 2,ii 0,ii y.power,ii E.1,ii 3,ii 0,ii c.change,ii y.wake] 374)).drew;have kA:Blk (w5.alloc (.cells #[ii 3,ii 0,ii c.change,ii y.enter,ii 2,ii 0,ii y.power,ii E.1,ii 3,ii 0,ii c.change,ii y.wake] 374)).drew w5.heap.size 374 #[ii 3,ii 0,ii c.change,ii y.enter,ii 2,ii 0,ii y.power,ii E.1,ii 3,ii 0,ii c.change,ii y.wake]:=Blk.new w5 374 #[ii 3,ii 0,ii c.change,ii y.enter,ii 2,ii 0,ii y.power,ii E.1,ii 3,ii 0,ii c.change,ii y.wake];refine zG (fO bA _) ?_;clear hK' K';generalize (w5.alloc (.cells #[ii 3,ii 0,ii c.change,ii y.enter,ii 2,ii 0,ii y.power,ii E.1,ii 3,ii 0,ii c.change,ii y.wake] 374)).drew=w2 at bA kA ⊢;have he:w5.heap.size≠p:=by have:=H1.b.lt;omega
 have hd:w5.heap.size≠g:=by have:=H1.m.b.lt;omega
 have hf:w5.heap.size≠r:=by have:=H1.m.c.lt;omega
 have hl:=qzv (l:=l) kA (by rw[h0];rfl) (by rw[h0];simp);have h7:=q7j (H1.keep bA) hl (by rw[h0];simp) hr he hd hf;rw[show l.length=3 by rw[h0];rfl]at h7
 have hk:=kq.keep bA;have f2:=fq.trans (fO bA (S3 p g r));obtain⟨b,hb⟩:∃ b,b=w5.heap.size:=⟨_,rfl⟩
 rw[<- hb]at h7 ⊢
 clear kA hl he hd hf hb bA kq fq H1 kk l1 kd;refine qwB (λK' hK'=>?_);go_wp2_with fail;refine h7.mono ?_;rintro _ w3 ⟨rfl,H3,f3⟩;generalize q0r x l=T at *;obtain⟨T1,T2⟩:=T;simp only at *;have ht:¬ (q=p\/q=g\/q=r):=by rintro(h | h | h);exact hq h;exact h5 h;exact h6 h
 have ha:=hk.fr f3 ht;replace f3:=f2.trans (S:=S3 p g r) f3;refine hK' _ _ rfl ?_;clear hK' K' h7 hk f2
 try simp only[q03,tkO,dpO]
 repeat(go_big_quiet_step (fail))
 refine qwB (λK' hK'=>?_);have kc:=ha.cell 0;have kf:=ha.frozen 0;go_wp2_with fail;refine zE ?_;clear hK' K';go_wp2_with fail;refine qr9 (w:=w) (x:=T2) (e:=T1) (H3.offq hq.symm h5.symm h6.symm) (ha.set_ 0 _) hq rfl (f3.setCell (p:=⟨q,0,none⟩) (λh=>absurd h (by simp;omega)) _) ?_;intro w' h4 f4;exact⟨q0w (congrArg Prod.fst HE.out).symm,by rw[HE.out];exact h4,f4⟩
theorem qk0{a:Addr} {l:List Int} (h:Sl w (some a) n c 1 (l.map (Value.int .i64))) (hln:l.length=n) (hn:n<=1000000) :
  cP 72 #[.slice (some a) n c] w λe w'=>(∃ A c',e = .returned (.slice A n c'))/\bW w w':=by
 obtain⟨i0,h4,h6,h7,h8⟩:=info_parts qd9;have h3:=zA w (.cells #[] 3);have h2:(w.alloc (.cells #[] 3)).ownsRow w.heap.size 3 1 (.slice (some ⟨w.heap.size,0,none⟩) 0 0) 0 []:=⟨zp,.inr ⟨w.heap.size,0,#[],rfl,nL,heap_alloc_new w _,nL,by unfold maxLen;omega,zp,zp⟩⟩
 have h5:=h.keep h3;have h1:∀ (j:Nat) (u:Value),(l.map (Value.int .i64))[j]?=some u->(w.alloc (.cells #[] 3)).cell? (a.add j)=some u:=by
  intro j u hu;have hlt:j < n:=by
   have:=(List.getElem?_eq_some_iff.1 hu).1;rw[List.length_map,hln]at this
   exact this
  obtain⟨b,o,e,_,hc⟩:=h5.at_ zo;cases e;rw[q11];exact hc j u hu
 have h0:∀ u ∈ l.map (Value.int .i64),u.oneCell'=true:=by
  intro u hu;obtain⟨x,_,rfl⟩:=List.mem_map.1 hu;rfl
 have hlen:=hln;have hnil:=λw=>Lib.run_eql_slice_nil (P:=Tryz.prog) w 29 3 (some a) n c 0 0 Tryz.underlying29;refine inC ?_;go_in;go_wp2_with (at_builtin;refine wpList_append_own_at _ zr _ _ 29 zr w.heap.size 3 i0 _ 1 8 Tryz.underlying29 h4 h6 h7 h8 rfl zd _ 0 _ zr h2 a n c (l.map (Value.int .i64)) zr (by simp;omega) h1 h0 (by unfold maxLen;omega) zo zp ?_;intro v' w1 hown1 hg1 hnil1 hat1);go_ret;rw[Nat.zero_add,List.nil_append]at hown1
 obtain⟨A,c',rfl,_⟩:=Sl.of_own hown1;exact⟨⟨A,c',rfl⟩,h3.grown hg1 zp (λk e=>by cases e;exact nL)⟩
theorem MtR.sl{g:Nat} {m:Mt} (H:MtR w g r m):Sl w (some ⟨r,0,none⟩) m.run.length m.run.length 1 (m.run.map (Value.int .i64)) :=
 ⟨zp,nL,by have:=H.n;unfold maxLen;omega,(λe=>by cases e),λ_=>⟨r,0,rfl,H.c.lt,λj u hu=>by rw[Nat.zero_add,H.c.cell j];simpa using hu⟩⟩
theorem qbs{g:Nat} {m:Mt} (H:MtR w g r m):cP 32 #[pp g] w λe w'=>(∃ A c',e = .returned (.agg #[.slice A m.run.length c',ii m.idle,ii m.sleep,ii m.chg]))/\bW w w':=by
 have b0:=zA w (.cells #[.slice none 0 0,ii 0,ii 0,ii 0] 59);have k0:=Blk.new w 59 #[.slice none 0 0,ii 0,ii 0,ii 0];have H1:=H.keep b0;have kk:=H1.cell;have lg:=H1.b.lt;refine inC ?_;go_in;go_wp2_with (first | (go_at_call 71;refine(qac H1).mono ?_;rintro _ _ ⟨rfl,rfl⟩) | (go_at_call 72;refine(up (W:=w) (qk0 (l:=m.run) (Sl.keep H.sl zv) rfl (by have:=H.n;omega)) zv).mono ?_;rintro _ w1 ⟨⟨A,c',rfl⟩,hb,hs,hc,hf,hl,hB⟩))
 try simp only[Exit.inBlock,Exit.then]
 have K0:=(((k0.alloc _).keep hB).far (p:=⟨w.heap.size + 1,0,none⟩) zp (.slice A m.run.length c'))
 have rK:=Blk.row (vs:=[.slice A m.run.length c',ii m.idle,ii m.sleep,ii m.chg]) K0 rfl;have rB:bW w (setRow (w1.setCell ⟨w.heap.size + 1,0,none⟩ (.slice A m.run.length c')) w.heap.size 0 [.slice A m.run.length c',ii m.idle,ii m.sleep,ii m.chg]):=Below.row _ 0 (hb.setCell zp _) nL;simp only[setRow,Nat.zero_add]at rK rB;generalize ((((w1.setCell ⟨w.heap.size + 1,0,none⟩ (.slice A m.run.length c')).setCell ⟨w.heap.size,0,none⟩ (.slice A m.run.length c')).setCell ⟨w.heap.size,1,none⟩ (ii m.idle)).setCell ⟨w.heap.size,2,none⟩ (ii m.sleep)).setCell ⟨w.heap.size,3,none⟩ (ii m.chg)=w9 at *;have y:=rK.cell;have y0:=y 0;have y1:=y 1;have y2:=y 2;have y3:=y 3;exact bodyPost_ret (by simp[results,Tryz.results32,go_sem,y0,y1,y2,y3]) rfl ⟨⟨A,c',rfl⟩,rB⟩
theorem qn7(A:Option Addr) (n c':Nat) (a b c:Int) (w:World):(Instr.field 59 (.agg #[.slice A n c',ii a,ii b,ii c]) 0).run Tryz.prog w = .ok (.slice A n c') w:=zk
def qi9(c:Pw) (x:Pn) (k n:Int):Int×Pn :=
 if k < 0\/(x.m.run.length:Int)<=k then (2,x) else if (q8d c x n).2≠0 then ((q8d c x n).2,x)
 else if (q0r x [⟨0,k,(atD Lv0 c.levels.l x.level.toNat).power,wrap64 ((q8d c x n).1 - x.now)⟩]).1≠0 then q0r x [⟨0,k,(atD Lv0 c.levels.l x.level.toNat).power,wrap64 ((q8d c x n).1 - x.now)⟩]
 else (0,{ (q0r x [⟨0,k,(atD Lv0 c.levels.l x.level.toNat).power,wrap64 ((q8d c x n).1 - x.now)⟩]).2 with done:=wrap64 ((q0r x [⟨0,k,(atD Lv0 c.levels.l x.level.toNat).power,wrap64 ((q8d c x n).1 - x.now)⟩]).2.done + n) })
theorem q9c{p g:Nat} {c:Pw} {x:Pn} {k n:Int} (H:PnR w p g r c x) (hcf:q1y.ok W c) (hW:bW W w) (h0:0<=x.level) (h1:x.level < c.levels.l.length):cP 259 #[pp p,ii k,ii n] w λe w'=>e = .returned (ii (qi9 c x k n).1)/\PnR w' p g r c (qi9 c x k n).2/\Fr (S3 p g r) w w':=by
 have hE:qi9 c x k n=qi9 c x k n:=rfl
 conv at hE=>rhs;unfold qi9
 generalize qi9 c x k n=R at *;have h4:=λw' (hb:bW w w')=>qr8 (w:=w') (n:=n) (H.keep hb) hcf (bt hW hb) h0 h1;have h3:=qbs (w:=w) H.m;have hD:=q0z H;generalize q8d c x n=E at *;have kk:=H.cell;have lp:=H.b.lt;have hfd:=λA c' w=>qn7 A x.m.run.length c' x.m.idle x.m.sleep x.m.chg w;by_cases a1:k < 0\/(x.m.run.length:Int)<=k
 .have HE:=zhd (hE.trans (if_pos a1));clear hE;refine inC ?_;go_in;go_wp2_with (first | (go_at_call 70;refine(hD).mono ?_;rintro _ _ ⟨rfl,rfl⟩) | (go_at_call 32;refine(up (W:=w) (h3) zv).mono ?_;rintro _ w1 ⟨⟨A,c',rfl⟩,hb,hs,hc,hf,hl,hB⟩))
  all_goals first | (exfalso;simp at *;omega) | (go_returns;exact⟨q0w (congrArg Prod.fst HE.out).symm,by rw[HE.out];first | exact H | exact H.keep hb,by first | exact Fr.refl _ _ | exact fO hb _⟩)
 rw[if_neg a1]at hE
 have b1:decide (k < 0)=false:=decide_eq_false zo;have b2:decide ((x.m.run.length:Int)<=k)=false:=decide_eq_false zo;by_cases a2:E.2≠0
 .have HE:=zhd (hE.trans (if_pos a2));have b3:(E.2 != 0)=true:=by simpa using a2
  clear hE a1;refine inC ?_;go_in;go_wp2_with (first | (go_at_call 70;refine(hD).mono ?_;rintro _ _ ⟨rfl,rfl⟩) | (go_at_call 32;refine(up (W:=w) (h3) zv).mono ?_;rintro _ w1 ⟨⟨A,c',rfl⟩,hb,hs,hc,hf,hl,hB⟩) | (go_at_call 302;refine(up (W:=w) (h4 _ zv) zv).mono ?_;rintro _ w1 ⟨rfl,hb,hs,hc,hf,hl,hB⟩))
  all_goals first | (exfalso;simp at *;omega) | (go_returns;exact⟨q0w (congrArg Prod.fst HE.out).symm,by rw[HE.out];exact H.keep hb,fO hb _⟩)
 rw[if_neg a2]at hE
 have b3:(E.2 != 0)=false:=by simpa using a2
 obtain⟨j,hj⟩:=Int.eq_ofNat_of_zero_le h0;have ha:j < c.levels.l.length:=zo;have hw1:wrap64 (j:Int)=j:=by have:=hcf.1.1.len;unfold wrap64;omega
 rw[hj,Int.toNat_natCast]at hE
 have hd:=(hcf.1.2 _ (q0h (d:=Lv0) ha)).2;obtain⟨l,h2⟩:∃ l:List Sp,l = [⟨0,k,(atD Lv0 c.levels.l j).power,wrap64 (E.1 - x.now)⟩]:=⟨_,rfl⟩
 rw[<- h2]at hE
 have HE:=zhd hE;have he:∀ s ∈ l,i64 s.power/\i64 s.ns:=by rw[h2];intro y hy;rw[List.mem_singleton.1 hy];exact⟨hd,q3v _⟩
 clear hE a1 a2;refine inC ?_;go_in;go_wp2_with (first | (go_at_call 70;refine(hD).mono ?_;rintro _ _ ⟨rfl,rfl⟩) | (go_at_call 32;refine(up (W:=w) (h3) zv).mono ?_;rintro _ w1 ⟨⟨A,c',rfl⟩,hb,hs,hc,hf,hl,hB⟩) | (go_at_call 302;refine(up (W:=w) (h4 _ zv) zv).mono ?_;rintro _ w1 ⟨rfl,hb,hs,hc,hf,hl,hB⟩))
 all_goals first | (exfalso;simp at *;omega) | skip
 have H1:=H.keep hb;obtain⟨sb,so,hA,hg,h5⟩:=(qb9.keep hcf.1 (bt hW hb)).1.at_ Lv0 ha;rw[show qxk.sz=2 from rfl]at h5
 have s1:=h5 1 _ rfl;generalize atD Lv0 c.levels.l j=y at *;have fq:=fO hb (S3 p g r);clear kk lp hc hf hl hB h5 hd h4 h3 hD;have kk:=H1.cell;rw[hA,hj]at kk
 have l1:=H1.b.lt;generalize w1=w5 at *;refine zW [(23,0),(0,2)] λK' hK'=>?_;go_wp2_with fail;have bA:=(zA w5 (.cells #[ii 0,ii k,ii y.power,ii (wrap64 (E.1 - x.now))] 374)).drew;have kA:Blk (w5.alloc (.cells #[ii 0,ii k,ii y.power,ii (wrap64 (E.1 - x.now))] 374)).drew w5.heap.size 374 #[ii 0,ii k,ii y.power,ii (wrap64 (E.1 - x.now))]:=Blk.new w5 374 #[ii 0,ii k,ii y.power,ii (wrap64 (E.1 - x.now))];refine zG (fO bA _) ?_;clear hK' K';generalize (w5.alloc (.cells #[ii 0,ii k,ii y.power,ii (wrap64 (E.1 - x.now))] 374)).drew=w2 at bA kA ⊢;have h8:w5.heap.size≠p:=by have:=H1.b.lt;omega
 have h7:w5.heap.size≠g:=by have:=H1.m.b.lt;omega
 have h9:w5.heap.size≠r:=by have:=H1.m.c.lt;omega
 have hl:=qzv (l:=l) kA (by rw[h2];rfl) (by rw[h2];simp);have h6:=q7j (H1.keep bA) hl (by rw[h2];simp) he h8 h7 h9;rw[show l.length=1 by rw[h2];rfl]at h6
 have f2:=fq.trans (fO bA (S3 p g r));obtain⟨b,hb⟩:∃ b,b=w5.heap.size:=⟨_,rfl⟩
 rw[<- hb]at h6 ⊢
 clear kA hl h8 h7 h9 hb bA fq H1 kk l1 s1 hg;refine qwB (λK' hK'=>?_);go_wp2_with fail;refine h6.mono ?_;rintro _ w3 ⟨rfl,H3,f3⟩;generalize q0r x l=T at *;obtain⟨T1,T2⟩:=T;simp only at *;replace f3:=f2.trans (S:=S3 p g r) f3;refine hK' _ _ rfl ?_;clear hK' K'
 try simp only[q03,tkO,dpO]
 repeat(go_big_quiet_step (fail))
 have kp:=H3.cell;have fp:=H3.b.frozen;by_cases a4:T1=0
 .subst a4;have HF:=zhd (HE.out.trans (if_neg zp));clear HE;refine wpQuiet_nil ?_;go_wp2_with fail;go_returns;exact⟨q0w (congrArg Prod.fst HF.out).symm,by rw[HF.out];exact⟨H3.b.set_ 2 _,⟨H3.m.b.far H3.pg.symm _,H3.m.c.far H3.pr.symm _,H3.m.ne,H3.m.n⟩,H3.pg,H3.pr⟩,f3.setCell (p:=⟨p,2,none⟩) (λ_ => .inl rfl) _⟩
 .have HF:=zhd (HE.out.trans (if_pos a4));have b4:(T1 != 0)=true:=by simpa using a4
  clear HE a4;refine wpQuiet_nil ?_;go_wp2_with fail;go_returns;exact⟨q0w (congrArg Prod.fst HF.out).symm,by rw[HF.out];exact H3,f3⟩
def qtz(x:Sd) (i:Nat):Bool:=inS (at0 x.down.l i) 0 1000000 && inS (at0 x.up.l i) (wrap64 (at0 x.down.l i + 1)) 1000000 && (decide (i=0) || (decide (at0 x.down.l i < at0 x.down.l (i - 1)) && decide (at0 x.up.l i < at0 x.up.l (i - 1))))
def qu0(x:Sd):Bool:=decide (x.down.l.length=x.up.l.length) && decide (x.down.l.length<=4) && qee (qtz x) x.down.l.length
theorem qnm{x:Sd} (hx:qjb.ok w x):cP 111 #[.agg (Sd.lw x)] w λe w'=>(∃ z k:Int,e = .returned (.tuple #[ii z,ii k])/\decide (z=0)=qu0 x)/\bW w w':=by
 have hE:qu0 x=qu0 x:=rfl
 conv at hE=>rhs;unfold qu0
 have HE:=zhd hE;clear hE;generalize qu0 x=R at *;have b0:bW w (w.alloc (.cells (Sd.lw x) 31)):=zv;have kp:=Blk.new w 31 (Sd.lw x);have n1:=hx.1.len;have n2:=hx.2.len;obtain⟨wo,rfl⟩:∃ wo:World,wo=w:=⟨_,rfl⟩
 refine inC ?_;go_in;go_upto_region 1 with fail;generalize wo.alloc (.cells (Sd.lw x) 31)=w1 at *;obtain⟨gp,h9⟩:∃ gp,gp=wo.heap.size:=⟨_,rfl⟩
 rw[<- h9]at kp ⊢
 clear h9;have c0:w1.cell? ⟨gp,0,none⟩=some (.slice x.down.A x.down.l.length x.down.c):=kp.cell 0;have c1:w1.cell? ⟨gp,1,none⟩=some (.slice x.up.A x.up.l.length x.up.c):=kp.cell 1;have lp:=kp.lt;have HKP:=zhd kp;have HB:=zhd b0;have HX:=zhd hx;clear kp b0 hx;by_cases q1:x.down.l.length=x.up.l.length
 .by_cases q2:x.down.l.length<=4
  .have d2:decide (4 < x.down.l.length)=false:=decide_eq_false zo;have h5:Hid (R=qee (qtz x) x.down.l.length):=HE.out.trans (by rw[decide_eq_true q1,decide_eq_true q2];rfl);clear HE;have HQ:=zhd q1;rw[<- q1]at c1
   have n2:x.down.l.length<=4:=q2;clear q1 q2;go_upto_region 4 with fail;go_loopw [24] (λi wr=>∃ k:Nat,i = .int .i64 k/\k<=x.down.l.length/\Hid (∀ j,j < k->qtz x j=true)/\wr=w1) (λi _=>x.down.l.length - (intOf i).toNat)
   case atStart=>exact⟨0,rfl,Nat.zero_le _,λj hj=>absurd hj (Nat.not_lt_zero j),rfl⟩
   case round =>
    obtain⟨k,rfl,hkn,h6,rfl⟩:=hrel;by_cases hk:k < x.down.l.length
    .have h2:=qjb.keep HX.out HB.out;obtain⟨db,df,h0,hdb,ha⟩:=h2.1.at_ (k:=k) hk;obtain⟨ub,uf,h1,hub,hb⟩:=h2.2.at_ (k:=k) (by rw[<- HQ.out];exact hk);have hw1:wrap64 ((k:Int) + 1)=((k + 1:Nat):Int):=by unfold wrap64;omega
     have HK:=zhd hk;have HN:=zhd (λ(h:qtz x k=true)=>(λj hj=>by
      by_cases e:j=k
      .rw[e];exact h
      .exact h6.out j zo:∀ j,j < k + 1->qtz x j=true))
     have HS:Hid (∀ b,qtz x k=b->b=(inS (at0 x.down.l k) 0 1000000 && inS (at0 x.up.l k) (wrap64 (at0 x.down.l k + 1)) 1000000 && (decide (k=0) || (decide (at0 x.down.l k < at0 x.down.l (k - 1)) && decide (at0 x.up.l k < at0 x.up.l (k - 1)))))):=λb h=>by rw[<- h];rfl
     have HF:Hid (qtz x k=false->R=false):=λh=>h5.out.trans (qmd HK.out h);generalize hs:qtz x k=s at *;have h7:=zhd (HS.out s rfl);clear hs HS h5 h6 h2;cases k with
     | zero =>
      rw[Nat.add_zero]at ha hb
      rw[h0,h1];rw[h0]at c0
      rw[h1]at c1
      have HPA:=zhd h0;clear h0 h1;generalize at0 x.down.l 0=d at *;generalize at0 x.up.l 0=u at *;go_wp2_with (go_at_call 104;refine q1b.mono ?_;rintro _ _ ⟨rfl,rfl⟩)
      all_goals first
       | exact⟨⟨1,rfl,HK.out,HN.out (by rw[h7.out];simp[*]),trivial⟩,by have:=HK.out;simp[intOf];omega⟩
       | (go_returns;exact⟨⟨28,_,rfl,by rw[HF.out (by rw[h7.out];simp[*])];rfl⟩,HB.out⟩)
     | succ m =>
      have h2:=qjb.keep HX.out HB.out;obtain⟨db2,df2,h3,_,hdc2⟩:=h2.1.at_ (k:=m) zo;obtain⟨ub2,uf2,h4,_,huc2⟩:=h2.2.at_ (k:=m) (by rw[<- HQ.out];omega);rw[h0]at h3
      cases h3;rw[h1]at h4
      cases h4;have h8:Hid (s=(inS (at0 x.down.l (m + 1)) 0 1000000 && inS (at0 x.up.l (m + 1)) (wrap64 (at0 x.down.l (m + 1) + 1)) 1000000 && (decide (at0 x.down.l (m + 1) < at0 x.down.l m) && decide (at0 x.up.l (m + 1) < at0 x.up.l m)))):=by have:=h7.out;rw[show decide (m + 1=0)=false by simp,Bool.false_or]at this;exact this
      have hwm:wrap64 (((m + 1:Nat):Int) - 1)=(m:Int):=by unfold wrap64;omega
      have hm1:m < x.down.l.length:=zo;have b0:decide ((0:Int) < ((m + 1:Nat):Int))=true:=decide_eq_true zo;rw[h0,h1];rw[h0]at c0
      rw[h1]at c1
      clear h0 h1 h2 h7;generalize at0 x.down.l (m + 1)=d at *;generalize at0 x.up.l (m + 1)=u at *;generalize at0 x.down.l m=d1 at *;generalize at0 x.up.l m=u1 at *;go_wp2_with (go_at_call 104;refine q1b.mono ?_;rintro _ _ ⟨rfl,rfl⟩)
      all_goals first
       | exact⟨⟨m + 1 + 1,rfl,HK.out,HN.out (by rw[h8.out];simp[*]),trivial⟩,by have:=HK.out;simp[intOf];omega⟩
       | (go_returns;refine⟨?_,HB.out⟩;have HR:=HF.out (by rw[h8.out];first | (simp[*];done) | (simp[*];omega));first | exact⟨28,_,rfl,by rw[HR];rfl⟩ | exact⟨28,⟨_,rfl⟩,by rw[HR];rfl⟩)
    .have HR:Hid (R=true):=h5.out.trans (q7d.2 λj hj=>h6.out j zo);obtain rfl:k=x.down.l.length:=zo;clear h6 h5;go_wp2_with fail;go_returns;refine⟨?_,HB.out⟩
     first | exact⟨0,0,rfl,by rw[HR.out];rfl⟩ | exact⟨0,⟨0,rfl⟩,by rw[HR.out];rfl⟩ | exact⟨⟨0,rfl⟩,by rw[HR.out]⟩
  .have HR:Hid (R=false):=HE.out.trans (by rw[decide_eq_false q2];simp);rw[<- q1]at c1
   clear HE;go_wp2_with fail
   all_goals first | (exfalso;omega) | (go_returns;refine⟨?_,HB.out⟩;first | exact⟨28,0,rfl,by rw[HR.out];rfl⟩ | exact⟨28,⟨0,rfl⟩,by rw[HR.out];rfl⟩)
 .have HR:Hid (R=false):=HE.out.trans (by rw[decide_eq_false q1];simp);clear HE;go_wp2_with fail
  all_goals first | (exfalso;omega) | (go_returns;refine⟨?_,HB.out⟩;first | exact⟨28,0,rfl,by rw[HR.out];rfl⟩ | exact⟨28,⟨0,rfl⟩,by rw[HR.out];rfl⟩)
def atN(l:List Nat) (k:Nat):Nat:=l.getD k 0
structure LdR(w:World) (b a:Nat) (cap:Nat) (qs:List Nat) (cf:Cf) (cy:List Int):Prop where
 kb:Blk w b 236 #[.slice (some ⟨a,0,none⟩) cf.parts.l.length cap,.bool true]
 ka:Sl w (some ⟨a,0,none⟩) cf.parts.l.length cap 1 (qs.map λq=>pp q)
 q:∀ i,i < cf.parts.l.length->Blk w (atN qs i) 241 #[ii (atD Pt0 cf.parts.l i).bud,ii (max 1 cf.pw.quant),cf.pw.levels.hq,cf.pw.naps.hq,ii cf.pw.sw,ii cf.pw.idle,ii cf.pw.change,ii cf.pw.quant,ii cf.pw.slow,ii cf.pw.ppm,ii (at0 cy i)]
 ql:qs.length=cf.parts.l.length
 cl:cy.length=cf.parts.l.length
 cy:∀ i,i < cf.parts.l.length->0<=at0 cy i/\at0 cy i<=1099511627776
 qb:∀ i,i < cf.parts.l.length->atN qs i≠b/\atN qs i≠a
 qq:∀ i j,i < cf.parts.l.length->j < cf.parts.l.length->i≠j->atN qs i≠atN qs j
 n:cf.parts.l.length<=1000
def LdS(qs:List Nat):Nat->Prop:=λk=>k ∈ qs
theorem q89{qs:List Nat} {i:Nat} (h:i < qs.length):atN qs i ∈ qs:=by
 unfold atN;rw[List.getD_eq_getElem?_getD,List.getElem?_eq_getElem h];exact List.getElem_mem h
section
variable{W w:World} {b a cap:Nat} {qs:List Nat} {cf:Cf} {cy:List Int} (H:LdR w b a cap qs cf cy)
include H
theorem LdR.keep(hb:bW w w'):LdR w' b a cap qs cf cy:=⟨H.kb.keep hb,H.ka.keep hb,λi hi=>(H.q i hi).keep hb,H.ql,H.cl,H.cy,H.qb,H.qq,H.n⟩
theorem LdR.fr{S:Nat->Prop} (hf:Fr S w w') (h1:¬ S b) (h2:¬ S a) (h3:∀ k,k ∈ qs->¬ S k):LdR w' b a cap qs cf cy :=
 ⟨H.kb.fr hf h1,H.ka.fr hf (λ_ _ _ e=>by cases e;exact h2),λi hi=>(H.q i hi).fr hf (h3 _ (q89 (by have:=H.ql;omega))),H.ql,H.cl,H.cy,H.qb,H.qq,H.n⟩
theorem LdR.at_{i:Nat} (hi:i < cf.parts.l.length):a < w.heap.size/\w.cell? ⟨a,i,none⟩=some (pp (atN qs i)):=by
 obtain⟨b',o,e,hb,hc⟩:=H.ka.at_ zo;cases e;refine⟨hb,?_⟩;have:=hc i (pp (atN qs i)) (by
  have hq:i < qs.length:=by have:=H.ql;omega
  simp[atN,List.getElem?_eq_getElem hq])
 simpa using this
theorem q7e:cP 127 #[pp b] w λe w'=>e = .returned (.bool false)/\w=w':=by
 have k:=H.kb.cell;refine inC ?_;go_in;go_wp2;go_returns;exact⟨rfl,rfl⟩
theorem qeh{i:Nat} (hi:i < cf.parts.l.length):cP 251 #[pp b,ii i] w λe w'=>e = .returned (pp (atN qs i))/\w=w':=by
 have k:=H.kb.cell;obtain⟨ha,hc⟩:=H.at_ hi;have hD:=q7e H;have b1:decide ((i:Int) < 0)=false:=decide_eq_false zo;have b2:decide ((cf.parts.l.length:Int)<=i)=false:=decide_eq_false zo;have b3:decide (cf.parts.l.length<=i)=false:=decide_eq_false zo;refine inC ?_;go_in;go_wp2_with (go_at_call 127;refine(hD).mono ?_;rintro _ _ ⟨rfl,rfl⟩);go_returns;exact⟨rfl,rfl⟩
def q9y(cf:Cf) (n:Int):Int:=(qgd (q97 cf.pw.levels.l) n).1
theorem qei{i:Nat} (hi:i < cf.parts.l.length) (hx:q1y.ok W cf.pw) (hW:bW W w):cP 137 #[pp (atN qs i)] w λe w'=>e = .returned (ii (q9y cf (at0 cy i)))/\bW w w':=by
 obtain⟨k,lq⟩:=(H.q i hi).cl;have hcy:=H.cy i hi;have hC:=λw' hb=>qhw (w:=w') (q1y.keep hx hb) (show i64 (at0 cy i) by unfold i64;omega);unfold q9y;generalize qgd (q97 cf.pw.levels.l) (at0 cy i)=R at *;refine inC ?_;go_in;go_wp2_with fail;refine zW [(8,0)] λK' hK'=>?_;go_wp2_with fail;refine(hC _ hW.drew).mono ?_;rintro _ w2 ⟨rfl,h0⟩;replace h0:=(Below.refl w.heap.size w).drew.trans h0;refine zGZ (fO h0 _) ?_;clear hK' K';go_wp2_with fail;go_returns;exact⟨rfl,h0⟩
theorem qqm{i:Nat} (hi:i < cf.parts.l.length) (hx:q1y.ok W cf.pw) (hW:bW W w):cP 252 #[pp (atN qs i)] w λe w'=>e = .returned (.bool (decide ((atD Pt0 cf.parts.l i).bud<=q9y cf (at0 cy i))))/\bW w w':=by
 obtain⟨k,lq⟩:=(H.q i hi).cl;have hC:=λw' (hb:bW w w')=>qei (H.keep hb) hi hx (bt hW hb);generalize q9y cf (at0 cy i)=R at *;refine inC ?_;go_in;go_wp2_with fail;refine zW [(1,0)] λK' hK'=>?_;go_wp2_with fail;refine(hC _ bR.drew).mono ?_;rintro _ w2 ⟨rfl,h0⟩;replace h0:=(Below.refl w.heap.size w).drew.trans h0;refine zGZ (fO h0 _) ?_;clear hK' K';go_wp2_with fail;go_returns;exact⟨rfl,h0⟩
def q6m(cf:Cf) (cy:List Int) (i:Nat) (n:Int):Int:=if n < 1\/(atD Pt0 cf.parts.l i).bud<=q9y cf (at0 cy i) then 0 else min n (max 1 cf.pw.quant)
theorem qji{i:Nat} {n:Int} (hi:i < cf.parts.l.length) (hx:q1y.ok W cf.pw) (hW:bW W w):cP 187 #[pp b,ii i,ii n] w λe w'=>e = .returned (ii (q6m cf cy i n))/\bW w w':=by
 obtain⟨k,lq⟩:=(H.q i hi).cl;have hF:=qeh H hi;have hO:=qqm H hi hx hW;have hE:q6m cf cy i n=q6m cf cy i n:=rfl
 conv at hE=>rhs;unfold q6m
 have HE:=zhd hE;clear hE;generalize q6m cf cy i n=R at *;refine inC ?_;go_in;go_wp2_with (first | (go_at_call 251;refine(hF).mono ?_;rintro _ _ ⟨rfl,rfl⟩) | (refine uW hO ?_;rintro w1 ⟨hb,hs,hc,hf,hl,hB⟩))
 all_goals (go_returns;refine⟨q0w ?_,zv⟩;rw[HE.out];split <;> first | rfl | omega | (exfalso;simp at *;omega))
end
theorem qcx(l:List Int) (i j:Nat) (v:Int) (hi:i < l.length):at0 (l.set i v) j=if j=i then v else at0 l j:=by
 unfold at0;rw[List.getD_eq_getElem?_getD,List.getD_eq_getElem?_getD,List.getElem?_set];by_cases h:i=j
 .subst h;simp[hi]
 .simp[h,Ne.symm h]
section
variable{W w:World} {b a cap:Nat} {qs:List Nat} {cf:Cf} {cy:List Int} (H:LdR w b a cap qs cf cy)
include H
theorem LdR.set{i:Nat} (hi:i < cf.parts.l.length) {v:Int} (h0:0<=v) (h1:v<=1099511627776):LdR (w.setCell ⟨atN qs i,10,none⟩ (ii v)) b a cap qs cf (cy.set i v):=by
 have hq:=H.qb i hi;have h2:i < cy.length:=by have:=H.cl;omega
 refine⟨H.kb.far (λe=>hq.1 e.symm) _,H.ka.fr ((Fr.refl (λk=>k=atN qs i) w).setCell (p:=⟨atN qs i,10,none⟩) (λ_=>rfl) _) (λ_ _ _ e=>by cases e;exact λh=>hq.2 h.symm),λj hj=>?_,H.ql,by rw[List.length_set];exact H.cl,λj hj=>?_,H.qb,H.qq,H.n⟩
 .rw[qcx _ _ _ _ h2];by_cases h:j=i
  .subst h;rw[if_pos rfl];exact(H.q j hj).set_ 10 _
  .rw[if_neg h];exact(H.q j hj).far (H.qq j i hj hi h) _
 .rw[qcx _ _ _ _ h2];split
  .exact⟨h0,h1⟩
  .exact H.cy j hj
def q5r(cf:Cf) (cy:List Int) (i:Nat) (n:Int):Int×List Int :=
 if n < 0 then (2,cy) else if 1099511627776 - at0 cy i < n then (6,cy) else if (qgd (q97 cf.pw.levels.l) (at0 cy i + n)).2≠0 then (6,cy) else (0,cy.set i (at0 cy i + n))
theorem qjj{i:Nat} {n:Int} (hi:i < cf.parts.l.length) (hx:q1y.ok W cf.pw) (hW:bW W w):cP 191 #[pp b,ii i,ii n] w λe w'=>e = .returned (ii (q5r cf cy i n).1)/\LdR w' b a cap qs cf (q5r cf cy i n).2/\Fr (LdS qs) w w':=by
 obtain⟨k,lq⟩:=(H.q i hi).cl;obtain⟨c0,c1⟩:=H.cy i hi;have hF:=qeh H hi;have hD:=q7e H;have hm:atN qs i ∈ qs:=q89 (by have:=H.ql;omega);have hE:q5r cf cy i n=q5r cf cy i n:=rfl
 conv at hE=>rhs;unfold q5r
 generalize q5r cf cy i n=R at *;have e1:wrap64 (1099511627776 - at0 cy i)=1099511627776 - at0 cy i:=by unfold wrap64;omega
 by_cases a1:n < 0
 .have HE:=zhd (hE.trans (if_pos a1));clear hE;refine inC ?_;go_in;go_wp2_with (first | (go_at_call 251;refine(hF).mono ?_;rintro _ _ ⟨rfl,rfl⟩) | (go_at_call 127;refine(hD).mono ?_;rintro _ _ ⟨rfl,rfl⟩));go_returns;exact⟨q0w (congrArg Prod.fst HE.out).symm,by rw[HE.out];exact H,Fr.refl _ _⟩
 rw[if_neg a1]at hE
 by_cases a2:1099511627776 - at0 cy i < n
 .have HE:=zhd (hE.trans (if_pos a2));have b1:decide (n < 0)=false:=decide_eq_false a1;have b2:decide (1099511627776 - at0 cy i < n)=true:=decide_eq_true a2;clear hE a1 a2;refine inC ?_;go_in;go_wp2_with (first | (go_at_call 251;refine(hF).mono ?_;rintro _ _ ⟨rfl,rfl⟩) | (go_at_call 127;refine(hD).mono ?_;rintro _ _ ⟨rfl,rfl⟩));go_returns;exact⟨q0w (congrArg Prod.fst HE.out).symm,by rw[HE.out];exact H,Fr.refl _ _⟩
 rw[if_neg a2]at hE
 have b1:decide (n < 0)=false:=decide_eq_false a1;have b2:decide (1099511627776 - at0 cy i < n)=false:=decide_eq_false a2;have e2:wrap64 (at0 cy i + n)=at0 cy i + n:=by unfold wrap64;omega
 have hS:=λw (h:LdR w b a cap qs cf cy)=>h.set hi (v:=at0 cy i + n) zo zo;have hC:=λw' hb=>qhw (w:=w') (q1y.keep hx hb) (show i64 (at0 cy i + n) by unfold i64;omega);generalize qgd (q97 cf.pw.levels.l) (at0 cy i + n)=M at *;have HE:=zhd hE;clear hE a1 a2;refine inC ?_;go_in;go_wp2_with (first | (go_at_call 251;refine(hF).mono ?_;rintro _ _ ⟨rfl,rfl⟩) | (go_at_call 127;refine(hD).mono ?_;rintro _ _ ⟨rfl,rfl⟩));refine zW [(10,0)] λK' hK'=>?_;go_wp2_with fail;refine(hC _ hW.drew).mono ?_;rintro _ w2 ⟨rfl,h0⟩;replace h0:=(Below.refl w.heap.size w).drew.trans h0;refine zG (fO h0 _) ?_;clear hK' K';have H2:=H.keep h0;replace k:=(H2.q i hi).cell;have f2:=(H2.q i hi).frozen;have fB:=fO h0 (LdS qs);by_cases a3:M.2=0
 .have HF:=zhd (HE.out.trans (if_neg (by simpa using a3)));have b3:(M.2 != 0)=false:=by simpa using a3
  clear HE a3 lq h0;refine wpQuiet_nil ?_;go_wp2_with fail;go_returns;exact⟨q0w (congrArg Prod.fst HF.out).symm,by rw[HF.out];exact hS _ H2,fB.setCell (p:=⟨atN qs i,10,none⟩) (λ_=>hm) _⟩
 .have HF:=zhd (HE.out.trans (if_pos a3));have b3:(M.2 != 0)=true:=by simpa using a3
  clear HE a3 lq h0;refine wpQuiet_nil ?_;go_wp2_with fail;go_returns;exact⟨q0w (congrArg Prod.fst HF.out).symm,by rw[HF.out];exact H2,fB⟩
theorem qgq:cP 64 #[pp b] w λe w'=>e = .returned (.tuple #[])/\LdR w' b a cap qs cf (List.replicate cf.parts.l.length 0)/\Fr (LdS qs) w w':=by
 have k:=H.kb.cell;have hD:=q7e H;have hn:=H.n;refine inC ?_;go_in;go_wp2_with (go_at_call 127;refine(hD).mono ?_;rintro _ _ ⟨rfl,rfl⟩);obtain⟨wo,rfl⟩:∃ wo:World,wo=w:=⟨_,rfl⟩
 go_loopw [11] (λi wr=>∃ (j:Nat) (cz:List Int),i = .int .i64 j/\j<=cf.parts.l.length/\LdR wr b a cap qs cf cz/\(∀ x,x < j->at0 cz x=0)/\Fr (LdS qs) wo wr) (λi _=>cf.parts.l.length - (intOf i).toNat)
 case atStart=>exact⟨0,cy,rfl,Nat.zero_le _,H,λx h=>by omega,Fr.refl _ _⟩
 case round =>
  obtain⟨j,cz,rfl,hj,Hz,h0,fz⟩:=hrel;by_cases hk:j < cf.parts.l.length
  .obtain⟨ha,hc⟩:=Hz.at_ hk;have fq:=(Hz.q j hk).frozen;have kq:=(Hz.q j hk).cell;have hw1:wrap64 ((j:Int) + 1)=((j + 1:Nat):Int):=by unfold wrap64;omega
   have H2:=Hz.set hk (v:=0) zo zo;have f2:=fz.setCell (p:=⟨atN qs j,10,none⟩) (λ_=>q89 (by have:=Hz.ql;omega)) (ii 0);have h2:∀ x,x < j + 1->at0 (cz.set j 0) x=0:=λx hx=>by
    rw[qcx _ _ _ _ (by have:=Hz.cl;omega)];split
    .rfl
    .exact h0 x zo
   have HH:=zhd h2;clear h0 h2;go_wp2_with fail;exact⟨⟨j + 1,_,by go_num,hk,H2,HH.out,f2⟩,by simp[intOf];omega⟩
  .obtain rfl:j=cf.parts.l.length:=zo;have hz:cz=List.replicate cf.parts.l.length 0:=by
    refine List.ext_getElem (by rw[List.length_replicate];exact Hz.cl) λi h1 h2=>?_;have:=h0 i (by have:=Hz.cl;omega);rw[q2v h1]at this
    simpa using this
   subst hz;clear h0;go_wp2_with fail;go_returns;exact⟨rfl,Hz,fz⟩
end
theorem qhz{P:Program} (ts:Array TypeId) (t:TypeId) (x y z:Int) (w:World):(Builtin.min_ ts t #[ii x,ii y,ii z]).run P w = .ok (ii (min (min x y) z)) w:=by
 have e:∀ a b:Int,(if b < a then b else a)=min a b:=λa b=>by
  rw[Int.min_def];split <;> split <;> omega
 simp[Builtin.min_,Builtin.min2,e]
structure Sk where
 room:Int
 has:List Int
 fin:List Bool
structure SkR(w:World) (s a cap:Nat) (qs:List Nat) (x:Sk):Prop where
 ks:Blk w s 458 #[ii x.room,.slice (some ⟨a,0,none⟩) x.has.length cap,.bool true]
 ka:Sl w (some ⟨a,0,none⟩) x.has.length cap 1 (qs.map λq=>pp q)
 q:∀ i,i < x.has.length->Blk w (atN qs i) 461 #[ii (at0 x.has i),.bool (atD false x.fin i)]
 ql:qs.length=x.has.length
 fl:x.fin.length=x.has.length
 sa:s≠a
 qb:∀ i,i < x.has.length->atN qs i≠s/\atN qs i≠a
 qq:∀ i j,i < x.has.length->j < x.has.length->i≠j->atN qs i≠atN qs j
 n:x.has.length<=1000
def SkS(s:Nat) (qs:List Nat):Nat->Prop:=λk=>k=s\/k ∈ qs
section
variable{w:World} {s a cap:Nat} {qs:List Nat} {x:Sk} (H:SkR w s a cap qs x)
include H
theorem SkR.keep(hb:bW w w'):SkR w' s a cap qs x:=⟨H.ks.keep hb,H.ka.keep hb,λi hi=>(H.q i hi).keep hb,H.ql,H.fl,H.sa,H.qb,H.qq,H.n⟩
theorem SkR.fr{S:Nat->Prop} (hf:Fr S w w') (h1:¬ S s) (h2:¬ S a) (h3:∀ k,k ∈ qs->¬ S k):SkR w' s a cap qs x :=
 ⟨H.ks.fr hf h1,H.ka.fr hf (λ_ _ _ e=>by cases e;exact h2),λi hi=>(H.q i hi).fr hf (h3 _ (q89 (by have:=H.ql;omega))),H.ql,H.fl,H.sa,H.qb,H.qq,H.n⟩
theorem SkR.at_{i:Nat} (hi:i < x.has.length):a < w.heap.size/\w.cell? ⟨a,i,none⟩=some (pp (atN qs i)):=by
 obtain⟨b',o,e,hb,hc⟩:=H.ka.at_ zo;cases e;refine⟨hb,?_⟩;have:=hc i (pp (atN qs i)) (by
  have hq:i < qs.length:=by have:=H.ql;omega
  simp[atN,List.getElem?_eq_getElem hq])
 simpa using this
theorem q9z{i:Nat} (hi:i < x.has.length):cP 299 #[pp s,ii i] w λe w'=>e = .returned (pp (atN qs i))/\w=w':=by
 have k:=H.ks.cell;obtain⟨ha,hc⟩:=H.at_ hi;have b1:decide ((i:Int) < 0)=false:=decide_eq_false zo;have b3:decide (x.has.length<=i)=false:=decide_eq_false zo;refine inC ?_;go_in;go_wp2;go_returns;exact⟨rfl,rfl⟩
theorem qgr{i:Nat} (hi:i < x.has.length):cP 254 #[pp s,ii i] w λe w'=>e = .returned (ii (at0 x.has i))/\w=w':=by
 have k:=(H.q i hi).cell;have hF:=q9z H hi;refine inC ?_;go_in;go_wp2_with (go_at_call 299;refine(hF).mono ?_;rintro _ _ ⟨rfl,rfl⟩);go_returns;exact⟨rfl,rfl⟩
theorem qmh:cP 255 #[pp s] w λe w'=>e = .returned (ii x.room)/\w=w':=by
 have k:=H.ks.cell;refine inC ?_;go_in;go_wp2;go_returns;exact⟨rfl,rfl⟩
def q21(x:Sk) (i:Nat) (n:Int):Int×Sk :=
 if n < 1 then (0,x) else (min n (min x.room (at0 x.has i)),{ x with has:=x.has.set i (wrap64 (at0 x.has i - min n (min x.room (at0 x.has i)))),room:=wrap64 (x.room - min n (min x.room (at0 x.has i))) })
theorem SkR.set{i:Nat} (hi:i < x.has.length) (v r:Int):SkR ((w.setCell ⟨atN qs i,0,none⟩ (ii v)).setCell ⟨s,0,none⟩ (ii r)) s a cap qs { x with has:=x.has.set i v,room:=r }:=by
 have hq:=H.qb i hi;refine⟨?_,?_,λj hj=>?_,by simpa using H.ql,by simpa using H.fl,H.sa,by simpa using H.qb,by simpa using H.qq,by simpa using H.n⟩
 .have:=(H.ks.far (p:=⟨atN qs i,0,none⟩) (λe=>hq.1 e.symm) (ii v)).set_ 0 (ii r);simpa using this
 .have:=H.ka.fr (((Fr.refl (λk=>k=atN qs i\/k=s) w).setCell (p:=⟨atN qs i,0,none⟩) (λ_ => .inl rfl) (ii v)).setCell (p:=⟨s,0,none⟩) (λ_ => .inr rfl) (ii r)) (λ_ _ _ e=>by cases e;rintro(h | h);exact hq.2 h.symm;exact H.sa h.symm);simpa using this
 .simp only[List.length_set]at hj;simp only;rw[qcx _ _ _ _ hi];by_cases h:j=i
  .subst h;rw[if_pos rfl];exact((H.q j hj).set_ 0 _).far (p:=⟨s,0,none⟩) hq.1 _
  .rw[if_neg h];exact((H.q j hj).far (H.qq j i hj hi h) _).far (p:=⟨s,0,none⟩) (H.qb j hj).1 _
theorem qjk{i:Nat} {n:Int} (hi:i < x.has.length):cP 261 #[pp s,ii i,ii n] w λe w'=>e = .returned (ii (q21 x i n).1)/\SkR w' s a cap qs (q21 x i n).2/\Fr (SkS s qs) w w':=by
 have k:=(H.q i hi).cell;have k2:=H.ks.cell;have f:=(H.q i hi).frozen;have f2:=H.ks.frozen;have hF:=q9z H hi;have hq:=H.qb i hi;have hm:atN qs i ∈ qs:=q89 (by have:=H.ql;omega);have hE:q21 x i n=q21 x i n:=rfl
 conv at hE=>rhs;unfold q21
 generalize q21 x i n=R at *;by_cases a1:n < 1
 .have HE:=zhd (hE.trans (if_pos a1));clear hE;refine inC ?_;go_in;go_wp2_with (go_at_call 299;refine(hF).mono ?_;rintro _ _ ⟨rfl,rfl⟩);go_returns;exact⟨q0w (congrArg Prod.fst HE.out).symm,by rw[HE.out];exact H,Fr.refl _ _⟩
 .have HE:=zhd (hE.trans (if_neg a1));have b1:decide (n < 1)=false:=decide_eq_false a1;clear hE a1;refine inC ?_;go_in;have h0:=λts t x y z w=>qhz (P:=Tryz.prog) ts t x y z w;go_wp2_with (go_at_call 299;refine(hF).mono ?_;rintro _ _ ⟨rfl,rfl⟩);go_quiet (fail)
  generalize min n (min x.room (at0 x.has i))=m at *;have hd:=q0a w.heap.size w nq;have H1:=H.keep hd;generalize w.drewN nq=w1 at *;replace k:=(H1.q i hi).cell;replace k2:=H1.ks.cell;replace f:=(H1.q i hi).frozen;replace f2:=H1.ks.frozen;have hS:=H1.set hi (wrap64 (at0 x.has i - m)) (wrap64 (x.room - m));have hf:=((fO hd (SkS s qs)).setCell (p:=⟨atN qs i,0,none⟩) (λ_ => .inr hm) (ii (wrap64 (at0 x.has i - m)))).setCell (p:=⟨s,0,none⟩) (λ_ => .inl rfl) (ii (wrap64 (x.room - m)));have hqs:=hq.1;clear hF h0 hm H;go_wp2_with fail;go_returns;exact⟨q0w (congrArg Prod.fst HE.out).symm,by rw[HE.out];exact hS,hf⟩
end
end Go.Proofs.YtncfcbohiodnnaaGreat
