/- Parts of this seat's claims. -/
import Derived.Test.YtncfcbohiodnnaaGreatW10
import Derived.Deep.OwnRows
set_option maxRecDepth 100000
set_option maxHeartbeats 6400000
namespace Go.Proofs.YtncfcbohiodnnaaGreat
open Go.RowKit
variable{w w' W wa wo W':World} {c n pt r B j b m mb q base cap id B0:Nat} {A:Option Addr} {a code what:Int} {cs:Array Value}
def enP(cf:Cf) (e:En):Bool:=inS e.part 0 (wrap64 (cf.parts.l.length - 1))
def enQ(cf:Cf) (e:En):Bool:=inS e.port 0 (wrap64 ((atD Pt0 cf.parts.l e.part.toNat).ports.l.length - 1))
def qef(cf:Cf) (e:En):Po×Bool:=if enP cf e && enQ cf e then (atD Po0 (atD Pt0 cf.parts.l e.part.toNat).ports.l e.port.toNat,true) else (Po0,false)
theorem qtt{k:Int} (hn:(n:Int)<=9223372036854775807) (h:inS k 0 (wrap64 (n - 1))=true):∃ j:Nat,k=j/\j < n:=by
 unfold inS at h;simp only[Bool.and_eq_true,decide_eq_true_eq]at h;unfold wrap64 at h;obtain⟨j,hj⟩:=Int.eq_ofNat_of_zero_le h.1;exact⟨j,hj,zo⟩
theorem qeg{cf:Cf} (hx:q53.ok w cf.parts) {e:En} {y:Po} {r:Bool} (hr:qef cf e=(y,r)):cP 224 #[.agg (Cf.lw cf),.agg (En.lw e)] w λe w'=>e = .returned (.tuple #[.agg (Po.lw y),.bool r])/\bW w w':=by
 have b0:bW w (((w.alloc (.cells (Cf.lw cf) 33)).alloc (.cells (En.lw e) 139)).alloc (.cells #[.bool false,.bool false,ii 0,ii 0] 199)):=zv;have kp:=((Blk.new w 33 (Cf.lw cf)).alloc (.cells (En.lw e) 139)).alloc (.cells #[.bool false,.bool false,ii 0,ii 0] 199);have ke:=(Blk.new (w.alloc (.cells (Cf.lw cf) 33)) 139 (En.lw e)).alloc (.cells #[.bool false,.bool false,ii 0,ii 0] 199);have ky:=Blk.new ((w.alloc (.cells (Cf.lw cf) 33)).alloc (.cells (En.lw e) 139)) 199 #[.bool false,.bool false,ii 0,ii 0];rw[World.size_alloc]at ke ky
 rw[World.size_alloc]at ky
 refine inC ?_;go_in;go_upto_region 1 with fail;generalize ((w.alloc (.cells (Cf.lw cf) 33)).alloc (.cells (En.lw e) 139)).alloc (.cells #[.bool false,.bool false,ii 0,ii 0] 199)=w1 at *;obtain⟨gp,h8⟩:∃ gp,gp=w.heap.size:=⟨_,rfl⟩
 rw[<- h8]at kp ke ky ⊢
 have h7:w.heap.size<=gp + 1 + 1:=zo;have HG:=zhd h7;clear h8 h7;have HX:=zhd (q53.keep hx b0);have HB:=zhd b0;have hn:=hx.1.len;have HR:Hid ((y,r)=if enP cf e && enQ cf e then (atD Po0 (atD Pt0 cf.parts.l e.part.toNat).ports.l e.port.toNat,true) else (Po0,false)):=by rw[<- hr];exact rfl
 have c0:w1.cell? ⟨gp,0,none⟩=some (.slice cf.parts.A cf.parts.l.length cf.parts.c):=kp.cell 0;have d0:w1.cell? ⟨gp + 1,0,none⟩=some (ii e.part):=ke.cell 0;have d1:w1.cell? ⟨gp + 1,1,none⟩=some (ii e.port):=ke.cell 1;have yc:=ky.cell;have yf:=ky.frozen;have yl:=ky.lt;have lg:=kp.lt;have le:=ke.lt;have HY:=zhd ky;clear kp ke ky b0 hr hx;have HP:Hid (enP cf e=inS e.part 0 (wrap64 (cf.parts.l.length - 1))):=rfl;have hw0:=IntWalk.i64_in ((cf.parts.l.length:Int) - 1) zo;have hf:wrap64 ((cf.parts.l.length:Int) - 1)=(cf.parts.l.length:Int) - 1:=by unfold wrap64;omega
 rw[hf]at HP
 refine zW [(6,0),(13,0)] λK' hK'=>?_;go_wp2_with (go_at_call 104;refine q1b.mono ?_;rintro _ _ ⟨rfl,rfl⟩);refine hK' _ _ rfl (q01 (fO bR.drew _)) ?_;clear hK' K'
 try simp only[tkO,dpO]
 cases hb1:enP cf e with
 | false =>
  have HE:Hid ((y,r)=(Po0,false)):=HR.out.trans (by rw[hb1];rfl);have h2:inS e.part 0 (cf.parts.l.length - 1)=false:=HP.out.symm.trans hb1;clear hb1 HR HX;rw[h2]
  repeat(go_big_quiet_step (fail))
  refine wpQuiet_nil (q48 rfl ?_)
  try simp only
  refine zN ?_;refine wpQuiet_nil ?_;go_wp2_with fail;have kF:=(((((HY.out.set_ 0 (.bool false)).set_ 1 (.bool false)).set_ 2 (ii 0)).set_ 3 (ii 0))).drew;have bF:=(((((HB.out.setCell (p:=⟨gp + 1 + 1,0,none⟩) HG.out (.bool false)).setCell (p:=⟨gp + 1 + 1,1,none⟩) HG.out (.bool false)).setCell (p:=⟨gp + 1 + 1,2,none⟩) HG.out (ii 0)).setCell (p:=⟨gp + 1 + 1,3,none⟩) HG.out (ii 0))).drew;generalize (((((w1).setCell ⟨gp + 1 + 1,0,none⟩ (.bool false)).setCell ⟨gp + 1 + 1,1,none⟩ (.bool false)).setCell ⟨gp + 1 + 1,2,none⟩ (ii 0)).setCell ⟨gp + 1 + 1,3,none⟩ (ii 0)).drew=w9 at kF bF ⊢;have z0:w9.cell? ⟨gp + 1 + 1,0,none⟩=some (.bool false):=kF.cell 0;have z1:w9.cell? ⟨gp + 1 + 1,1,none⟩=some (.bool false):=kF.cell 1;have z2:w9.cell? ⟨gp + 1 + 1,2,none⟩=some (ii 0):=kF.cell 2;have z3:w9.cell? ⟨gp + 1 + 1,3,none⟩=some (ii 0):=kF.cell 3;refine bodyPost_ret (v := .tuple #[.agg #[.bool false,.bool false,ii 0,ii 0],.bool false]) (by simp[results,Tryz.results224,go_sem,z0,z1,z2,z3]) rfl ?_;cases HE.out;exact⟨rfl,bF⟩
 | true =>
  have h2:inS e.part 0 (cf.parts.l.length - 1)=true:=HP.out.symm.trans hb1;obtain⟨j,hj,hb⟩:=qtt (n:=cf.parts.l.length) zo (by rw[hf];exact h2);rw[h2];obtain⟨sb,so,hA,he,h6⟩:=HX.out.1.at_ Pt0 hb;rw[show qcu.sz=11 from rfl]at h6
  have h5:=(HX.out.2 _ (q0h (d:=Pt0) hb)).2.2.1;have ha:e.part.toNat=j:=zo;have h1:Hid ((y,r)=if inS e.port 0 (wrap64 ((atD Pt0 cf.parts.l j).ports.l.length - 1)) then (atD Po0 (atD Pt0 cf.parts.l j).ports.l e.port.toNat,true) else (Po0,false)):=by
   have:=HR.out;unfold enQ at this;rw[hb1,ha,Bool.true_and]at this
   exact this
  clear HR HP hb1 h2 ha HX;generalize atD Pt0 cf.parts.l j=z at *;have s2:w1.cell? ⟨sb,so + j * 11 + 2,none⟩=some (.slice z.ports.A z.ports.l.length z.ports.c):=h6 2 _ rfl;rw[hj]at d0
  rw[hj,hA];rw[hA]at c0
  have hzn:=h5.1.len;have hw1:=IntWalk.i64_in ((z.ports.l.length:Int) - 1) zo;have h3:wrap64 ((z.ports.l.length:Int) - 1)=(z.ports.l.length:Int) - 1:=by unfold wrap64;omega
  rw[h3]at h1
  clear h6 hA hj
  repeat(go_big_quiet_step (fail))
  refine qwW (λK' hK'=>?_);go_wp2_with (go_at_call 104;refine q1b.mono ?_;rintro _ _ ⟨rfl,rfl⟩);refine hK' _ _ rfl (q01 (fO bR.drew _)) ?_;clear hK' K'
  try simp only[q03,tkO,dpO]
  cases hb2:inS e.port 0 (z.ports.l.length - 1) with
  | false =>
   have HE:Hid ((y,r)=(Po0,false)):=h1.out.trans (by rw[hb2];rfl);clear h1
   repeat(go_big_quiet_step (fail))
   refine wpQuiet_nil ?_;go_wp2_with fail;have kF:=(((((HY.out.set_ 0 (.bool false)).set_ 1 (.bool false)).set_ 2 (ii 0)).set_ 3 (ii 0))).drew;have bF:=(((((HB.out.setCell (p:=⟨gp + 1 + 1,0,none⟩) HG.out (.bool false)).setCell (p:=⟨gp + 1 + 1,1,none⟩) HG.out (.bool false)).setCell (p:=⟨gp + 1 + 1,2,none⟩) HG.out (ii 0)).setCell (p:=⟨gp + 1 + 1,3,none⟩) HG.out (ii 0))).drew;generalize (((((w1).setCell ⟨gp + 1 + 1,0,none⟩ (.bool false)).setCell ⟨gp + 1 + 1,1,none⟩ (.bool false)).setCell ⟨gp + 1 + 1,2,none⟩ (ii 0)).setCell ⟨gp + 1 + 1,3,none⟩ (ii 0)).drew=w9 at kF bF ⊢;have z0:w9.cell? ⟨gp + 1 + 1,0,none⟩=some (.bool false):=kF.cell 0;have z1:w9.cell? ⟨gp + 1 + 1,1,none⟩=some (.bool false):=kF.cell 1;have z2:w9.cell? ⟨gp + 1 + 1,2,none⟩=some (ii 0):=kF.cell 2;have z3:w9.cell? ⟨gp + 1 + 1,3,none⟩=some (ii 0):=kF.cell 3;refine bodyPost_ret (v := .tuple #[.agg #[.bool false,.bool false,ii 0,ii 0],.bool false]) (by simp[results,Tryz.results224,go_sem,z0,z1,z2,z3]) rfl ?_;cases HE.out;exact⟨rfl,bF⟩
  | true =>
   obtain⟨i,hi,hh⟩:=qtt (n:=z.ports.l.length) zo (by rw[h3];exact hb2);obtain⟨pb,po,hc,hd,h0⟩:=h5.1.at_ Po0 hh;rw[show qzs.sz=4 from rfl]at h0
   have h9:e.port.toNat=i:=zo;have HE:Hid ((y,r)=(atD Po0 z.ports.l i,true)):=h1.out.trans (by rw[hb2,h9];rfl);clear h1 h5;generalize atD Po0 z.ports.l i=v at *;have p0:w1.cell? ⟨pb,po + i * 4,none⟩=some (.bool v.q):=h0 0 _ rfl;have p1:w1.cell? ⟨pb,po + i * 4 + 1,none⟩=some (.bool v.inn):=h0 1 _ rfl;have p2:w1.cell? ⟨pb,po + i * 4 + 2,none⟩=some (ii v.size):=h0 2 _ rfl;have p3:w1.cell? ⟨pb,po + i * 4 + 3,none⟩=some (ii v.depth):=h0 3 _ rfl;rw[hi]at d1 ⊢
   rw[hc]at s2 ⊢
   clear h0 hc hi h9
   repeat(go_big_quiet_step (fail))
   refine wpQuiet_nil ?_;go_upto_region 3 with fail;have hg:=zhd HB.out.drew;have h4:=zhd HY.out.drew;replace c0:w1.drew.cell? ⟨gp,0,none⟩=some (.slice (some ⟨sb,so,none⟩) cf.parts.l.length cf.parts.c):=c0;replace d0:w1.drew.cell? ⟨gp + 1,0,none⟩=some (ii (j:Int)):=d0;replace d1:w1.drew.cell? ⟨gp + 1,1,none⟩=some (ii (i:Int)):=d1;replace s2:w1.drew.cell? ⟨sb,so + j * 11 + 2,none⟩=some (.slice (some ⟨pb,po,none⟩) z.ports.l.length z.ports.c):=s2;replace p0:w1.drew.cell? ⟨pb,po + i * 4,none⟩=some (.bool v.q):=p0;replace p1:w1.drew.cell? ⟨pb,po + i * 4 + 1,none⟩=some (.bool v.inn):=p1;replace p2:w1.drew.cell? ⟨pb,po + i * 4 + 2,none⟩=some (ii v.size):=p2;replace p3:w1.drew.cell? ⟨pb,po + i * 4 + 3,none⟩=some (ii v.depth):=p3;replace yc:=h4.out.cell;replace yf:=h4.out.frozen;replace yl:=h4.out.lt;replace lg:gp < w1.drew.heap.size:=lg;replace le:gp + 1 < w1.drew.heap.size:=le;replace he:sb < w1.drew.heap.size:=he;replace hd:pb < w1.drew.heap.size:=hd;generalize w1.drew=w2 at *;refine zB [(11,2)] λK' hK'=>?_;go_wp2_with fail;refine zE ?_;clear hK' K';go_wp2_with fail;have kF:=((((h4.out.set_ 0 (.bool v.q)).set_ 1 (.bool v.inn)).set_ 2 (ii v.size)).set_ 3 (ii v.depth)).drew;have bF:=((((hg.out.setCell (p:=⟨gp + 1 + 1,0,none⟩) HG.out (.bool v.q)).setCell (p:=⟨gp + 1 + 1,1,none⟩) HG.out (.bool v.inn)).setCell (p:=⟨gp + 1 + 1,2,none⟩) HG.out (ii v.size)).setCell (p:=⟨gp + 1 + 1,3,none⟩) HG.out (ii v.depth)).drew;generalize (((((w2).setCell ⟨gp + 1 + 1,0,none⟩ (.bool v.q)).setCell ⟨gp + 1 + 1,1,none⟩ (.bool v.inn)).setCell ⟨gp + 1 + 1,2,none⟩ (ii v.size)).setCell ⟨gp + 1 + 1,3,none⟩ (ii v.depth)).drew=w9 at kF bF ⊢;have z0:w9.cell? ⟨gp + 1 + 1,0,none⟩=some (.bool v.q):=kF.cell 0;have z1:w9.cell? ⟨gp + 1 + 1,1,none⟩=some (.bool v.inn):=kF.cell 1;have z2:w9.cell? ⟨gp + 1 + 1,2,none⟩=some (ii v.size):=kF.cell 2;have z3:w9.cell? ⟨gp + 1 + 1,3,none⟩=some (ii v.depth):=kF.cell 3;refine bodyPost_ret (v := .tuple #[.agg (Po.lw v),.bool true]) (by simp[results,Tryz.results224,go_sem,z0,z1,z2,z3]) rfl ?_;cases HE.out;exact⟨rfl,bF⟩
theorem qd9:(Tryz.prog.info? 3).map (λi=>(i.zero,i.size,i.bytes))=some (some (ii 0),1,8):=zk
theorem qyh(z:Value) (n:Nat):madeCells #[z] n=Array.replicate n z:=by
 unfold madeCells;apply Array.ext
 .simp
 .intro i h1 h2;simp[Nat.mod_one]
theorem qr7{k:Nat} (hk:k<=8):cP 113 #[ii k] w λe w'=>(∃ g r,e = .returned (pp g)/\MtR w' g r ⟨List.replicate k 0,0,0,0,0,0⟩/\w.heap.size<=g/\w.heap.size<=r)/\bW w w':=by
 have h1:q8n k 0 8=k:=by unfold q8n;(repeat' split) <;> omega
 have h2:=run_make_row' (P:=Tryz.prog) 29 3 (ii 0) 8 qlq qd9 rfl .i64 .i64 k zo zo;obtain⟨cs,h0⟩:∃ cs,cs=madeCells #[ii 0] k:=⟨_,rfl⟩
 rw[<- h0]at h2
 have HC:Hid (cs=((List.replicate k (0:Int)).map (Value.int .i64)).toArray):=by
  unfold Hid;rw[h0,qyh,List.map_replicate];simp
 clear h0;refine inC ?_;go_in;go_wp2_with (go_at_call 176;refine qea.mono ?_;rintro _ _ ⟨rfl,rfl⟩;rw[h1]);go_returns;have k0:=(Blk.new w 3 cs).alloc (.cells #[.slice (some ⟨w.heap.size,0,none⟩) k k,ii 0,ii 0,ii 0,ii 0,ii 0,.bool true] 187);have k1:=Blk.new (w.alloc (.cells cs 3)) 187 #[.slice (some ⟨w.heap.size,0,none⟩) k k,ii 0,ii 0,ii 0,ii 0,ii 0,.bool true];rw[World.size_alloc]at k1
 refine⟨⟨_,_,rfl,⟨?_,?_,?_,by simpa using hk⟩,Nat.le_succ _,nL⟩,zv⟩
 .unfold Mt.cells;simpa using k1
 .rw[<- HC.out];exact k0
 .omega
structure Pn where
 now:Int
 base:Int
 done:Int
 level:Int
 m:Mt
structure PnR(w:World) (p g r:Nat) (c:Pw) (x:Pn):Prop where
 b:Blk w p 183 #[ii x.now,ii x.base,ii x.done,ii x.level,.slice c.levels.A c.levels.l.length c.levels.c,.slice c.naps.A c.naps.l.length c.naps.c,ii c.sw,ii c.idle,ii c.change,ii c.quant,ii c.slow,ii c.ppm,pp g]
 m:MtR w g r x.m
 pg:p≠g
 pr:p≠r
theorem PnR.cell{p g:Nat} {c:Pw} {x:Pn} (h:PnR w p g r c x):∀ i,w.cell? ⟨p,i,none⟩ = #[ii x.now,ii x.base,ii x.done,ii x.level,.slice c.levels.A c.levels.l.length c.levels.c,.slice c.naps.A c.naps.l.length c.naps.c,ii c.sw,ii c.idle,ii c.change,ii c.quant,ii c.slow,ii c.ppm,pp g][i]?:=h.b.cell
theorem PnR.fr{S:Nat->Prop} {p g:Nat} {c:Pw} {x:Pn} (h:PnR w p g r c x) (hf:Fr S w w') (hp:¬ S p) (hg:¬ S g) (hr:¬ S r):PnR w' p g r c x:=⟨h.b.fr hf hp,h.m.fr hf hg hr,h.pg,h.pr⟩
theorem PnR.keep{p g:Nat} {c:Pw} {x:Pn} (h:PnR w p g r c x) (hf:bW w w'):PnR w' p g r c x:=⟨h.b.keep hf,h.m.keep hf,h.pg,h.pr⟩
section
variable{w:World} {p g r:Nat} {c:Pw} {x:Pn} (H:PnR w p g r c x)
include H
theorem q0z:cP 70 #[pp p] w λe w'=>e = .returned (.bool false)/\w=w':=by
 have k:=H.cell;refine inC ?_;go_in;go_wp2;go_returns;exact⟨rfl,rfl⟩
theorem q20:cP 132 #[pp p] w λe w'=>e = .returned (ii x.now)/\w=w':=by
 have k:=H.cell;refine inC ?_;go_in;go_wp2_with (go_at_call 70;refine(q0z H).mono ?_;rintro _ _ ⟨rfl,rfl⟩);go_returns;exact⟨rfl,rfl⟩
theorem q8c:cP 256 #[pp p] w λe w'=>e = .returned (ii x.level)/\w=w':=by
 have k:=H.cell;refine inC ?_;go_in;go_wp2_with (go_at_call 70;refine(q0z H).mono ?_;rintro _ _ ⟨rfl,rfl⟩);go_returns;exact⟨rfl,rfl⟩
theorem qbr:cP 31 #[pp p] w λe w'=>e = .returned (pp g)/\w=w':=by
 have k:=H.cell;refine inC ?_;go_in;go_wp2_with (go_at_call 70;refine(q0z H).mono ?_;rintro _ _ ⟨rfl,rfl⟩);go_returns;exact⟨rfl,rfl⟩
theorem qeu:cP 250 #[pp p] w λe w'=>e = .returned (.tuple #[])/\PnR w' p g r c { x with base:=x.now,done:=0 }/\Fr (λb=>b=p) w w':=by
 have k:=H.cell;have f:=H.b.frozen;refine inC ?_;go_in;go_wp2_with (go_at_call 70;refine(q0z H).mono ?_;rintro _ _ ⟨rfl,rfl⟩);go_returns;exact⟨rfl,⟨(H.b.set_ 1 _).set_ 2 _,(H.m.fr ((Fr.refl (λb=>b=p) w).setCell (p:=⟨p,1,none⟩) (λ_=>rfl) _ |>.setCell (p:=⟨p,2,none⟩) (λ_=>rfl) _) H.pg.symm H.pr.symm),H.pg,H.pr⟩,(Fr.refl (λb=>b=p) w).setCell (p:=⟨p,1,none⟩) (λ_=>rfl) _ |>.setCell (p:=⟨p,2,none⟩) (λ_=>rfl) _⟩
theorem qjy:cP 33 #[pp g] w λe w'=>e = .returned (ii x.m.total)/\w=w':=by
 have k:=H.m.cell;refine inC ?_;go_in;go_wp2_with (go_at_call 71;refine(qac H.m).mono ?_;rintro _ _ ⟨rfl,rfl⟩);go_returns;exact⟨rfl,rfl⟩
end
structure Sp where
 kind:Int
 part:Int
 power:Int
 ns:Int
abbrev Sp.lw (x:Sp):Array Value:=#[.int .i64 x.kind,.int .i64 x.part,.int .i64 x.power,.int .i64 x.ns]
def Sp.f(x:Sp):List Value:=[ii x.kind,ii x.part,ii x.power,ii x.ns]
def Sp0:Sp:=⟨0,0,0,0⟩
def qev(e:Int):List Sp->Bool
 | []=>true
 | s :: l=>!(decide (s.ns < 0) || decide (wrap64 (2305843009213693952 - e) < s.ns)) && qev (wrap64 (e + s.ns)) l
def goS(x:Pn):List Sp->Int×Pn
 | []=>(0,x)
 | s :: l=>if (q6k x.m s.kind s.part s.power s.ns).1=0 then goS { x with m:=(q6k x.m s.kind s.part s.power s.ns).2,now:=wrap64 (x.now + s.ns) } l else ((q6k x.m s.kind s.part s.power s.ns).1,{ x with m:=(q6k x.m s.kind s.part s.power s.ns).2 })
def q0r(x:Pn) (l:List Sp):Int×Pn:=if qev x.now l then goS x l else (6,x)
theorem qzv{t:TypeId} {l:List Sp} (h:Blk w b t cs) (hc:cs=(l.flatMap Sp.f).toArray) (h3:l.length<=3):SlG w (some ⟨b,0,none⟩) l.length l.length 4 Sp.f l:=by
 subst hc;refine⟨⟨?_,nL,by unfold maxLen;omega,(λe=>by cases e),λ_=>⟨b,0,rfl,h.lt,λj u hu=>by rw[Nat.zero_add,h.cell j];simpa using hu⟩⟩,rfl,λ_ _=>rfl⟩;clear h h3
 induction l with
 | nil=>rfl
 | cons a l ih=>simp only[List.flatMap_cons,List.length_append,ih,List.length_cons,Sp.f,List.length_nil];omega
theorem qn5(l:List Sp) {k:Nat} (h:k < l.length):l.drop k=atD Sp0 l k :: l.drop (k + 1):=by
 rw[List.drop_eq_getElem_cons h,q0s h]
theorem q7j{p g:Nat} {c:Pw} {x:Pn} {l:List Sp} (H:PnR w p g r c x) (hl:SlG w (some ⟨b,0,none⟩) l.length l.length 4 Sp.f l) (h3:l.length<=3) (hi:∀ s ∈ l,i64 s.power/\i64 s.ns) (bp:b≠p) (bg:b≠g) (br:b≠r) :
  cP 205 #[pp p,.slice (some ⟨b,0,none⟩) l.length l.length] w λe w'=>e = .returned (ii (q0r x l).1)/\PnR w' p g r c (q0r x l).2/\Fr (λj=>j=p\/j=g\/j=r) w w':=by
 have hE:q0r x l=q0r x l:=rfl
 conv at hE=>rhs;unfold q0r
 generalize q0r x l=R at *;have HE:=zhd hE;clear hE;have k:=H.cell;refine inC ?_;go_in;go_wp2_with fail;obtain⟨wo,rfl⟩:∃ wo:World,wo=w:=⟨_,rfl⟩
 have h6:Hid (qev x.now l=qev x.now (l.drop 0)):=rfl;go_loopw [5,18] (λev i wr=>∃ (j:Nat) (e:Int),ev = .int .i64 e/\i = .int .i64 j/\j<=l.length/\Hid (qev x.now l=qev e (l.drop j))/\bW wo wr) (λ_ i _=>l.length - (intOf i).toNat)
 case atStart=>exact⟨0,x.now,rfl,rfl,Nat.zero_le _,h6,bR⟩
 case round =>
  obtain⟨j,e,rfl,rfl,hj,hr,hb⟩:=hrel;have hw1:wrap64 ((j:Int) + 1)=((j + 1:Nat):Int):=by unfold wrap64;omega
  by_cases hk:j < l.length
  .obtain⟨sb,so,hA,h9,h0⟩:=(hl.keep hb).at_ Sp0 hk;injection hA with hA
   injection hA with h1 h2
   subst h1 h2;have s0:wr.cell? ⟨b,0 + j * 4,none⟩=some (ii (atD Sp0 l j).kind):=h0 0 _ rfl;have s1:=h0 1 _ rfl;have s2:=h0 2 _ rfl;have s3:=h0 3 _ rfl;rw[Nat.zero_add]at s0 s1 s2 s3
   have h5:=hr.out;rw[qn5 l hk,qev]at h5
   generalize atD Sp0 l j=s at *;by_cases q:s.ns < 0\/wrap64 (2305843009213693952 - e) < s.ns
   .have HN:=zhd (HE.out.trans (if_neg (by rw[h5];rcases q with q | q <;> simp[q])));clear hr h5 h6 HE hi;have h7:=hb.alloc hb.size (.cells (Sp.lw s) 374);go_wp2_with fail
    all_goals (go_returns;exact⟨q0w (congrArg Prod.fst HN.out).symm,by rw[HN.out];exact H.keep h7,fO h7 _⟩)
   .have hf:=zhd (h5.trans (by rw[decide_eq_false zo,decide_eq_false zo];rfl:_=qev (wrap64 (e + s.ns)) (l.drop (j + 1))));have q1:decide (s.ns < 0)=false:=decide_eq_false zo;have q2:decide (wrap64 (2305843009213693952 - e) < s.ns)=false:=decide_eq_false zo;have h7:=hb.alloc hb.size (.cells (Sp.lw s) 374);clear hr h5 h6 HE hi q;go_wp2_with fail;exact⟨⟨j + 1,_,rfl,by go_num,hk,hf,h7⟩,by simp[intOf];omega⟩
  .obtain rfl:j=l.length:=zo;have HG:Hid (R=goS x (l.drop 0)):=HE.out.trans (if_pos (hr.out.trans (by rw[List.drop_length];rfl)));have H1:=H.keep hb;have he:=hl.keep hb;have f1:=fO hb (λj=>j=p\/j=g\/j=r);clear hr h6 HE k;go_wp2_with fail;obtain⟨w1,rfl⟩:∃ w1:World,w1=wr:=⟨_,rfl⟩
   go_loopw [39] (λi w2=>∃ (j:Nat) (y:Pn),i = .int .i64 j/\j<=l.length/\Hid (R=goS y (l.drop j))/\PnR w2 p g r c y/\Fr (λj=>j=p\/j=g\/j=r) wo w2) (λi _=>l.length - (intOf i).toNat)
   case atStart=>exact⟨0,x,rfl,Nat.zero_le _,HG,H1,f1⟩
   case round =>
    clear HG H1 f1 H he hb;obtain⟨j,y,rfl,hj,hg,Hy,fy⟩:=hrel;have h8:SlG wr (some ⟨b,0,none⟩) l.length l.length 4 Sp.f l:=⟨hl.1.fr fy (λ_ _ _ e=>by cases e;rintro(h | h | h);exact bp h;exact bg h;exact br h),hl.2⟩
    by_cases hk:j < l.length
    .obtain⟨sb,so,hA,h9,h0⟩:=h8.at_ Sp0 hk;injection hA with hA
     injection hA with h1 h2
     subst h1 h2;have s0:wr.cell? ⟨b,0 + j * 4,none⟩=some (ii (atD Sp0 l j).kind):=h0 0 _ rfl;have s1:=h0 1 _ rfl;have s2:=h0 2 _ rfl;have s3:=h0 3 _ rfl;rw[Nat.zero_add]at s0 s1 s2 s3
     have h4:=hg.out;rw[qn5 l hk,goS]at h4
     obtain⟨ha,hc⟩:=hi _ (q0h (d:=Sp0) hk);generalize atD Sp0 l j=s at *;have bW:=zA wr (.cells (Sp.lw s) 374);have kd:=Blk.new wr 374 (Sp.lw s);have HW:=Hy.keep bW;have fW:=fy.trans (fO bW _);have dg:wr.heap.size≠g:=by have:=Hy.m.b.lt;omega
     have dr:wr.heap.size≠r:=by have:=Hy.m.c.lt;omega
     clear h0 hg hi Hy fy bW h8;go_wp2_with fail;clear s0 s1 s2 s3 h9;generalize wr.alloc (.cells (Sp.lw s) 374)=W at HW fW kd ⊢;obtain⟨d,hd⟩:∃ d,d=wr.heap.size:=⟨_,rfl⟩
     rw[<- hd]at kd dg dr ⊢
     clear hd;have lp:=HW.b.lt;have ld:=kd.lt;have kp:=HW.cell;have hh:=kd.cell;have pg:=HW.pg;have pr:=HW.pr;refine q88 (λj=>j=g\/j=r) [(12,0)] ?_;simp only[q03,tkO,dpO]
     repeat(go_big_quiet_step (fail))
     refine qwW (λK' hK'=>?_);go_wp2_with fail;refine(qn4 (w:=W.drew) ⟨HW.m.b.drew,HW.m.c.drew,HW.m.ne,HW.m.n⟩ ha hc).mono ?_;rintro _ w2 ⟨rfl,m2,f2⟩;replace f2:Fr (λj=>j=g\/j=r) W w2:=((Below.refl W.heap.size W).drew |> λh=>(fO h _).trans f2)
     refine zG (f2) ?_;clear hK' K';have H2:PnR w2 p g r c { y with m:=(q6k y.m s.kind s.part s.power s.ns).2 }:=⟨HW.b.fr f2 (by rintro(h | h);exact pg h;exact pr h),m2,pg,pr⟩
     have kd2:=(kd.fr f2 (by rintro(h | h);exact dg h;exact dr h)).cell;have fB:=fW.trans' f2 (λk _ h => .inr h);have kp2:=H2.cell;have fp2:=H2.b.frozen;generalize q6k y.m s.kind s.part s.power s.ns=T at *;obtain⟨T1,T2⟩:=T;simp only at *;clear kp hh HW kd fW f2 m2 lp ld;by_cases q:T1=0
     .subst q;have HN:=zhd (h4.trans (if_pos rfl));clear h4;refine wpQuiet_nil ?_;go_wp2_with fail;go_still_tail 11,zk
      go_wp2_with fail;have H3:PnR (w2.setCell ⟨p,0,none⟩ (ii (wrap64 (y.now + s.ns)))) p g r c { y with m:=T2,now:=wrap64 (y.now + s.ns) }:=⟨H2.b.set_ 0 _,⟨H2.m.b.far pg.symm _,H2.m.c.far pr.symm _,H2.m.ne,H2.m.n⟩,pg,pr⟩
      exact⟨⟨j + 1,_,by go_num,hk,HN,⟨H3.b,⟨H3.m.b,H3.m.c,H3.m.ne,H3.m.n⟩,pg,pr⟩,(fB.setCell (p:=⟨p,0,none⟩) (λ_ => .inl rfl) _).drew⟩,by simp[intOf];omega⟩
     .have HN:=zhd (h4.trans (if_neg q));have q':(T1 != 0)=true:=by simpa using q
      clear h4;refine wpQuiet_nil ?_;go_wp2_with fail;go_returns;exact⟨q0w (congrArg Prod.fst HN.out).symm,by rw[HN.out];exact H2,fB⟩
    .obtain rfl:j=l.length:=zo;have hN:Hid (R=(0,y)):=hg.out.trans (by rw[List.drop_length];rfl);clear hg;go_wp2_with fail;go_returns;exact⟨q0w (congrArg Prod.fst hN.out).symm,by rw[hN.out];exact Hy,fy⟩
def q8d(c:Pw) (x:Pn) (n:Int):Int×Int :=
 if n < 0\/(atD Lv0 c.levels.l x.level.toNat).freq < 1 then (0,2) else if wrap64 (2305843009213693952 - x.done) < n then (0,6)
 else if (q0b (wrap64 (x.done + n)) 1000 (atD Lv0 c.levels.l x.level.toNat).freq true).2≠0\/wrap64 (2305843009213693952 - x.base) < (q0b (wrap64 (x.done + n)) 1000 (atD Lv0 c.levels.l x.level.toNat).freq true).1 then (0,6)
 else (wrap64 (x.base + (q0b (wrap64 (x.done + n)) 1000 (atD Lv0 c.levels.l x.level.toNat).freq true).1),0)
theorem q3v(n:Int):i64 (wrap64 n):=by unfold i64 wrap64;omega
theorem qr8{p g:Nat} {c:Pw} {x:Pn} {n:Int} (H:PnR w p g r c x) (hc:q1y.ok W c) (hW:bW W w) (h0:0<=x.level) (h1:x.level < c.levels.l.length) :
  cP 302 #[pp p,ii n] w λe w'=>e = .returned (.tuple #[ii (q8d c x n).1,ii (q8d c x n).2])/\bW w w':=by
 have hE:q8d c x n=q8d c x n:=rfl
 conv at hE=>rhs;unfold q8d
 generalize q8d c x n=R at *;obtain⟨j,hj⟩:=Int.eq_ofNat_of_zero_le h0;have h6:j < c.levels.l.length:=zo;have k:=H.cell;have lp:=H.b.lt;have hw1:wrap64 (j:Int)=j:=by have:=hc.1.1.len;unfold wrap64;omega
 have hD:=q0z H;rw[hj]at k hE
 rw[Int.toNat_natCast]at hE
 obtain⟨sb,so,hA,h7,h5⟩:=(qb9.keep hc.1 hW).1.at_ Lv0 h6;rw[show qxk.sz=2 from rfl]at h5
 have s0:=h5 0 _ rfl;have hy:=zhd (hc.1.2 _ (q0h (d:=Lv0) h6)).1;generalize atD Lv0 c.levels.l j=y at *;rw[Nat.add_zero]at s0
 rw[hA]at k
 have hM:=λw=>q3k (w:=w) (up:=true) (q3v (x.done + n)) (show i64 1000 by unfold i64;omega) hy.out;generalize q0b (wrap64 (x.done + n)) 1000 y.freq true=M at *;clear h5 hA h0 h1 H hj;by_cases a1:n < 0
 .have HE:=zhd (hE.trans (if_pos (.inl a1)));have b1:decide (n < 0)=true:=decide_eq_true a1;clear hE a1;refine inC ?_;go_in;go_wp2_with (go_at_call 70;refine(hD).mono ?_;rintro _ _ ⟨rfl,rfl⟩);go_quiet (fail)
  go_wp2_with fail;go_returns;exact⟨qpy HE.out,q0a _ _ nq⟩
 have b1:decide (n < 0)=false:=decide_eq_false a1;by_cases a2:y.freq < 1
 .have HE:=zhd (hE.trans (if_pos (.inr a2)));have b2:decide (y.freq < 1)=true:=decide_eq_true a2;clear hE a1 a2;refine inC ?_;go_in;go_wp2_with (go_at_call 70;refine(hD).mono ?_;rintro _ _ ⟨rfl,rfl⟩);go_quiet (fail)
  go_wp2_with fail;go_returns;exact⟨qpy HE.out,q0a _ _ nq⟩
 have b2:decide (y.freq < 1)=false:=decide_eq_false a2;rw[if_neg zo]at hE
 by_cases a3:wrap64 (2305843009213693952 - x.done) < n
 .have HE:=zhd (hE.trans (if_pos a3));clear hE a1 a2;refine inC ?_;go_in;go_wp2_with (go_at_call 70;refine(hD).mono ?_;rintro _ _ ⟨rfl,rfl⟩);go_quiet (fail)
  have k':∀ i,(w.drewN nq).cell? ⟨p,i,none⟩=_:=k;go_wp2_with fail
  all_goals first | (exfalso;simp at *;omega) | (go_returns;exact⟨qpy HE.out,q0a _ _ nq⟩)
 rw[if_neg a3]at hE
 have HE:=zhd hE;clear hE a1 a2;refine inC ?_;go_in;go_wp2_with (go_at_call 70;refine(hD).mono ?_;rintro _ _ ⟨rfl,rfl⟩);go_quiet (fail)
 have k':∀ i,(w.drewN nq).cell? ⟨p,i,none⟩=_:=k;have h9:(w.drewN nq).cell? ⟨sb,so + j * 2,none⟩=_:=s0;have h8:p < (w.drewN nq).heap.size:=lp;have h4:sb < (w.drewN nq).heap.size:=h7;have h3:=q0a w.heap.size w nq;generalize w.drewN nq=w1 at k' h9 h8 h4 h3 ⊢;clear k s0 lp h7 hD;go_wp2_with fail
 all_goals first | (exfalso;simp at *;omega) | skip
 refine zW [(20,0)] λK' hK'=>?_;go_wp2_with fail;refine(hM _).mono ?_;rintro _ w2 ⟨rfl,h2⟩;replace h2:=(Below.refl w1.heap.size w1).drew.trans h2;refine zG (fO h2 _) ?_;clear hK' K';replace k':=λi=>((qcl h2).1 p i h8).trans (k' i);have hB:=zhd (bt h3 h2);clear h2 h3;refine wpQuiet_nil ?_;go_wp2_with fail
 all_goals (go_returns;refine⟨qpy ?_,hB.out⟩;rw[HE.out];split <;> first | rfl | (exfalso;omega) | (exfalso;simp at *;omega) | simp_all)
def qh0(x:Pn):Pn:={ x with base:=x.now,done:=0 }
theorem qad{u:FrameMode} {p g:Nat} {c:Pw} {x:Pn} {e:Int} (H:PnR w p g r c x) (ce:w.cell? ⟨q,0,none⟩=some (ii e)) :
  CallsD Tryz.prog 204 #[pp p,pp q] u w λy u' w'=>u'=u/\(y = .returned (.tuple #[])/\PnR w' p g r c (if e=0 then qh0 x else x)/\Fr (λb=>b=p) w w'):=by
 by_cases h:e=0
 .subst h;go_enter_d Tryz.func204,Tryz.ntmps204
  go_wp2_with (go_at_call 250;refine(qeu H).mono ?_;rintro _ w2 ⟨rfl,h2,f2⟩);go_returns;exact⟨rfl,h2,f2⟩
 .have h':(e == 0)=false:=by simpa using h
  rw[if_neg h];go_enter_d Tryz.func204,Tryz.ntmps204
  go_wp2;go_returns;exact⟨rfl,H,Fr.refl _ _⟩
def S3(p g r:Nat):Nat->Prop:=λj=>j=p\/j=g\/j=r
theorem qn6{p g:Nat} {c:Pw} {x:Pn} {e:Int} {tm:Array Value} {R:Ending->World->Prop} (H:PnR W p g r c x) (k:Blk W q 63 #[ii e]) (hq:q≠p) (ht:tm[4]?=some (pp q))
  (f:Fr (S3 p g r) w W) (h:∀ w',PnR w' p g r c (if e=0 then qh0 x else x)->Fr (S3 p g r) w w'->R (.returned (ii e)) w') :
  bodyPostD Tryz.prog Tryz.f136 R Exit.ret { tmps:=tm,defers:=[{ target:=Target.fn (Fn.func 204) #[],args:=#[pp p,pp q] }] } W:=by
 refine leaves_cons (f:=204) (args:=#[pp p,pp q]) zp (by simp[go_sem]) ?_;refine(qad H (k.cell 0)).mono ?_;rintro _ u' w'' ⟨rfl,rfl,H2,f2⟩;have c1:=(k.fr f2 hq).cell 0;exact⟨_,by simp[results,Tryz.results136,go_sem,ht,c1],h _ H2 (f.trans' f2 λ_ _ h => .inl h)⟩
def q7k(c:Pw) (x:Pn) (u:Int):Int×Pn :=
 if u < x.now then (2,x) else if 2305843009213693952 < u then (6,x)
 else ((q0r x [⟨1,0,c.idle,wrap64 (u - x.now)⟩]).1,if (q0r x [⟨1,0,c.idle,wrap64 (u - x.now)⟩]).1=0 then qh0 (q0r x [⟨1,0,c.idle,wrap64 (u - x.now)⟩]).2 else (q0r x [⟨1,0,c.idle,wrap64 (u - x.now)⟩]).2)
theorem qi8{p g:Nat} {c:Pw} {x:Pn} {u:Int} (H:PnR w p g r c x) (hi:i64 c.idle):cP 136 #[pp p,ii u] w λe w'=>e = .returned (ii (q7k c x u).1)/\PnR w' p g r c (q7k c x u).2/\Fr (S3 p g r) w w':=by
 have hE:q7k c x u=q7k c x u:=rfl
 conv at hE=>rhs;unfold q7k
 generalize q7k c x u=R at *;have hq:w.heap.size≠p:=by have:=H.b.lt;omega
 have h0:w.heap.size≠g:=by have:=H.m.b.lt;omega
 have h1:w.heap.size≠r:=by have:=H.m.c.lt;omega
 have bq:=zA w (.cells #[ii 0] 63);have kq:=Blk.new w 63 #[ii 0];have H1:=H.keep bq;have fq:=fO bq (S3 p g r);by_cases a1:u < x.now
 .have HE:=zhd (hE.trans (if_pos a1));have b1:decide (u < x.now)=true:=decide_eq_true a1;have k:=H1.cell;clear hE a1;go_enter_defers Tryz.func136,Tryz.ntmps136
  go_wp2_with (go_at_call 70;refine(q0z H1).mono ?_;rintro _ _ ⟨rfl,rfl⟩);have b9:=zA w (.cells #[ii 2] 63);exact⟨_,by simp[results,Tryz.results136,go_sem],q0w (congrArg Prod.fst HE.out).symm,by rw[HE.out];exact H.keep b9,fO b9 _⟩
 have b1:decide (u < x.now)=false:=decide_eq_false a1;rw[if_neg a1]at hE
 by_cases a2:2305843009213693952 < u
 .have HE:=zhd (hE.trans (if_pos a2));have b2:decide (2305843009213693952 < u)=true:=decide_eq_true a2;have k:=H1.cell;clear hE a2;go_enter_defers Tryz.func136,Tryz.ntmps136
  go_wp2_with (go_at_call 70;refine(q0z H1).mono ?_;rintro _ _ ⟨rfl,rfl⟩);have b9:=zA w (.cells #[ii 6] 63);exact⟨_,by simp[results,Tryz.results136,go_sem],q0w (congrArg Prod.fst HE.out).symm,by rw[HE.out];exact H.keep b9,fO b9 _⟩
 have b2:decide (2305843009213693952 < u)=false:=decide_eq_false a2;rw[if_neg a2]at hE
 generalize hs:(⟨1,0,c.idle,wrap64 (u - x.now)⟩:Sp)=s at hE;have HE:=zhd hE;have l1:=H1.b.lt;clear hE a1 a2 H;go_enter_defers Tryz.func136,Tryz.ntmps136
 go_upto_region 1 with fail;generalize w.alloc (.cells #[ii 0] 63)=w1 at *;obtain⟨q,h8⟩:∃ q,q=w.heap.size:=⟨_,rfl⟩
 have hw0:w.heap.size<=q:=zo;rw[<- h8]at hq h0 h1 kq ⊢
 clear h8;have k:=H1.cell;go_wp2_with (go_at_call 70;refine(q0z H1).mono ?_;rintro _ _ ⟨rfl,rfl⟩);refine zW [(14,0),(0,2),(0,2)] λK' hK'=>?_;go_wp2_with fail;have bA:=(zA w1 (.cells #[ii 1,ii 0,ii c.idle,ii (wrap64 (u - x.now))] 374)).drew;have kA:Blk (w1.alloc (.cells #[ii 1,ii 0,ii c.idle,ii (wrap64 (u - x.now))] 374)).drew w1.heap.size 374 #[ii 1,ii 0,ii c.idle,ii (wrap64 (u - x.now))]:=Blk.new w1 374 #[ii 1,ii 0,ii c.idle,ii (wrap64 (u - x.now))];refine zG (fO bA _) ?_;clear hK' K';generalize (w1.alloc (.cells #[ii 1,ii 0,ii c.idle,ii (wrap64 (u - x.now))] 374)).drew=w2 at bA kA ⊢;have h6:w1.heap.size≠p:=zo;have h5:w1.heap.size≠g:=by have:=H1.m.b.lt;omega
 have h7:w1.heap.size≠r:=by have:=H1.m.c.lt;omega
 have hl:=qzv (l:=[s]) kA (by rw[<- hs];rfl) zp;have h2:=q7j (H1.keep bA) hl zp (by rintro y hy;rw[List.mem_singleton.1 hy,<- hs];exact⟨hi,q3v _⟩) h6 h5 h7;have h9:=kq.keep bA;have f2:=fq.trans (fO bA (S3 p g r));obtain⟨b,hb⟩:∃ b,b=w1.heap.size:=⟨_,rfl⟩
 rw[<- hb]at h2 ⊢
 clear kA hl h6 h5 h7 hb bA kq fq H1 k l1;refine qwB (λK' hK'=>?_);go_wp2_with fail;refine h2.mono ?_;rintro _ w3 ⟨rfl,H3,f3⟩;generalize q0r x [s]=T at *;obtain⟨T1,T2⟩:=T;simp only at *;have ha:¬ (q=p\/q=g\/q=r):=by rintro(h | h | h);exact hq h;exact h0 h;exact h1 h
 have h3:=h9.fr f3 ha;replace f3:=f2.trans (S:=S3 p g r) f3;refine hK' _ _ rfl ?_;clear hK' K' h2 h9 f2
 try simp only[q03,tkO,dpO]
 repeat(go_big_quiet_step (fail))
 refine qwB (λK' hK'=>?_);have kc:=h3.cell 0;have kf:=h3.frozen 0;go_wp2_with fail;refine zE ?_;clear hK' K';go_wp2_with fail;refine qn6 (w:=w) (x:=T2) (e:=T1) ⟨H3.b.far hq.symm _,⟨H3.m.b.far h0.symm _,H3.m.c.far h1.symm _,H3.m.ne,H3.m.n⟩,H3.pg,H3.pr⟩ (h3.set_ 0 _) hq rfl (f3.setCell (p:=⟨q,0,none⟩) (λh=>absurd h (by simp;omega)) _) ?_;intro w' h4 f4;exact⟨q0w (congrArg Prod.fst HE.out).symm,by rw[HE.out];exact h4,f4⟩
theorem PnR.offq{p g i:Nat} {c:Pw} {x:Pn} {v:Value} (H:PnR w p g r c x) (hp:p≠q) (hg:g≠q) (hr:r≠q):PnR (w.setCell ⟨q,i,none⟩ v) p g r c x:=⟨H.b.far hp _,⟨H.m.b.far hg _,H.m.c.far hr _,H.m.ne,H.m.n⟩,H.pg,H.pr⟩
theorem PnR.lev{p g:Nat} {c:Pw} {x:Pn} (H:PnR w p g r c x) (k:Int):PnR (w.setCell ⟨p,3,none⟩ (ii k)) p g r c { x with level:=k }:=⟨H.b.set_ 3 _,⟨H.m.b.far H.pg.symm _,H.m.c.far H.pr.symm _,H.m.ne,H.m.n⟩,H.pg,H.pr⟩
theorem qew{p g:Nat} {c:Pw} {x:Pn} {e:Int} {tm:Array Value} {R:Ending->World->Prop} (H:PnR W p g r c x) (k:Blk W q 63 #[ii e]) (hq:q≠p) (ht:tm[4]?=some (pp q))
  (f:Fr (S3 p g r) w W) (h:∀ w',PnR w' p g r c (if e=0 then qh0 x else x)->Fr (S3 p g r) w w'->R (.returned (ii e)) w') :
  bodyPostD Tryz.prog Tryz.f258 R Exit.ret { tmps:=tm,defers:=[{ target:=Target.fn (Fn.func 204) #[],args:=#[pp p,pp q] }] } W:=by
 refine leaves_cons (f:=204) (args:=#[pp p,pp q]) zp (by simp[go_sem]) ?_;refine(qad H (k.cell 0)).mono ?_;rintro _ u' w'' ⟨rfl,rfl,H2,f2⟩;have c1:=(k.fr f2 hq).cell 0;exact⟨_,by simp[results,Tryz.results258,go_sem,ht,c1],h _ H2 (f.trans' f2 λ_ _ h => .inl h)⟩
def turnS(c:Pw) (x:Pn) (k:Int):Int×Pn :=
 if k < 0\/(c.levels.l.length:Int)<=k then (2,x) else if k=x.level then (0,x)
 else if (q0r x [⟨3,0,c.change,c.sw⟩]).1=0 then (0,qh0 { (q0r x [⟨3,0,c.change,c.sw⟩]).2 with level:=k }) else ((q0r x [⟨3,0,c.change,c.sw⟩]).1,(q0r x [⟨3,0,c.change,c.sw⟩]).2)
theorem turn_any{p g:Nat} {c:Pw} {x:Pn} {k:Int} (H:PnR w p g r c x) (hi:i64 c.change/\i64 c.sw):cP 258 #[pp p,ii k] w λe w'=>e = .returned (ii (turnS c x k).1)/\PnR w' p g r c (turnS c x k).2/\Fr (S3 p g r) w w':=by
 have hE:turnS c x k=turnS c x k:=rfl
 conv at hE=>rhs;unfold turnS
 generalize turnS c x k=R at *;have hq:w.heap.size≠p:=by have:=H.b.lt;omega
 have h2:w.heap.size≠g:=by have:=H.m.b.lt;omega
 have h3:w.heap.size≠r:=by have:=H.m.c.lt;omega
 have bq:=zA w (.cells #[ii 0] 63);have kq:=Blk.new w 63 #[ii 0];have H1:=H.keep bq;have fq:=fO bq (S3 p g r);by_cases a1:k < 0\/(c.levels.l.length:Int)<=k
 .have HE:=zhd (hE.trans (if_pos a1));clear hE;have kk:=H1.cell;have b9:=zA w (.cells #[ii 2] 63);go_enter_defers Tryz.func258,Tryz.ntmps258
  go_wp2_with (go_at_call 70;refine(q0z H1).mono ?_;rintro _ _ ⟨rfl,rfl⟩)
  all_goals first | (exfalso;simp at *;omega) | exact⟨_,by simp[results,Tryz.results258,go_sem],q0w (congrArg Prod.fst HE.out).symm,by rw[HE.out];exact H.keep b9,fO b9 _⟩
 rw[if_neg a1]at hE
 have b1:decide (k < 0)=false:=decide_eq_false zo;have b2:decide ((c.levels.l.length:Int)<=k)=false:=decide_eq_false zo;by_cases a2:k=x.level
 .have HE:=zhd (hE.trans (if_pos a2));have b3:(k == x.level)=true:=beq_iff_eq.2 a2;clear hE a1 a2;have kk:=H1.cell;have b9:=zA w (.cells #[ii 0] 63);go_enter_defers Tryz.func258,Tryz.ntmps258
  go_wp2_with (go_at_call 70;refine(q0z H1).mono ?_;rintro _ _ ⟨rfl,rfl⟩)
  all_goals first | (exfalso;simp at *;omega) | exact⟨_,by simp[results,Tryz.results258,go_sem],q0w (congrArg Prod.fst HE.out).symm,by rw[HE.out];exact H.keep b9,fO b9 _⟩
 rw[if_neg a2]at hE
 have b3:(k == x.level)=false:=beq_eq_false_iff_ne.2 a2;obtain⟨l,h1⟩:∃ l:List Sp,l = [⟨3,0,c.change,c.sw⟩]:=⟨_,rfl⟩
 rw[<- h1]at hE
 have HE:=zhd hE;have l1:=H1.b.lt;clear hE H;go_enter_defers Tryz.func258,Tryz.ntmps258
 go_upto_region 1 with fail;generalize w.alloc (.cells #[ii 0] 63)=w1 at *;obtain⟨q,ha⟩:∃ q,q=w.heap.size:=⟨_,rfl⟩
 have hw0:w.heap.size<=q:=zo;rw[<- ha]at hq h2 h3 kq ⊢
 clear ha;have kk:=H1.cell;have hd:∀ s ∈ l,i64 s.power/\i64 s.ns:=by rw[h1];intro y hy;rw[List.mem_singleton.1 hy];exact hi
 clear a1 a2;go_wp2_with (go_at_call 70;refine(q0z H1).mono ?_;rintro _ _ ⟨rfl,rfl⟩);refine zW [(12,0),(0,2),(0,2)] λK' hK'=>?_;go_wp2_with fail;have bA:=(zA w1 (.cells #[ii 3,ii 0,ii c.change,ii c.sw] 374)).drew;have kA:Blk (w1.alloc (.cells #[ii 3,ii 0,ii c.change,ii c.sw] 374)).drew w1.heap.size 374 #[ii 3,ii 0,ii c.change,ii c.sw]:=Blk.new w1 374 #[ii 3,ii 0,ii c.change,ii c.sw];refine zG (fO bA _) ?_;clear hK' K';generalize (w1.alloc (.cells #[ii 3,ii 0,ii c.change,ii c.sw] 374)).drew=w2 at bA kA ⊢;have h8:w1.heap.size≠p:=by have:=H1.b.lt;omega
 have h7:w1.heap.size≠g:=by have:=H1.m.b.lt;omega
 have h9:w1.heap.size≠r:=by have:=H1.m.c.lt;omega
 have hl:=qzv (l:=l) kA (by rw[h1];rfl) (by rw[h1];simp);have h6:=q7j (H1.keep bA) hl (by rw[h1];simp) hd h8 h7 h9;rw[show l.length=1 by rw[h1];rfl]at h6
 have hc:=kq.keep bA;have f2:=fq.trans (fO bA (S3 p g r));obtain⟨b,hb⟩:∃ b,b=w1.heap.size:=⟨_,rfl⟩
 rw[<- hb]at h6 ⊢
 clear kA hl h8 h7 h9 hb bA kq fq H1 kk l1;refine qwB (λK' hK'=>?_);go_wp2_with fail;refine h6.mono ?_;rintro _ w3 ⟨rfl,H3,f3⟩;generalize q0r x l=T at *;obtain⟨T1,T2⟩:=T;simp only at *;have he:¬ (q=p\/q=g\/q=r):=by rintro(h | h | h);exact hq h;exact h2 h;exact h3 h
 have h5:=hc.fr f3 he;replace f3:=f2.trans (S:=S3 p g r) f3;refine hK' _ _ rfl ?_;clear hK' K' h6 hc f2
 try simp only[q03,tkO,dpO]
 repeat(go_big_quiet_step (fail))
 refine qwB (λK' hK'=>?_);have kc:=h5.cell 0;have kf:=h5.frozen 0;go_wp2_with fail;refine hK' _ _ rfl ?_;clear hK' K'
 try simp only[q03,tkO,dpO]
 repeat(go_big_quiet_step (fail))
 have kp:=H3.cell;have fp:=H3.b.frozen;have lq:=h5.lt;have hqp:=hq.symm;by_cases a4:T1=0
 .subst a4;have HF:=zhd (HE.out.trans (if_pos rfl));clear HE;refine wpQuiet_nil ?_;go_wp2_with fail;have h0:∀ S:Nat->Prop,q < w.heap.size->S q:=λS h=>absurd h zo;refine qew (w:=w) (e:=0) (((H3.offq (i:=0) (v:=ii 0) hq.symm h2.symm h3.symm).lev k).offq hq.symm h2.symm h3.symm) (((h5.set_ 0 (ii 0)).far (p:=⟨p,3,none⟩) hq _).set_ 0 _) hq rfl (((f3.setCell (p:=⟨q,0,none⟩) (h0 _) _).setCell (p:=⟨p,3,none⟩) (λ_ => .inl rfl) _).setCell (p:=⟨q,0,none⟩) (h0 _) _) ?_;intro w' h4 f4;exact⟨q0w (congrArg Prod.fst HF.out).symm,by rw[HF.out];exact h4,f4⟩
 .have HF:=zhd (HE.out.trans (if_neg a4));have b4:(T1 == 0)=false:=beq_eq_false_iff_ne.2 a4;have HN:=zhd a4;clear HE a4;refine wpQuiet_nil ?_;go_wp2_with fail;have h0:∀ S:Nat->Prop,q < w.heap.size->S q:=λS h=>absurd h zo;refine qew (w:=w) (e:=T1) ((H3.offq (i:=0) (v:=ii T1) hq.symm h2.symm h3.symm).offq hq.symm h2.symm h3.symm) ((h5.set_ 0 (ii T1)).set_ 0 _) hq rfl ((f3.setCell (p:=⟨q,0,none⟩) (h0 _) _).setCell (p:=⟨q,0,none⟩) (h0 _) _) ?_;intro w' h4 f4;rw[if_neg HN.out]at h4
  exact⟨q0w (congrArg Prod.fst HF.out).symm,by rw[HF.out];exact h4,f4⟩
end Go.Proofs.YtncfcbohiodnnaaGreat
