/- Parts of this seat's claims. -/
import Derived.Test.YtncfcbohiodnnaaGreatWX4
set_option maxRecDepth 100000
set_option maxHeartbeats 6400000
namespace Go.Proofs.YtncfcbohiodnnaaGreat
open Go.RowKit
variable{w w' W wa wo W':World}{c n pt r B j b m mb q base cap id B0:Nat}{A:Option Addr}{a code what:Int}{cs:Array Value}
def ya(cf:Cf)(e:En):Bool:=zy e.part 0 (wrap64 (cf.parts.l.length-1))
def yi(cf:Cf)(e:En):Bool:=zy e.port 0 (wrap64 ((z6 ze cf.parts.l e.part.toNat).ports.l.length-1))
def qef(cf:Cf)(e:En):Po×Bool:=if ya cf e&&yi cf e then(z6 zS (z6 ze cf.parts.l e.part.toNat).ports.l e.port.toNat,true) else(zS,false)
theorem qtt{k:Int}(hn:(n:Int)<=9223372036854775807)(h:zy k 0 (wrap64 (n-1))=true):∃j:Nat,k=j/\j<n:=by unfold zy at h;simp only[Z6,Zt]at h;unfold wrap64 at h;obtain⟨j,hj⟩:=Zf h.1;exact⟨j,hj,zo⟩
theorem qeg{cf:Cf}(hx:q53.ok w cf.parts){e:En}{y:Po}{r:Bool}(hr:qef cf e=(y,r)):cR 224 #[.agg (Cf.lw cf),.agg (En.lw e)] w (.tuple #[.agg (Po.lw y),.bool r]):=by have b0:bW w (((w.alloc (.cells (Cf.lw cf) 33)).alloc (.cells (En.lw e) 139)).alloc (.cells #[.bool false,.bool false,ii 0,ii 0] 199)):=zv;have kp:=((Blk.new w 33 (Cf.lw cf)).alloc (.cells (En.lw e) 139)).alloc (.cells #[.bool false,.bool false,ii 0,ii 0] 199);have ke:=(Blk.new (w.alloc (.cells (Cf.lw cf) 33)) 139 (En.lw e)).alloc (.cells #[.bool false,.bool false,ii 0,ii 0] 199);have ky:=Blk.new ((w.alloc (.cells (Cf.lw cf) 33)).alloc (.cells (En.lw e) 139)) 199 #[.bool false,.bool false,ii 0,ii 0];rw[Z9]at ke ky;rw[Z9]at ky;refine zi ?_;go_upto_region 1 with fail;generalize((w.alloc (.cells (Cf.lw cf) 33)).alloc (.cells (En.lw e) 139)).alloc (.cells #[.bool false,.bool false,ii 0,ii 0] 199)=w1 at*;obtain⟨gp,h8⟩:=aU w.heap.size;rw[<- h8]at kp ke ky⊢;have h7:w.heap.size<=gp+1+1:=zo;have HG:=zhd h7;clear h8 h7;have HX:=zhd (q53.keep hx b0);have HB:=zhd b0;have hn:=hx.1.len;have HR:Hid ((y,r)=if ya cf e&&yi cf e then(z6 zS (z6 ze cf.parts.l e.part.toNat).ports.l e.port.toNat,true) else(zS,false)):=by{rw[<- hr];exact rfl};have c0:w1.cell? ⟨gp,0,none⟩=some (.slice cf.parts.A cf.parts.l.length cf.parts.c):=kp.cell 0;have d0:w1.cell? ⟨gp+1,0,none⟩=some (ii e.part):=ke.cell 0;have d1:w1.cell? ⟨gp+1,1,none⟩=some (ii e.port):=ke.cell 1;have yc:=ky.cell;have yf:=ky.frozen;have yl:=ky.lt;have lg:=kp.lt;have le:=ke.lt;have HY:=zhd ky;clear kp ke ky b0 hr hx;have HP:Hid (ya cf e=zy e.part 0 (wrap64 (cf.parts.l.length-1))):=rfl;have hw0:=Q4 ((cf.parts.l.length:Int)-1) zo;have hf:wrap64 ((cf.parts.l.length:Int)-1)=(cf.parts.l.length:Int)-1:=aW;rw[hf]at HP;refine zW [(6,0),(13,0)] λU V=>?_;go_wp2_with(go_fit q1b;rintro _ _⟨rfl,rfl⟩);refine V _ _ rfl (q01 (fO bR.drew _)) ?_;clear V U;(try simp only[tkO,dpO]);cases hb1:ya cf e with|false=>{have HE:Hid ((y,r)=(zS,false)):=HR.out.trans (by rw[hb1];rfl);have h2:zy e.part 0 (cf.parts.l.length-1)=false:=HP.out.symm.trans hb1;clear hb1 HR HX;rw[h2];refine aG ?_;refine wpQuiet_nil (q48 rfl ?_);(try simp only);refine zN ?_;refine wpQuiet_nil ?_;go_wp2_with fail;have kF:=(((((HY.out.set_ 0 (.bool false)).set_ 1 (.bool false)).set_ 2 (ii 0)).set_ 3 (ii 0))).drew;have bF:=(((((HB.out.setCell (p:=⟨gp+1+1,0,none⟩) HG.out (.bool false)).setCell (p:=⟨gp+1+1,1,none⟩) HG.out (.bool false)).setCell (p:=⟨gp+1+1,2,none⟩) HG.out (ii 0)).setCell (p:=⟨gp+1+1,3,none⟩) HG.out (ii 0))).drew;generalize(((((w1).setCell ⟨gp+1+1,0,none⟩ (.bool false)).setCell ⟨gp+1+1,1,none⟩ (.bool false)).setCell ⟨gp+1+1,2,none⟩ (ii 0)).setCell ⟨gp+1+1,3,none⟩ (ii 0)).drew=w9 at kF bF⊢;have z0:w9.cell? ⟨gp+1+1,0,none⟩=some (.bool false):=kF.cell 0;have z1:w9.cell? ⟨gp+1+1,1,none⟩=some (.bool false):=kF.cell 1;have z2:w9.cell? ⟨gp+1+1,2,none⟩=some (ii 0):=kF.cell 2;have z3:w9.cell? ⟨gp+1+1,3,none⟩=some (ii 0):=kF.cell 3;refine Z_ (v := .tuple #[.agg #[.bool false,.bool false,ii 0,ii 0],.bool false]) (by simp[results,Tryz.results224,go_sem,z0,z1,z2,z3]) rfl ?_;cases HE.out;exact⟨rfl,bF⟩}|true=>{have h2:zy e.part 0 (cf.parts.l.length-1)=true:=HP.out.symm.trans hb1;obtain⟨j,hj,hb⟩:=qtt (n:=cf.parts.l.length) zo (by rw[hf];exact h2);rw[h2];obtain⟨sb,so,hA,he,h6⟩:=HX.out.1.at_ ze hb;rw[show qcu.sz=11 from rfl]at h6;have h5:=(HX.out.2 _ (q0h (d:=ze) hb)).2.2.1;have ha:e.part.toNat=j:=zo;have h1:Hid ((y,r)=if zy e.port 0 (wrap64 ((z6 ze cf.parts.l j).ports.l.length-1)) then(z6 zS (z6 ze cf.parts.l j).ports.l e.port.toNat,true) else(zS,false)):=by{have:=HR.out;unfold yi at this;rw[hb1,ha,XO]at this;exact this};clear HR HP hb1 h2 ha HX;generalize z6 ze cf.parts.l j=z at*;have s2:w1.cell? ⟨sb,so+j*11+2,none⟩=some (.slice z.ports.A z.ports.l.length z.ports.c):=h6 2 _ rfl;rw[hj]at d0;rw[hj,hA];rw[hA]at c0;have hzn:=h5.1.len;have hw1:=Q4 ((z.ports.l.length:Int)-1) zo;have h3:wrap64 ((z.ports.l.length:Int)-1)=(z.ports.l.length:Int)-1:=aW;rw[h3]at h1;clear h6 hA hj;refine aG ?_;refine qwW (λU V=>?_);go_wp2_with(go_fit q1b;rintro _ _⟨rfl,rfl⟩);refine V _ _ rfl (q01 (fO bR.drew _)) ?_;clear V U;(try simp only[q03,tkO,dpO]);cases hb2:zy e.port 0 (z.ports.l.length-1) with|false=>{have HE:Hid ((y,r)=(zS,false)):=h1.out.trans (by rw[hb2];rfl);clear h1;refine aG ?_;refine wpQuiet_nil ?_;go_wp2_with fail;have kF:=(((((HY.out.set_ 0 (.bool false)).set_ 1 (.bool false)).set_ 2 (ii 0)).set_ 3 (ii 0))).drew;have bF:=(((((HB.out.setCell (p:=⟨gp+1+1,0,none⟩) HG.out (.bool false)).setCell (p:=⟨gp+1+1,1,none⟩) HG.out (.bool false)).setCell (p:=⟨gp+1+1,2,none⟩) HG.out (ii 0)).setCell (p:=⟨gp+1+1,3,none⟩) HG.out (ii 0))).drew;generalize(((((w1).setCell ⟨gp+1+1,0,none⟩ (.bool false)).setCell ⟨gp+1+1,1,none⟩ (.bool false)).setCell ⟨gp+1+1,2,none⟩ (ii 0)).setCell ⟨gp+1+1,3,none⟩ (ii 0)).drew=w9 at kF bF⊢;have z0:w9.cell? ⟨gp+1+1,0,none⟩=some (.bool false):=kF.cell 0;have z1:w9.cell? ⟨gp+1+1,1,none⟩=some (.bool false):=kF.cell 1;have z2:w9.cell? ⟨gp+1+1,2,none⟩=some (ii 0):=kF.cell 2;have z3:w9.cell? ⟨gp+1+1,3,none⟩=some (ii 0):=kF.cell 3;refine Z_ (v := .tuple #[.agg #[.bool false,.bool false,ii 0,ii 0],.bool false]) (by simp[results,Tryz.results224,go_sem,z0,z1,z2,z3]) rfl ?_;cases HE.out;exact⟨rfl,bF⟩}|true=>{obtain⟨i,hi,hh⟩:=qtt (n:=z.ports.l.length) zo (by rw[h3];exact hb2);obtain⟨pb,po,hc,hd,h0⟩:=h5.1.at_ zS hh;rw[show qzs.sz=4 from rfl]at h0;have h9:e.port.toNat=i:=zo;have HE:Hid ((y,r)=(z6 zS z.ports.l i,true)):=h1.out.trans (by rw[hb2,h9];rfl);clear h1 h5;generalize z6 zS z.ports.l i=v at*;have p0:w1.cell? ⟨pb,po+i*4,none⟩=some (.bool v.q):=h0 0 _ rfl;have p1:w1.cell? ⟨pb,po+i*4+1,none⟩=some (.bool v.inn):=h0 1 _ rfl;have p2:w1.cell? ⟨pb,po+i*4+2,none⟩=some (ii v.size):=h0 2 _ rfl;have p3:w1.cell? ⟨pb,po+i*4+3,none⟩=some (ii v.depth):=h0 3 _ rfl;rw[hi]at d1⊢;rw[hc]at s2⊢;clear h0 hc hi h9;refine aG ?_;refine wpQuiet_nil ?_;go_upto_region 3 with fail;have hg:=zhd HB.out.drew;have h4:=zhd HY.out.drew;replace c0:w1.drew.cell? ⟨gp,0,none⟩=some (.slice (some ⟨sb,so,none⟩) cf.parts.l.length cf.parts.c):=c0;replace d0:w1.drew.cell? ⟨gp+1,0,none⟩=some (ii (j:Int)):=d0;replace d1:w1.drew.cell? ⟨gp+1,1,none⟩=some (ii (i:Int)):=d1;replace s2:w1.drew.cell? ⟨sb,so+j*11+2,none⟩=some (.slice (some ⟨pb,po,none⟩) z.ports.l.length z.ports.c):=s2;replace p0:w1.drew.cell? ⟨pb,po+i*4,none⟩=some (.bool v.q):=p0;replace p1:w1.drew.cell? ⟨pb,po+i*4+1,none⟩=some (.bool v.inn):=p1;replace p2:w1.drew.cell? ⟨pb,po+i*4+2,none⟩=some (ii v.size):=p2;replace p3:w1.drew.cell? ⟨pb,po+i*4+3,none⟩=some (ii v.depth):=p3;replace yc:=h4.out.cell;replace yf:=h4.out.frozen;replace yl:=h4.out.lt;replace lg:gp<w1.drew.heap.size:=lg;replace le:gp+1<w1.drew.heap.size:=le;replace he:sb<w1.drew.heap.size:=he;replace hd:pb<w1.drew.heap.size:=hd;generalize w1.drew=w2 at*;refine zB [(11,2)] λU V=>?_;go_wp2_with fail;refine zE ?_;clear V U;go_wp2_with fail;have kF:=((((h4.out.set_ 0 (.bool v.q)).set_ 1 (.bool v.inn)).set_ 2 (ii v.size)).set_ 3 (ii v.depth)).drew;have bF:=((((hg.out.setCell (p:=⟨gp+1+1,0,none⟩) HG.out (.bool v.q)).setCell (p:=⟨gp+1+1,1,none⟩) HG.out (.bool v.inn)).setCell (p:=⟨gp+1+1,2,none⟩) HG.out (ii v.size)).setCell (p:=⟨gp+1+1,3,none⟩) HG.out (ii v.depth)).drew;generalize(((((w2).setCell ⟨gp+1+1,0,none⟩ (.bool v.q)).setCell ⟨gp+1+1,1,none⟩ (.bool v.inn)).setCell ⟨gp+1+1,2,none⟩ (ii v.size)).setCell ⟨gp+1+1,3,none⟩ (ii v.depth)).drew=w9 at kF bF⊢;have z0:w9.cell? ⟨gp+1+1,0,none⟩=some (.bool v.q):=kF.cell 0;have z1:w9.cell? ⟨gp+1+1,1,none⟩=some (.bool v.inn):=kF.cell 1;have z2:w9.cell? ⟨gp+1+1,2,none⟩=some (ii v.size):=kF.cell 2;have z3:w9.cell? ⟨gp+1+1,3,none⟩=some (ii v.depth):=kF.cell 3;refine Z_ (v := .tuple #[.agg (Po.lw v),.bool true]) (by simp[results,Tryz.results224,go_sem,z0,z1,z2,z3]) rfl ?_;cases HE.out;exact⟨rfl,bF⟩}}
structure St where
 cyc:Int
 call:Int
 a:Int
 b:Int
 c:Int
 d:Int
abbrev St.lw(x:St):Array Value:=#[.int .i64 x.cyc,.int .i64 x.call,.int .i64 x.a,.int .i64 x.b,.int .i64 x.c,.int .i64 x.d]
def St.f(x:St):List Value:=[ii x.cyc,ii x.call,ii x.a,ii x.b,ii x.c,ii x.d]
def St.ok(x:St):Prop:=i64 x.cyc/\i64 x.call/\i64 x.a/\i64 x.b/\i64 x.c/\i64 x.d
def St0:St:=⟨0,0,0,0,0,0⟩
structure Ev where
 part:Int
 win:Int
 proc:Int
 call:Int
 code:Int
 value:Int
def Ev.f(x:Ev):List Value:=[ii x.part,ii x.win,ii x.proc,ii x.call,ii x.code,ii x.value]
structure Tk where
 prog:List St
 at_:Nat
 rest:Int
 addr:Int
 data:List UInt8
 done:Bool
def za:Tk:=⟨[],0,0,0,[],false⟩
def Tk.step(t:Tk):St:=z6 St0 t.prog t.at_
def Tk.set(t:Tk)(k:Nat):Tk:={t with at_:=k%t.prog.length,rest:=q8n (z6 St0 t.prog (k%t.prog.length)).cyc 1 1073741824}
structure Ce where
 cf:Pt
 part:Int
 mode:Int
 win:Int
 tk:List Tk
 tab:List Rw
 tn:Int
 bs:List (List UInt8)
 pts:List Ps
 obs:Ob
 slk:Option Sk
 evs:List Ev
def vv:Sk:=⟨0,[],[]⟩
def Ce.sk(s:Ce):Sk:=s.slk.getD vv
def Ce.segs(s:Ce):List Me.Sg:=(s.cf.regs.l.map λr=>(⟨r.base,r.size,r.wr⟩:Me.Sg)).take 4
def q0i(s:Ce)(k call code v:Int):Ce:={s with evs:=s.evs ++ [⟨s.part,s.win,k,call,code,v⟩]}
def q1d(s:Ce)(k:Nat)(t:Tk):Ce:={s with tk:=s.tk.set k t}
def q6a(s:Ce)(x:List Rw×Int):Ce:={s with tab:=x.1,tn:=x.2}
def q0m(s:Ce)(k:Nat)(win:Int):Ce :=
 let s1:=q1d s k {(z6 za s.tk k).set 0 with data:=[]}
 let s2:=q6a s1 (q6n s1.tab s1.tn k win).2
 if(z6 za s.tk k).done=true then{s2 with tab:=(qa1 s2.tab k).2} else s2
def q2e(s:Ce)(k:Nat):Ce :=
 let s1:=q1d s k {z6 za s.tk k with data:=[]}
 q6a s1 (setS s1.tab s1.tn k 0).2
def q57(s:Ce)(k:Nat):Ce :=
 let s1:=q1d s k {z6 za s.tk k with done:=true}
 {s1 with tab:=(qa1 s1.tab k).2,slk:=some (qqt s1.sk k)}
def q1h(f:Ce->Nat->Ce)(s:Ce)(n:Nat):Ce:=(List.range n).foldl f s
theorem q1p(f:Ce->Nat->Ce)(s:Ce)(n:Nat):q1h f s (n+1)=f (q1h f s n) n:=by unfold q1h;rw[ZY,ZJ];rfl
def qes(s:Ce):Ce:=q1h q2e {s with mode:=0} s.tk.length
def q2s(s:Ce)(cold:Bool):Ce :=
 let s1:={s with bs:=if cold=true then s.bs.map Me.zl else s.bs,obs:=q4r s.cf,pts:=q3r s.pts}
 q1h (λs k=>q0m s k s.win) (q1h q2e s1 s.tk.length) s.tk.length
def q1c(s:Ce)(kind:Int)(k:Nat):Ce :=
 let act:=q6p s.cf.acts.l kind
 let s1:=q0i s k (wrap64 (-1-kind)) act 0
 if act=1 then q2e s1 k
 else if act=2 then q0m (q2e s1 k) k s1.win
 else if act=3 then q2s s1 true
 else if act=4 then qes s1 else s1
def q09(s:Ce)(k:Nat)(call code v:Int):Ce :=
 let s1:=q0i s k call code v
 let s2:=q1d s1 k {z6 za s1.tk k with data:=[]}
 q6a s2 (setS s2.tab s2.tn k 1).2
def q3t(s:Ce)(a:Int)(b:List UInt8):Ce:={s with bs:=(Me.storeR s.segs s.bs a b).1}
def q15(s:Ce)(k:Nat)(call:Int)(b:List UInt8):Ce:=q09 (q3t s (z6 za s.tk k).addr b) k call 0 b.length
def q3u(f:Ce->Option Ce):Nat->Ce->Ce
 |0,s=>s
 |n+1,s=>match f s with|none=>s|some s'=>q3u f n s'
def q0e(s:Ce)(call what:Int):Int:=q22 (q6o call what) s.tab s.tab.length
def q7h(s:Ce):Int:=q22 q4n s.tab s.tab.length
def q12(p:Int)(s:Ce):Option Ce :=
 if q0e s 11 p<0 then none
 else if(q10 s.pts p true (z6 za s.tk (q0e s 11 p).toNat).data).1≠0 then none
 else some (q09 {s with pts:=(q10 s.pts p true (z6 za s.tk (q0e s 11 p).toNat).data).2} (q0e s 11 p).toNat 11 0 0)
def q1z(s:Ce)(p:Int):Ce:=q3u (q12 p) (s.tab.length+1) s
def q13(p:Int)(s:Ce):Option Ce :=
 if q0e s 12 p<0 then none
 else if(q44 s.pts p true).2.1≠0 then none
 else some (q15 {s with pts:=(q44 s.pts p true).2.2} (q0e s 12 p).toNat 12 (q44 s.pts p true).1)
def q2m(s:Ce)(p:Int):Ce:=q3u (q13 p) (s.tab.length+1) s
def q1q(call p:Int)(s:Ce):Option Ce:=if q0e s call p<0 then none else some (q09 s (q0e s call p).toNat call 0 0)
def q1r(p:Int)(b:List UInt8)(s:Ce):Option Ce:=if q0e s 21 p<0 then none else some (q15 s (q0e s 21 p).toNat 21 b)
def q0c(s:Ce):Ce :=
 let r:=q5u s.win s.tab s.tn s.tab.length
 let s1:=q6a s (r.l,r.tn)
 let s2:=r.rel.foldl (λs k=>q0i s k 1 0 0) s1
 r.mis.foldl (λs k=>if s.mode=3 then q1c s 4 k.toNat else s) s2
def qd8(s:Ce)(k:Int):Ce:=q09 s k.toNat (q3o s.tab k).1.call (if(q3o s.tab k).1.call=2 then 0 else 5) 0
def q36(s:Ce):Ce:=(qbc (qdw s.win) s.tab s.tab.length).foldl qd8 s
def q0p(s:Ce):Option Ce :=
 if s.mode≠3 then none
 else if q7h s<0\/0<z7 s.sk.has (q7h s).toNat then none
 else some (q1c (q57 s (q7h s).toNat) 0 (q7h s).toNat)
def q2n(s:Ce):Ce:=q3u q0p (s.tk.length+1) s
def qn2(s:Ce):Ce:=(List.range 8).foldl (λs (p:Nat)=>q2m (q1z s p) p) s
def q2g(s:Ce):Ce :=
 let s1:={s with win:=wrap64 (s.win+1),slk:=some (q56 s.cf),tab:=qd0 s.tab,tk:=s.tk.map λt=>{t with done:=false} }
 if s1.mode≠3 then s1 else q2n (q36 (qn2 (q0c s1)))
def q06(s:Ce):Int:=if s.slk.isNone=true\/s.mode≠3 then-1 else q7h s
def q58(s:Ce):Int:=if q06 s<0 then 0 else min (min (z6 za s.tk (q06 s).toNat).rest (z7 s.sk.has (q06 s).toNat)) s.sk.room
def qgz(s:Ce):Int:=if q06 s<0 then 0 else qgu s.sk
def q0n(s:Ce)(k:Nat)(x:St)(code:Int):Ce:=q0i s k x.call code 0
def qaa(s:Ce)(k:Nat)(x:St):Ce :=
 let per:=decide (0<(z6 zC s.cf.procs.l k).per)
 if x.call=1/\per=false\/x.call=3/\per=true then q0n s k x 4
 else if x.call=1 then q57 (q6a s (setS s.tab s.tn k 4).2) k
 else if x.call=3 then let s1:=q0n s k x 0;q6a s1 (setS s1.tab s1.tn k 3).2
 else if x.a<1\/1000<x.a then q0n s k x 2
 else q57 (q6a s (qbb s.tab s.tn k x.call 0 (wrap64 (s.win+x.a))).2) k
def q4a(s:Ce)(k:Nat)(x:St):Ce :=
 if x.call=1\/x.call=2\/x.call=3 then qaa s k x
 else if q2r s.tk x.a=false\/x.call=4/\x.a=k\/x.call=7/\(x.b<0\/63<x.b) then q0n s k x 2
 else
  let st:=(q3o s.tab x.a).1.state
  if x.call=7/\st=0 then q0n s k x 4
  else if x.call=7 then q0n {s with tab:=(qek s.tab x.a x.b).2} k x 0
  else if x.call=4/\st=3 then q0n (q6a s (setS s.tab s.tn x.a 1).2) k x 0
  else if x.call=5/\st=0 then q0n (q0m s x.a.toNat s.win) k x 0
  else if x.call=6/\st≠0 then q0n (q2e s x.a.toNat) k x 0
  else q0n s k x 6
def q7i(s:Ce)(k:Nat)(x:St)(b:List UInt8):Ce :=
 if x.d=0 then q0n s k x 1
 else
  let s1:=q1d s k {z6 za s.tk k with addr:=x.b,data:=b}
  q6a s1 (qbb s1.tab s1.tn k x.call x.a (if 0<x.d then wrap64 (s.win+min x.d 1000) else-1)).2
def qet(s:Ce)(k:Nat)(x:St):Ce:=q1c (q0n s k x 8) 2 k
def q3c(s:Ce)(k:Nat)(x:St)(size:Int):List UInt8×Bool×Ce :=
 if x.c<1\/size<x.c then([],false,q0n s k x 2)
 else((Me.loadR s.segs s.bs x.b x.c).1,(Me.loadR s.segs s.bs x.b x.c).2,if(Me.loadR s.segs s.bs x.b x.c).2=true then s else qet s k x)
def qg9(s:Ce)(x:St)(size:Int):Bool:=(Me.fdF s.segs s.bs x.b size true).isSome
def qr4(s:Ce)(k:Nat)(x:St)(size:Int):Ce:=if qg9 s x size=true then s else qet s k x
def qn3(s:Ce)(k:Nat)(x:St)(b:List UInt8)(code:Int):Ce :=
 if code=0 then q0i (q3t s x.b b) k x.call 0 b.length
 else if x.call=10 then q0n s k x code
 else q7i s k x []
def q3d(s:Ce)(k:Nat)(x:St):Ce :=
 let q:=decide (x.call=11\/x.call=12)
 let inn:=decide (x.call=10\/x.call=12)
 let size:=q1m s.pts x.a
 if qa8 s.pts x.a q inn=false then q0n s k x 3
 else if inn=true then
  if qg9 s x size=false then qet s k x
  else qn3 {s with pts:=(q44 s.pts x.a q).2.2} k x (q44 s.pts x.a q).1 (q44 s.pts x.a q).2.1
 else
  let r:=q3c s k x size
  if r.2.1=false then r.2.2
  else if q=false then q0n {r.2.2 with pts:=(q10 r.2.2.pts x.a false r.1).2} k x (q10 r.2.2.pts x.a false r.1).1
  else if(q10 r.2.2.pts x.a true r.1).1=0 then q0n {r.2.2 with pts:=(q10 r.2.2.pts x.a true r.1).2} k x 0
  else q7i r.2.2 k x r.1
def q8q(s:Ce)(k:Nat)(x:St)(code:Int):Ce:=if code=1 then q7i s k x [] else q0n s k x code
def q0y(s:Ce)(k:Nat)(x:St):Ce :=
 if x.call=13 then q8q {s with obs:=(q2z s.obs x.a).2} k x (q2z s.obs x.a).1
 else if x.call=14 then
  if 0<=q0e s 13 x.a then let s1:=q0n s k x 0;q09 s1 (q0e s 13 x.a).toNat 13 0 0
  else q0n {s with obs:=(q30 s.obs x.a).2} k x (q30 s.obs x.a).1
 else if x.call=15 then
  let s1:=q0n {s with obs:=(q29 s.obs x.a true).2} k x (q29 s.obs x.a true).1
  q3u (q1q 17 x.a) (s1.tab.length+1) s1
 else if x.call=16 then q0n {s with obs:=(q29 s.obs x.a false).2} k x (q29 s.obs x.a false).1
 else q8q s k x (if(qdy s.obs x.a).2=0/\(qdy s.obs x.a).1=false then 1 else(qdy s.obs x.a).2)
def q5e(k n most:Int):Bool:=decide (0<=k)&&decide (k<min n most)
def q5v(s:Ce)(p:Int):Ce :=
 if q0e s 18 p<0 then s
 else
  let r:=q45 s.obs p (z6 za s.tk (q0e s 18 p).toNat).data
  if r.1≠0 then{s with obs:=r.2} else q09 {s with obs:=r.2} (q0e s 18 p).toNat 18 0 0
def q8z(s:Ce)(k:Nat)(x:St):Ce :=
 let size:=q0t s.obs x.a (-1)
 if q5e x.a s.cf.pools.l.length 4=false then q0n s k x 3
 else if x.call=19 then
  if qg9 s x size=false then qet s k x
  else
   let r:=q3b s.obs x.a
   let s1:=qn3 {s with obs:=r.2.2} k x r.1 r.2.1
   if r.2.1=0 then q5v s1 x.a else s1
 else
  let r:=q3c s k x size
  if r.2.1=false then r.2.2
  else if 0<=q0e r.2.2 19 x.a then q15 (q0n r.2.2 k x 0) (q0e r.2.2 19 x.a).toNat 19 r.1
  else
   let p:=q45 r.2.2.obs x.a r.1
   if p.1=0 then q0n {r.2.2 with obs:=p.2} k x 0 else q7i {r.2.2 with obs:=p.2} k x r.1
def q2h(s:Ce)(k:Nat)(x:St):Ce :=
 if q5e x.a s.cf.slates.l.length 4=false then q0n s k x 3
 else
  let size:=q0t s.obs 0 x.a
  if x.call=22 then q0n {s with obs:=(q3s s.obs x.a).2} k x (q3s s.obs x.a).1
  else if x.call=21 then
   if qg9 s x size=false then qet s k x else qn3 s k x (q35 s.obs x.a).1 (q35 s.obs x.a).2
  else
   let r:=q3c s k x size
   if r.2.1=false then r.2.2
   else
    let s1:=q0n {r.2.2 with obs:=(q2a r.2.2.obs x.a r.1).2} k x (q2a r.2.2.obs x.a r.1).1
    q3u (q1r x.a r.1) (s1.tab.length+1) s1
def q59(s:Ce)(k:Nat)(x:St):Ce :=
 if x.call=25 then
  let s1:=q3t s x.a (Me.putB x.b)
  if(Me.storeR s.segs s.bs x.a (Me.putB x.b)).2=false then qet s1 k x else q0i s1 k x.call 0 0
 else if(Me.loadR s.segs s.bs x.a 4).2=false then qet s k x else q0i s k x.call 0 (Me.val4 (Me.loadR s.segs s.bs x.a 4).1)
def q5w(s:Ce)(k:Nat)(x:St):Ce :=
 if x.a=0 then qes (q0n s k x 0)
 else if x.a=1\/x.a=2 then q2s (q0n s k x 0) (x.a==1)
 else if x.a=3 then q0n s k x 6
 else q0n s k x 2
def q2o(s:Ce)(k:Nat)(x:St):Ce :=
 if 1<=x.call/\x.call<=7 then q4a s k x
 else if x.call=8 then q0i s k x.call 0 s.win
 else if 9<=x.call/\x.call<=12 then q3d s k x
 else if 13<=x.call/\x.call<=17 then q0y s k x
 else if x.call=18\/x.call=19 then q8z s k x
 else if 20<=x.call/\x.call<=22 then q2h s k x
 else if x.call=23 then q1c (q0i s k x.call 0 x.a) 3 k
 else if x.call=24\/x.call=25 then q59 s k x
 else if x.call=26 then q0i s k x.call 0 s.mode
 else if x.call=27 then q5w s k x
 else q1c (q0i s k x.call 7 0) 1 k
def q5x(s:Ce)(n:Int):Int:=min n (q58 s)
def q0q(s:Ce)(k:Nat)(m:Int):Ce :=
 let t:=z6 za s.tk k
 {s with slk:=some (q21 s.sk k m).2,tk:=s.tk.set k {t with rest:=wrap64 (t.rest-m)} }
def qb3(s:Ce)(n:Int):Ce :=
 if q5x s n<1 then s
 else
  let k:=(q06 s).toNat
  let s1:=q0q s k (q5x s n)
  let t:=z6 za s1.tk k
  q2n (if t.rest=0 then q2o (q1d s1 k (t.set (t.at_+1))) k t.step else s1)
def q90(progs:List (List St))(k:Nat):Tk:={za with prog:=if k<progs.length/\0<(z6 [] progs k).length then z6 [] progs k else[⟨1,3,0,0,0,0⟩]}
def qab(cf:Pt)(part:Int)(progs:List (List St)):Ce :=
 ⟨cf,part,3,-1,(List.range (qd1 cf.procs.l).length).map (q90 progs),qd1 cf.procs.l,0,((cf.regs.l.map λr=>(⟨r.base,r.size,r.wr⟩:Me.Sg)).take 4).map Me.z0,qgy cf.ports.l,q4r cf,none,[]⟩
def q8b(cf:Pt)(part:Int)(progs:List (List St)):Ce :=
 q1h (λs k=>q0m s k 0) (qab cf part progs) (qd1 cf.procs.l).length
structure Ls where
 now:Int
 base:Int
 done:Int
 level:Int
 left:Int
abbrev Ls.lw(x:Ls):Array Value:=#[.int .i64 x.now,.int .i64 x.base,.int .i64 x.done,.int .i64 x.level,.int .i64 x.left]
def Ls.ok(x:Ls):Prop:=i64 x.now/\i64 x.base/\i64 x.done/\i64 x.level/\i64 x.left
def qh1(p:Pw)(x:Ls):Bool:=qgm p&&decide (0<=x.level)&&decide (x.level<p.levels.l.length)&&decide (0<=x.base)&&decide (x.base<=x.now)&&decide (x.now<=1152921504606846976)&&decide (0<=x.done)&&decide (x.done<=2147483648)&&decide (0<=x.left)&&decide (x.left<=2147483648)
theorem qrb{p:Pw}{x:Ls}(hp:q1y.ok w p):cR 383 #[.agg (Ls.lw x),.agg (Pw.lw p)] w (.bool (qh1 p x)):=by have hP:=λw' hb=>q9w (q1y.keep (W':=w') hp hb);have hE:qh1 p x=qh1 p x:=rfl;(conv at hE=>rhs;unfold qh1);generalize qh1 p x=R at*;generalize qgm p=b at*;have HE:=zhd hE;clear hE;refine zi ?_;go_wp2_with(go_fit (up (W:=w) (hP _ zv) zv);rintro _ w1⟨⟨e',k,rfl,hv⟩,hb,hs,hc,hf,hl,hB⟩);all_goals(go_returns;refine⟨q5k ?_,zv⟩;rw[HE.out];first|(simp_all;done)|(simp_all;omega))
def qbt(y:Lv)(n:Int):Int:=(q0b n 1000 y.freq true).1
theorem qey{y:Lv}{n:Int}(hy:i64 y.freq)(hn:i64 n):cR 399 #[.agg (Lv.lw y),ii n] w (ii (qbt y n)):=by have hM:=λw=>q3k (w:=w) (up:=true) hn (show i64 1000 by unfold i64;omega) hy;unfold qbt;generalize q0b n 1000 y.freq true=R at*;refine zi ?_;go_wp2_with(go_fit (up (W:=w) (hM _) zv);rintro _ w1⟨rfl,hb,hs,hc,hf,hl,hB⟩);go_returns;exact⟨rfl,zv⟩
def q7l(p:Pw)(x:Ls)(j:Nat):Int:=if(j:Int)=x.level then max x.now (wrap64 (x.base+qbt (z6 zw p.levels.l j) (wrap64 (x.done+x.left)))) else wrap64 (wrap64 (x.now+p.sw)+qbt (z6 zw p.levels.l j) x.left)
theorem qrc(n:Int):i64 (wrap64 n):=by unfold i64 wrap64;omega
theorem qia{p:Pw}{x:Ls}(hp:q1y.ok w p)(hx:x.ok){j:Nat}(ht:j<p.levels.l.length):cR 384 #[.agg #[ii x.now,ii x.base,ii x.done,ii x.level,ii x.left],.agg #[.slice p.levels.A p.levels.l.length p.levels.c,.slice p.naps.A p.naps.l.length p.naps.c,ii p.sw,ii p.idle,ii p.change,ii p.quant,ii p.slow,ii p.ppm],ii j] w (ii (q7l p x j)):=by have k1:=(Blk.new w 431 #[ii x.now,ii x.base,ii x.done,ii x.level,ii x.left]).alloc (.cells #[.slice p.levels.A p.levels.l.length p.levels.c,.slice p.naps.A p.naps.l.length p.naps.c,ii p.sw,ii p.idle,ii p.change,ii p.quant,ii p.slow,ii p.ppm] 28);have k2:=Blk.new (w.alloc (.cells #[ii x.now,ii x.base,ii x.done,ii x.level,ii x.left] 431)) 28 #[.slice p.levels.A p.levels.l.length p.levels.c,.slice p.naps.A p.naps.l.length p.naps.c,ii p.sw,ii p.idle,ii p.change,ii p.quant,ii p.slow,ii p.ppm];have h1:=(zA w (.cells #[ii x.now,ii x.base,ii x.done,ii x.level,ii x.left] 431)).alloc zp (.cells #[.slice p.levels.A p.levels.l.length p.levels.c,.slice p.naps.A p.naps.l.length p.naps.c,ii p.sw,ii p.idle,ii p.change,ii p.quant,ii p.slow,ii p.ppm] 28);rw[Z9]at k2;have hE:q7l p x j=q7l p x j:=rfl;(conv at hE=>rhs;unfold q7l);generalize q7l p x j=R at*;have hw1:wrap64 (j:Int)=j:=by{have:=hp.1.1.len;unfold wrap64;omega};obtain⟨sb,so,hA,h3,h2⟩:=(qb9.keep hp.1 h1).1.at_ zw ht;have hy:=zhd (hp.1.2 _ (q0h (d:=zw) ht)).1;rw[show qxk.sz=2 from rfl]at h2;have s0:=h2 0 _ rfl;have s1:=h2 1 _ rfl;generalize z6 zw p.levels.l j=y at*;rw[Qa]at s0;clear h2;by_cases q:(j:Int)=x.level;{rw[Z1 q]at hE;have hT:=λw=>qey (w:=w) (n:=wrap64 (x.done+x.left)) hy.out (qrc _);generalize qbt y (wrap64 (x.done+x.left))=T at*;have HE:=zhd hE;have q':((j:Int)==x.level)=true:=ZM.2 q;clear hE q;rw[hA]at k1 k2 h1 s0 s1 h3⊢;refine zi ?_;go_wp2_with fail;generalize(w.alloc (.cells #[ii x.now,ii x.base,ii x.done,ii x.level,ii x.left] 431)).alloc (.cells _ 28)=W at*;have l1:=k1.lt;have l2:=k2.lt;replace k1:=k1.cell;replace k2:=k2.cell;refine zW [(14,0)] λU V=>?_;go_wp2_with fail;go_fit (hT _);rintro _ w2⟨rfl,h0⟩;replace h0:=(Zu W.heap.size W).drew.trans h0;refine zGZ (fO h0 _) ?_;clear V U;go_wp2;go_returns;exact⟨q0w HE.out.symm,bt h1 h0⟩};{rw[Z0 q]at hE;have hT:=λw=>qey (w:=w) (n:=x.left) hy.out hx.2.2.2.2;generalize qbt y x.left=T at*;have HE:=zhd hE;have q':((j:Int)==x.level)=false:=Zl.2 q;clear hE q;rw[hA]at k1 k2 h1 s0 s1 h3⊢;refine zi ?_;go_wp2_with fail;generalize(w.alloc (.cells #[ii x.now,ii x.base,ii x.done,ii x.level,ii x.left] 431)).alloc (.cells _ 28)=W at*;have l1:=k1.lt;have l2:=k2.lt;replace k1:=k1.cell;replace k2:=k2.cell;refine zW [(12,0)] λU V=>?_;go_wp2_with fail;go_fit (hT _);rintro _ w2⟨rfl,h0⟩;replace h0:=(Zu W.heap.size W).drew.trans h0;refine zGZ (fO h0 _) ?_;clear V U;go_wp2;go_returns;exact⟨q0w HE.out.symm,bt h1 h0⟩}
def q4s(p:Pw)(x:Ls)(j:Nat):Int:=if(j:Int)=x.level then wrap64 ((z6 zw p.levels.l j).power*wrap64 (q7l p x j-x.now)) else wrap64 (wrap64 ((z6 zw p.levels.l j).power*wrap64 (wrap64 (q7l p x j-x.now)-p.sw))+wrap64 (p.change*p.sw))
theorem qn8{p:Pw}{x:Ls}(hp:q1y.ok w p)(hx:x.ok){j:Nat}(ht:j<p.levels.l.length):cR 338 #[.agg #[ii x.now,ii x.base,ii x.done,ii x.level,ii x.left],.agg #[.slice p.levels.A p.levels.l.length p.levels.c,.slice p.naps.A p.naps.l.length p.naps.c,ii p.sw,ii p.idle,ii p.change,ii p.quant,ii p.slow,ii p.ppm],ii j] w (ii (q4s p x j)):=by have k1:=(Blk.new w 431 #[ii x.now,ii x.base,ii x.done,ii x.level,ii x.left]).alloc (.cells #[.slice p.levels.A p.levels.l.length p.levels.c,.slice p.naps.A p.naps.l.length p.naps.c,ii p.sw,ii p.idle,ii p.change,ii p.quant,ii p.slow,ii p.ppm] 28);have k2:=Blk.new (w.alloc (.cells #[ii x.now,ii x.base,ii x.done,ii x.level,ii x.left] 431)) 28 #[.slice p.levels.A p.levels.l.length p.levels.c,.slice p.naps.A p.naps.l.length p.naps.c,ii p.sw,ii p.idle,ii p.change,ii p.quant,ii p.slow,ii p.ppm];have h1:=(zA w (.cells #[ii x.now,ii x.base,ii x.done,ii x.level,ii x.left] 431)).alloc zp (.cells #[.slice p.levels.A p.levels.l.length p.levels.c,.slice p.naps.A p.naps.l.length p.naps.c,ii p.sw,ii p.idle,ii p.change,ii p.quant,ii p.slow,ii p.ppm] 28);rw[Z9]at k2;have hE:q4s p x j=q4s p x j:=rfl;(conv at hE=>rhs;unfold q4s);generalize q4s p x j=R at*;have hw1:wrap64 (j:Int)=j:=by{have:=hp.1.1.len;unfold wrap64;omega};have hT:=λw' hb=>qia (w:=w') (q1y.keep hp hb) hx ht;generalize q7l p x j=T at*;obtain⟨sb,so,hA,h2,h3⟩:=(qb9.keep hp.1 h1).1.at_ zw ht;rw[show qxk.sz=2 from rfl]at h3;have s1:=h3 1 _ rfl;generalize z6 zw p.levels.l j=y at*;clear h3;rw[hA]at k1 k2 h1 s1 h2 hT⊢;have HE:=zhd hE;clear hE;refine zi ?_;go_wp2_with fail;generalize(w.alloc (.cells #[ii x.now,ii x.base,ii x.done,ii x.level,ii x.left] 431)).alloc (.cells _ 28)=W at*;have l1:=k1.lt;have l2:=k2.lt;have h4:=k1.cell;have h5:=k2.cell;refine zW [(3,0)] λU V=>?_;go_wp2_with fail;go_fit (hT _ (h1.drew));rintro _ w2⟨rfl,h0⟩;replace h0:=(Zu W.heap.size W).drew.trans h0;refine zG (fO h0 _) ?_;clear V U;replace h4:=(k1.keep h0).cell;replace h5:=(k2.keep h0).cell;replace s1:=(h0.cell (p:=⟨sb,_,none⟩) h2).trans s1;have hB:=bt h1 h0;replace h2:sb<w2.heap.size:=Zg h2 h0.size;replace l1:w.heap.size<w2.heap.size:=Zg l1 h0.size;replace l2:w.heap.size+1<w2.heap.size:=Zg l2 h0.size;have HB:=zhd hB;clear k1 k2 h0 h1 hT hB;by_cases q:(j:Int)=x.level;{have HR:=zhd (HE.out.trans (Z1 q));have q':((j:Int)==x.level)=true:=ZM.2 q;clear HE q;refine wpQuiet_nil ?_;go_wp2;go_returns;exact⟨q0w HR.out.symm,HB.out⟩};{have HR:=zhd (HE.out.trans (Z0 q));have q':((j:Int)==x.level)=false:=Zl.2 q;clear HE q;refine wpQuiet_nil ?_;go_wp2_with fail;go_quiet (fail);go_wp2;go_returns;exact⟨q0w HR.out.symm,q19 HB.out nq⟩}
def qtz(x:Sd)(i:Nat):Bool:=zy (z7 x.down.l i) 0 1000000&&zy (z7 x.up.l i) (wrap64 (z7 x.down.l i+1)) 1000000&&(decide (i=0)||(decide (z7 x.down.l i<z7 x.down.l (i-1))&&decide (z7 x.up.l i<z7 x.up.l (i-1))))
def qu0(x:Sd):Bool:=decide (x.down.l.length=x.up.l.length)&&decide (x.down.l.length<=4)&&qee (qtz x) x.down.l.length
theorem qnm{x:Sd}(hx:qjb.ok w x):cP 111 #[.agg (Sd.lw x)] w λe w'=>(∃z k:Int,e=.returned (.tuple #[ii z,ii k])/\decide (z=0)=qu0 x)/\bW w w':=by
 have hE:qu0 x=qu0 x:=rfl;(conv at hE=>rhs;unfold qu0);have HE:=zhd hE;clear hE;generalize qu0 x=R at*;have b0:bW w (w.alloc (.cells (Sd.lw x) 31)):=zv;have kp:=Blk.new w 31 (Sd.lw x);have n1:=hx.1.len;have n2:=hx.2.len;obtain⟨wo,rfl⟩:=aU w;refine zi ?_;go_upto_region 1 with fail;generalize wo.alloc (.cells (Sd.lw x) 31)=w1 at*;obtain⟨gp,h9⟩:=aU wo.heap.size;rw[<- h9]at kp⊢;clear h9;have c0:w1.cell? ⟨gp,0,none⟩=some (.slice x.down.A x.down.l.length x.down.c):=kp.cell 0;have c1:w1.cell? ⟨gp,1,none⟩=some (.slice x.up.A x.up.l.length x.up.c):=kp.cell 1;have lp:=kp.lt;have HKP:=zhd kp;have HB:=zhd b0;have HX:=zhd hx;clear kp b0 hx;by_cases q1:x.down.l.length=x.up.l.length
 .by_cases q2:x.down.l.length<=4
  .have d2:decide (4<x.down.l.length)=false:=Z3 zo;have h5:Hid (R=qee (qtz x) x.down.l.length):=HE.out.trans (by rw[Z5 q1,Z5 q2];rfl);clear HE;have HQ:=zhd q1;rw[<- q1]at c1;have n2:x.down.l.length<=4:=q2;clear q1 q2;go_upto_region 4 with fail;go_loopw[24] (λi wr=>∃k:Nat,i=.int .i64 k/\k<=x.down.l.length/\Hid (∀j,j<k->qtz x j=true)/\wr=w1) (λi _=>x.down.l.length-(intOf i).toNat);case atStart=>exact⟨0,rfl,Za _,λj hj=>absurd hj (Zn j),rfl⟩
   case round=>
    obtain⟨k,rfl,hkn,h6,rfl⟩:=hrel;by_cases hk:k<x.down.l.length
    .have h2:=qjb.keep HX.out HB.out;obtain⟨db,df,h0,hdb,ha⟩:=h2.1.at_ (k:=k) hk;obtain⟨ub,uf,h1,hub,hb⟩:=h2.2.at_ (k:=k) (by rw[<- HQ.out];exact hk);have hw1:wrap64 ((k:Int)+1)=((k+1:Nat):Int):=by unfold wrap64;omega
     have HK:=zhd hk;have HN:=zhd (λ(h:qtz x k=true)=>(λj hj=>by
      by_cases e:j=k
      .rw[e];exact h
      .exact h6.out j zo:∀j,j<k+1->qtz x j=true))
     have HS:Hid (∀b,qtz x k=b->b=(zy (z7 x.down.l k) 0 1000000&&zy (z7 x.up.l k) (wrap64 (z7 x.down.l k+1)) 1000000&&(decide (k=0)||(decide (z7 x.down.l k<z7 x.down.l (k-1))&&decide (z7 x.up.l k<z7 x.up.l (k-1)))))):=λb h=>by{rw[<- h];rfl};have HF:Hid (qtz x k=false->R=false):=λh=>h5.out.trans (qmd HK.out h);generalize hs:qtz x k=s at*;have h7:=zhd (HS.out s rfl);clear hs HS h5 h6 h2;cases k with|zero=>{rw[Qa]at ha hb;rw[h0,h1];rw[h0]at c0;rw[h1]at c1;have HPA:=zhd h0;clear h0 h1;generalize z7 x.down.l 0=d at*;generalize z7 x.up.l 0=u at*;go_wp2_with(go_fit q1b;rintro _ _⟨rfl,rfl⟩);all_goals first|exact⟨⟨1,rfl,HK.out,HN.out (by rw[h7.out];simp[*]),trivial⟩,by have:=HK.out;simp[intOf];omega⟩|(go_returns;exact⟨⟨28,_,rfl,by rw[HF.out (by rw[h7.out];simp[*])];rfl⟩,HB.out⟩)}|succ m=>{have h2:=qjb.keep HX.out HB.out;obtain⟨db2,df2,h3,_,hdc2⟩:=h2.1.at_ (k:=m) zo;obtain⟨ub2,uf2,h4,_,huc2⟩:=h2.2.at_ (k:=m) (by rw[<- HQ.out];omega);rw[h0]at h3;cases h3;rw[h1]at h4;cases h4;have h8:Hid (s=(zy (z7 x.down.l (m+1)) 0 1000000&&zy (z7 x.up.l (m+1)) (wrap64 (z7 x.down.l (m+1)+1)) 1000000&&(decide (z7 x.down.l (m+1)<z7 x.down.l m)&&decide (z7 x.up.l (m+1)<z7 x.up.l m)))):=by{have:=h7.out;rw[show decide (m+1=0)=false by simp,Bool.false_or]at this;exact this};have hwm:wrap64 (((m+1:Nat):Int)-1)=(m:Int):=aW;have hm1:m<x.down.l.length:=zo;have b0:decide ((0:Int)<((m+1:Nat):Int))=true:=Z5 zo;rw[h0,h1];rw[h0]at c0;rw[h1]at c1;clear h0 h1 h2 h7;generalize z7 x.down.l (m+1)=d at*;generalize z7 x.up.l (m+1)=u at*;generalize z7 x.down.l m=d1 at*;generalize z7 x.up.l m=u1 at*;go_wp2_with(go_fit q1b;rintro _ _⟨rfl,rfl⟩);all_goals first|exact⟨⟨m+1+1,rfl,HK.out,HN.out (by rw[h8.out];simp[*]),trivial⟩,by have:=HK.out;simp[intOf];omega⟩|(go_returns;refine⟨?_,HB.out⟩;have HR:=HF.out (by rw[h8.out];first|(simp[*];done)|(simp[*];omega));first|exact⟨28,_,rfl,by rw[HR];rfl⟩|exact⟨28,⟨_,rfl⟩,by rw[HR];rfl⟩)}
    {have HR:Hid (R=true):=h5.out.trans (q7d.2 λj hj=>h6.out j zo);obtain rfl:k=x.down.l.length:=zo;clear h6 h5;go_wp2;go_returns;refine⟨?_,HB.out⟩;first|exact⟨0,0,rfl,by rw[HR.out];rfl⟩|exact⟨0,⟨0,rfl⟩,by rw[HR.out];rfl⟩|exact⟨⟨0,rfl⟩,by rw[HR.out]⟩}
  {have HR:Hid (R=false):=HE.out.trans (by rw[Z3 q2];simp);rw[<- q1]at c1;clear HE;go_wp2_with fail;all_goals first|(exfalso;omega)|(go_returns;refine⟨?_,HB.out⟩;first|exact⟨28,0,rfl,by rw[HR.out];rfl⟩|exact⟨28,⟨0,rfl⟩,by rw[HR.out];rfl⟩)}
 {have HR:Hid (R=false):=HE.out.trans (by rw[Z3 q1];simp);clear HE;go_wp2_with fail;all_goals first|(exfalso;omega)|(go_returns;refine⟨?_,HB.out⟩;first|exact⟨28,0,rfl,by rw[HR.out];rfl⟩|exact⟨28,⟨0,rfl⟩,by rw[HR.out];rfl⟩)}
structure Rx where
 A:Option Addr
 c:Nat
 qs:List Nat
def qbj(w:World)(o:Gh)(l:Lb)(t:TypeId)(x:Rx)(n:Nat):Prop:=q4q w o l t 1 x.A n x.c (qeq x.qs)/\x.qs.length=n
theorem qbj.go{L:Lb->Prop}{o o':Gh}{l:Lb}{t:TypeId}{x:Rx}(h:qbj w o l t x n)(m:Mv L o w o' w')(hl:¬L l):qbj w' o' l t x n:=⟨h.1.go m hl,h.2⟩
theorem qbj.at_{o:Gh}{l:Lb}{t:TypeId}{x:Rx}{i:Nat}(H:qbj w o l t x n)(hi:i<n):∃a,x.A=some ⟨a,0,none⟩/\a<w.heap.size/\w.cell? ⟨a,i,none⟩=some (pp (zg x.qs i)):=by obtain⟨a,ha⟩:=H.1.1.head zo;obtain⟨b',f,e,hb,hc⟩:=H.1.1.sl.at_ zo;rw[ha]at e;cases e;refine⟨a,ha,hb,?_⟩;have:=hc i (pp (zg x.qs i)) (by have hq:i<x.qs.length:=by{have:=H.2;omega};simp[qeq,zg,Zo hq]);simpa using this
structure Ox where
 s:Rx
 f:Rx
 p:Rx
 l:Rx
def xT(w:World)(o:Gh)(l:Lb)(q:Nat)(y:Pq):Prop:=∃A cap,∃hs:List (Hd UInt8),q1t w o l q 413 #[ii y.c.size,ii y.c.depth,.slice A y.l.length cap]/\q4q w o l 38 1 A y.l.length cap (hs.map Hd.v)/\hs.map Hd.l=y.l/\(∀h∈hs,j9 w o h)/\y.l.length<=1000/\y.c.depth<=1000/\∀b∈y.l,b.length<=1000
def xV(w:World)(o:Gh)(l:Lb)(q:Nat)(y:Sa):Prop:=∃h:Hd UInt8,q1t w o l q 418 #[ii y.size,h.v,.bool y.sh]/\h.l=y.b/\j9 w o h/\y.b.length<=1000
structure ObR(w:World)(o:Gh)(pt p:Nat)(cf:Pt)(x:Ox)(y:Ob):Prop where
 k:q1t w o (.obs pt) p 337 #[cf.regs.v,cf.procs.v,cf.ports.v,cf.sems.v,ii cf.flags,cf.pools.v,cf.slates.v,ii cf.cap,ii cf.bud,ii cf.lad,cf.acts.v,.slice x.s.A y.sems.length x.s.c,.slice x.f.A y.flags.length x.f.c,.slice x.p.A y.pools.length x.p.c,.slice x.l.A y.slates.length x.l.c]
 rs:qbj w o (.obs pt) 406 x.s y.sems.length
 rf:qbj w o (.obs pt) 409 x.f y.flags.length
 rp:qbj w o (.obs pt) 414 x.p y.pools.length
 rl:qbj w o (.obs pt) 419 x.l y.slates.length
 s:∀i,i<y.sems.length->q1t w o (.obj pt 0 i) (zg x.s.qs i) 405 #[ii (z6 qn y.sems i).c.first,ii (z6 qn y.sems i).c.most,ii (z6 qn y.sems i).n]
 f:∀i,i<y.flags.length->q1t w o (.obj pt 1 i) (zg x.f.qs i) 4 #[.bool (z6 false y.flags i)]
 p:∀i,i<y.pools.length->xT w o (.obj pt 2 i) (zg x.p.qs i) (z6 qi y.pools i)
 l:∀i,i<y.slates.length->xV w o (.obj pt 3 i) (zg x.l.qs i) (z6 qp y.slates i)
def zJ(pt:Nat):Lb->Prop:=λy=>y=.obs pt\/∃i k,y=.obj pt i k
section
variable{L:Lb->Prop}{o o':Gh}{w w':World}
theorem xT.go{l:Lb}{y:Pq}(h:xT w o l q y)(m:Mv L o w o' w')(hl:¬L l)(hd:¬L .data):xT w' o' l q y:=by obtain⟨A,cap,hs,h1,h2,h3,h4,h5⟩:=h;exact⟨A,cap,hs,h1.go m hl,h2.go m hl,h3,λz hz=>(h4 z hz).go m hd,h5⟩
theorem xV.go{l:Lb}{y:Sa}(h:xV w o l q y)(m:Mv L o w o' w')(hl:¬L l)(hd:¬L .data):xV w' o' l q y:=by obtain⟨A,h1,h2,h3,h4⟩:=h;exact⟨A,h1.go m hl,h2,h3.go m hd,h4⟩
theorem ObR.go{p:Nat}{cf:Pt}{x:Ox}{y:Ob}(h:ObR w o pt p cf x y)(m:Mv L o w o' w')(h1:¬L (.obs pt))(h2:∀i k,¬L (.obj pt i k))(hd:¬L .data):ObR w' o' pt p cf x y :=
 ⟨h.k.go m h1,h.rs.go m h1,h.rf.go m h1,h.rp.go m h1,h.rl.go m h1,λi hi=>(h.s i hi).go m (h2 _ _),λi hi=>(h.f i hi).go m (h2 _ _),λi hi=>(h.p i hi).go m (h2 _ _) hd,λi hi=>(h.l i hi).go m (h2 _ _) hd⟩
theorem ObR.setS{p k:Nat}{cf:Pt}{x:Ox}{y:Ob}{z:Se}(h:ObR w o pt p cf x y)(hk:k<y.sems.length)(m:Mv (λl=>l=.obj pt 0 k) o w o' w')(hz:q1t w' o' (.obj pt 0 k) (zg x.s.qs k) 405 #[ii z.c.first,ii z.c.most,ii z.n]):ObR w' o' pt p cf x {y with sems:=y.sems.set k z}:=by refine⟨?_,?_,h.rf.go m zp,h.rp.go m zp,h.rl.go m zp,λi hi=>?_,λi hi=>(h.f i hi).go m zp,λi hi=>(h.p i hi).go m zp zp,λi hi=>(h.l i hi).go m zp zp⟩;{have:=h.k.go m zp;simpa using this};{have:=h.rs.go m zp;simpa using this};{simp only[Zd]at hi⊢;rw[Me.atD_set _ _ _ _ _ hk];by_cases q:i=k;{subst q;rw[Z1 rfl];exact hz};{rw[Z0 q];exact(h.s i hi).go m (by simpa using q)}}
theorem ObR.setF{p k:Nat}{cf:Pt}{x:Ox}{y:Ob}{z:Bool}(h:ObR w o pt p cf x y)(hk:k<y.flags.length)(m:Mv (λl=>l=.obj pt 1 k) o w o' w')(hz:q1t w' o' (.obj pt 1 k) (zg x.f.qs k) 4 #[.bool z]):ObR w' o' pt p cf x {y with flags:=y.flags.set k z}:=by refine⟨?_,h.rs.go m zp,?_,h.rp.go m zp,h.rl.go m zp,λi hi=>(h.s i hi).go m zp,λi hi=>?_,λi hi=>(h.p i hi).go m zp zp,λi hi=>(h.l i hi).go m zp zp⟩;{have:=h.k.go m zp;simpa using this};{have:=h.rf.go m zp;simpa using this};{simp only[Zd]at hi⊢;rw[Me.atD_set _ _ _ _ _ hk];by_cases q:i=k;{subst q;rw[Z1 rfl];exact hz};{rw[Z0 q];exact(h.f i hi).go m (by simpa using q)}}
theorem ObR.setP{p k:Nat}{cf:Pt}{x:Ox}{y:Ob}{z:Pq}(h:ObR w o pt p cf x y)(hk:k<y.pools.length)(m:Mv (λl=>l=.obj pt 2 k) o w o' w')(hz:xT w' o' (.obj pt 2 k) (zg x.p.qs k) z):ObR w' o' pt p cf x {y with pools:=y.pools.set k z}:=by refine⟨?_,h.rs.go m zp,h.rf.go m zp,?_,h.rl.go m zp,λi hi=>(h.s i hi).go m zp,λi hi=>(h.f i hi).go m zp,λi hi=>?_,λi hi=>(h.l i hi).go m zp zp⟩;{have:=h.k.go m zp;simpa using this};{have:=h.rp.go m zp;simpa using this};{simp only[Zd]at hi⊢;rw[Me.atD_set _ _ _ _ _ hk];by_cases q:i=k;{subst q;rw[Z1 rfl];exact hz};{rw[Z0 q];exact(h.p i hi).go m (by simpa using q) zp}}
theorem ObR.setL{p k:Nat}{cf:Pt}{x:Ox}{y:Ob}{z:Sa}(h:ObR w o pt p cf x y)(hk:k<y.slates.length)(m:Mv (λl=>l=.obj pt 3 k) o w o' w')(hz:xV w' o' (.obj pt 3 k) (zg x.l.qs k) z):ObR w' o' pt p cf x {y with slates:=y.slates.set k z}:=by refine⟨?_,h.rs.go m zp,h.rf.go m zp,h.rp.go m zp,?_,λi hi=>(h.s i hi).go m zp,λi hi=>(h.f i hi).go m zp,λi hi=>(h.p i hi).go m zp zp,λi hi=>?_⟩;{have:=h.k.go m zp;simpa using this};{have:=h.rl.go m zp;simpa using this};{simp only[Zd]at hi⊢;rw[Me.atD_set _ _ _ _ _ hk];by_cases q:i=k;{subst q;rw[Z1 rfl];exact hz};{rw[Z0 q];exact(h.l i hi).go m (by simpa using q) zp}}
end
theorem qar{t ty e:TypeId}{i:TypeInfo}(ht:Tryz.prog.underlying t=some (.slice e))(hi:Tryz.prog.info? e=some i)(A:Option Addr){n c:Nat}(d:Nat)(hc:n<=c):(Builtin.append_ #[t,t] ty #[.slice A n c,.slice none 0 d]).run Tryz.prog w=.ok (.slice A n c) w:=by cases A <;> simp[Builtin.append_,Qi ht,sizeOf,typeInfo,hi,Builtin.lenOf,Builtin.firstCells,hc,storeCells]
theorem zj.cap_{e:TypeId}{sz:Nat}{xs:List Value}(h:zj w e sz A n c xs):n<=c:=h.sl.2.1
theorem qas{ty e:TypeId}{sz bytes:Nat}(E:ElemOf ty e sz bytes){o:Oper}{a:Act}{K:Act->World->Prop}{Q:Exit->Act->World->Prop}(w:World)(s x:Operand)
 (ho:o.op=.call {callee := .builtin .append,args:=#[s,x],argTypes:=#[ty,ty]})
 {A:Option Addr}{n c:Nat}{xs:List Value}(hs:a.eval s=.slice A n c)(hown:zj w e sz A n c xs){B:Option Addr}{m d:Nat}{ys:List Value}
 (hx:a.eval x=.slice B m d)(hy:Sl w B m d sz ys)(h1:∀u∈ys,u.oneCell'=true)(hn:n+m<=100000000000)
 (h:∀A' c' w',zj w' e sz A' (n+m) c' (xs++ys)->Fr (q02 A) w w'->(∀k,q02 A' k->q02 A k\/w.heap.size<=k)->K (a.put o.dst (.slice A' (n+m) c')) w') :
  o.wp Tryz.prog a w K Q:=by
 obtain⟨y1,y2,y3,y4,y5⟩:=hy;obtain⟨i,z,e1,e2,e3,e4,e5⟩:=E.i;unfold Oper.wp execOp;simp only[ho,resolve,invoke,builtin,Xm,Sem.run_pure,QK,List.map_toArray,List.map_cons,List.map_nil,hs,hx];cases B with
 |none=>
  obtain rfl:m=0:=by have:=y4 rfl;omega
  obtain rfl:ys = []:=QT.1 zo;rw[qar E.u e1 A d hown.cap_];exact h A c w (by simpa using hown) (Fr.refl _ w) λk hk=>.inl hk
 |some ad=>
  obtain⟨v',w',hr,a1,a2,_,a3⟩:=run_append_own_at (P:=Tryz.prog) w 0 ty o.type e i z sz bytes E.u e1 e2 e3 e4 e5 E.p (.slice A n c) n xs hown ad m d ys y1 (λj u hu=>by
   by_cases hm:0<m
   .obtain⟨b,f,e6,_,h7⟩:=y5 hm;cases e6;rw[q11];exact h7 j u hu
   .obtain rfl:m=0:=zo;obtain rfl:ys = []:=QT.1 zo;simp at hu) h1 (by unfold maxLen;omega) (by
     have:=E.b;have h2:=QD hn this;omega) (Za _)
  rw[hr];obtain⟨A',c',rfl,a4,_⟩:=zj.of a1;refine h A' c' w' a4 ⟨a2.os,a2.tape,a2.output,a2.size,λk hk hn=>a2.block k hk λq=>hn (hown.blk q.symm)⟩ λk hk=>?_;cases hk;rcases a3 with a3|a3
  .exact .inl (hown.blk a3.symm)
  .cases a3;exact .inr nL
theorem qwc{ty e:TypeId}{sz bytes:Nat}(E:ElemOf ty e sz bytes){ops:Array Oper}{rest:List Oper}{o:Oper}{a:Act}{Q:Exit->Act->World->Prop}(w:World)(hgd:o.guard=none)(s x:Operand)
 (ho:o.op=.call {callee := .builtin .append,args:=#[s,x],argTypes:=#[ty,ty]})
 {A:Option Addr}{n c:Nat}{xs:List Value}(hs:a.eval s=.slice A n c)(hown:zj w e sz A n c xs){B:Option Addr}{m d:Nat}{ys:List Value}
 (hx:a.eval x=.slice B m d)(hy:Sl w B m d sz ys)(h1:∀u∈ys,u.oneCell'=true)(hn:n+m<=100000000000)
 (h:∀A' c' w',zj w' e sz A' (n+m) c' (xs++ys)->Fr (q02 A) w w'->(∀k,q02 A' k->q02 A k\/w.heap.size<=k)->wpList Tryz.prog ops Q rest (a.put o.dst (.slice A' (n+m) c')) w') :
  wpList Tryz.prog ops Q (o::rest) a w :=
 wpList_plain hgd λ_K hK=>qas E w s x ho hs hown hx hy h1 hn λA' c' w' b1 b2 b3=>hK _ _ (h A' c' w' b1 b2 b3)
theorem zj.of_blk{g:Nat}{e:TypeId}(k:Blk w g e cs)(hn:cs.size=n)(h:n<=maxLen):zj w e 1 (some ⟨g,0,none⟩) n n cs.toList :=
 ⟨by simp[hn],.inr ⟨g,n,cs,rfl,Za _,k,nL,h,by simp[hn],by rw[Qo,<- hn];exact Zs zp⟩⟩
end Go.Proofs.YtncfcbohiodnnaaGreat
