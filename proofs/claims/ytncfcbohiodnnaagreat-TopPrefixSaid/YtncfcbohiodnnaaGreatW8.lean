/- Parts of this seat's claims. -/
import Derived.Test.YtncfcbohiodnnaaGreatW7
import Derived.Deep.CutBlock
import Derived.Handy
import Derived.IntWalk
import Derived.Shelf.Bits.Mul64
import Derived.Shelf.Spec.BitsCarry
set_option maxRecDepth 100000
set_option maxHeartbeats 6400000
namespace Go.Proofs.YtncfcbohiodnnaaGreat
open Go.RowKit
variable{w w' W wa wo W':World} {c n pt r B j b m mb q base cap id B0:Nat} {A:Option Addr} {a code what:Int} {cs:Array Value}
theorem z19{g p:Nat} {x:Rg} (hx:x.ok wa):qj7 wa g [(p,128,#[pp g])] 300 76 #[.agg (Rg.lw x),pp p] 3:=by
 intro W m bs hb hm S;have hp:=hb _ (List.mem_singleton.2 rfl);have S1:=S.box (Rg.lw x) 125;refine inC ?_;go_in;go_upto_region 1 with fail;generalize W.alloc (.cells (Rg.lw x) 125)=W1 at S1 ⊢;generalize W.heap.size=bx at S1 ⊢;obtain⟨kp,lp⟩:=(S1.blk (.tail _ hp)).cl;obtain⟨kx,lx⟩:=(S1.blk (.head _)).cl;have lg:=S1.lt;have hI:=(S1.box #[ii x.base,ii x.size] 3).ints zo [x.base,x.size] (.head _) rfl zp (λz hz=>by
  simp only[List.mem_cons,List.mem_nil_iff,or_false]at hz;obtain⟨h0,h1,h2⟩:=hx;rcases hz with rfl | rfl <;> assumption)
 go_wp2_with (first | (go_at_call 39;refine hI.mono ?_;rintro _ W2 ⟨rfl,S⟩;have S:Stt wa W2 g (m + 2) _:=S.pop;obtain⟨kp,lp⟩:=(S.blk (.tail _ hp)).cl;obtain⟨kx,lx⟩:=(S.blk (.head _)).cl;have lg:=S.lt) | (refine zD 5 λK' hK'=>?_;go_wp2_with fail;go_at_call 77;refine((S.drew).bool zo x.wr).mono ?_;rintro _ W3 ⟨rfl,S⟩;refine zE ?_;clear hK' K'));go_end0;exact⟨rfl,S.pop⟩
theorem z1a{g p:Nat} {x:Pc} (hx:x.ok wa):qj7 wa g [(p,128,#[pp g])] 300 79 #[.agg (Pc.lw x),pp p] 3:=by
 intro W m bs hb hm S;have hp:=hb _ (List.mem_singleton.2 rfl);have S1:=S.box (Pc.lw x) 89;refine inC ?_;go_in;go_upto_region 1 with fail;generalize W.alloc (.cells (Pc.lw x) 89)=W1 at S1 ⊢;generalize W.heap.size=bx at S1 ⊢;obtain⟨kp,lp⟩:=(S1.blk (.tail _ hp)).cl;obtain⟨kx,lx⟩:=(S1.blk (.head _)).cl;have lg:=S1.lt;have hI:=(S1.box (Pc.lw x) 3).ints zo [x.prio,x.per,x.cost] (.head _) rfl zp (λz hz=>by
  simp only[List.mem_cons,List.mem_nil_iff,or_false]at hz;obtain⟨h0,h1,h2⟩:=hx;rcases hz with rfl | rfl | rfl <;> assumption)
 go_wp2_with (go_at_call 39;refine hI.mono ?_;rintro _ W2 ⟨rfl,S⟩);go_end0;exact⟨rfl,S.pop.pop⟩
theorem z1b{g p:Nat} {x:Wn} (hx:x.ok wa):qj7 wa g [(p,128,#[pp g])] 300 92 #[.agg (Wn.lw x),pp p] 3:=by
 intro W m bs hb hm S;have hp:=hb _ (List.mem_singleton.2 rfl);have S1:=S.box (Wn.lw x) 96;refine inC ?_;go_in;go_upto_region 1 with fail;generalize W.alloc (.cells (Wn.lw x) 96)=W1 at S1 ⊢;generalize W.heap.size=bx at S1 ⊢;obtain⟨kp,lp⟩:=(S1.blk (.tail _ hp)).cl;obtain⟨kx,lx⟩:=(S1.blk (.head _)).cl;have lg:=S1.lt;have hI:=(S1.box (Wn.lw x) 3).ints zo [x.part,x.start,x.len] (.head _) rfl zp (λz hz=>by
  simp only[List.mem_cons,List.mem_nil_iff,or_false]at hz;obtain⟨h0,h1,h2⟩:=hx;rcases hz with rfl | rfl | rfl <;> assumption)
 go_wp2_with (go_at_call 39;refine hI.mono ?_;rintro _ W2 ⟨rfl,S⟩);go_end0;exact⟨rfl,S.pop.pop⟩
theorem z1c{g p:Nat} {x:Lv} (hx:x.ok wa):qj7 wa g [(p,128,#[pp g])] 300 94 #[.agg (Lv.lw x),pp p] 2:=by
 intro W m bs hb hm S;have hp:=hb _ (List.mem_singleton.2 rfl);have S1:=S.box (Lv.lw x) 127;refine inC ?_;go_in;go_upto_region 1 with fail;generalize W.alloc (.cells (Lv.lw x) 127)=W1 at S1 ⊢;generalize W.heap.size=bx at S1 ⊢;obtain⟨kp,lp⟩:=(S1.blk (.tail _ hp)).cl;obtain⟨kx,lx⟩:=(S1.blk (.head _)).cl;have lg:=S1.lt;have hI:=(S1.box (Lv.lw x) 3).ints zo [x.freq,x.power] (.head _) rfl zp (λz hz=>by
  simp only[List.mem_cons,List.mem_nil_iff,or_false]at hz;obtain⟨h0,h1⟩:=hx;rcases hz with rfl | rfl <;> assumption)
 go_wp2_with (go_at_call 39;refine hI.mono ?_;rintro _ W2 ⟨rfl,S⟩);go_end0;exact⟨rfl,S.pop.pop⟩
theorem z1d{g:Nat} {x:Int} (hx:i64 x):qj7 wa g [] 300 84 #[pp g,ii x] 1:=λ_ _ _ _ hm S=>S.int zo hx
theorem qzz{g:Nat} {bs:List (Nat×TypeId×Array Value)} {h:Hd Int} (hh:h.okI wa) (hn:h.l.length<=5) (hm:m<=290) (S:Stt wa W g m bs):cP 43 #[pp g,h.hq] W (qla wa g (m + 1 + 1 * h.l.length) bs):=by
 have hL:=z18 hh zo zo (λx hx=>z1d (hh.2.2 x hx)) (λq hq=>nomatch hq) zo S;have lg:=S.lt;refine inC ?_;go_in;go_wp2_with (go_at_call 97;refine hL.mono ?_;rintro _ W2 ⟨rfl,S2⟩);go_end0;exact⟨rfl,S2⟩
theorem z1e{g:Nat} {x:Md} (hx:x.ok wa) (h1:x.wins.l.length=1):qj7 wa g [] 200 41 #[pp g,.agg (Md.lw x)] 5:=by
 intro W m bs _ hm S;have S:=(S.box #[pp g] 128).box (Md.lw x) 94;rw[World.size_alloc]at S
 have hn:=zhd h1;have hi:i64 x.frame:=hx.1;have hw:=hx.2;clear h1;refine inC ?_;go_in;go_upto_region 1 with fail;generalize (W.alloc (.cells #[pp g] 128)).alloc (.cells (Md.lw x) 94)=W1 at S ⊢;generalize W.heap.size + 1=bx at S ⊢;generalize W.heap.size=pb at S ⊢;obtain⟨kp,lp⟩:=(S.blk (.tail _ (.head _))).cl;obtain⟨kx,lx⟩:=(S.blk (.head _)).cl;have lg:=S.lt;go_wp2_with (first
  | ((refine zD 5 λK' hK'=>?_;go_wp2_with fail;go_at_call 84;refine((S.drew).int zo hi).mono ?_;rintro _ W2 ⟨rfl,S⟩;refine zE ?_;clear hK' K');obtain⟨kp,lp⟩:=(S.blk (.tail _ (.head _))).cl;obtain⟨kx,lx⟩:=(S.blk (.head _)).cl;have lg:=S.lt)
  | (go_at_call 91;refine(z12.h hw (by rw[hn.out];omega) (by rw[hn.out];omega) (λy hy=>z1b (hw.2 y hy)) (λq hq=>by rw[List.mem_singleton.1 hq];exact .tail _ (.head _)) zo S).mono ?_;rintro _ W2 ⟨rfl,S⟩;obtain⟨kp,lp⟩:=(S.blk (.tail _ (.head _))).cl;obtain⟨kx,lx⟩:=(S.blk (.head _)).cl;have lg:=S.lt))
 go_end0;exact⟨rfl,by have:=S.pop.pop;rw[hn.out]at this;exact this⟩
theorem z1f{g:Nat} {x:Pt} (hx:x.ok wa) (h1:x.regs.l.length=1) (h2:x.procs.l.length=1) (h3:x.ports.l.length=0) (h4:x.sems.l.length=0) (h5:x.pools.l.length=0) (h6:x.slates.l.length=0) (h7:x.acts.l.length=5):qj7 wa g [] 200 36 #[pp g,.agg (Pt.lw x)] 22:=by
 intro W m bs _ hm0 S;have S:=(S.box #[pp g] 128).box (Pt.lw x) 51;rw[World.size_alloc]at S
 obtain⟨x1,x2,x3,x4,x5,x6,x7,x8,x9,h8,h0⟩:=hx;have x5:i64 x.flags:=x5;have x7:x.slates.okI wa:=x7;have h0:x.acts.okI wa:=h0;have x8:i64 x.cap:=x8;have x9:i64 x.bud:=x9;have h8:i64 x.lad:=h8;have H1:=zhd h1;have H2:=zhd h2;have H3:=zhd h3;have H4:=zhd h4;have H5:=zhd h5;have H6:=zhd h6;have H7:=zhd h7;have HM:=zhd hm0;clear h1 h2 h3 h4 h5 h6 h7 hm0;refine inC ?_;go_in;go_upto_region 1 with fail;generalize (W.alloc (.cells #[pp g] 128)).alloc (.cells (Pt.lw x) 51)=W1 at S ⊢;generalize W.heap.size + 1=bx at S ⊢;generalize W.heap.size=pb at S ⊢;obtain⟨kp,lp⟩:=(S.blk (.tail _ (.head _))).cl;obtain⟨kx,lx⟩:=(S.blk (.head _)).cl;have lg:=S.lt;go_wp2_with (first
  | (go_at_call 75;refine(z0w.h x1 (by have:=H1.out;have:=HM.out;omega) (by have:=H1.out;have:=HM.out;omega) (λy hy=>z19 (x1.2 y hy)) (λq hq=>by rw[List.mem_singleton.1 hq];exact .tail _ (.head _)) (by have:=H1.out;have:=HM.out;omega) S).mono ?_;rintro _ W2 ⟨rfl,S⟩;have S:=S.eq (show _=m + 4 by have:=H1.out;omega);obtain⟨kp,lp⟩:=(S.blk (.tail _ (.head _))).cl;obtain⟨kx,lx⟩:=(S.blk (.head _)).cl;have lg:=S.lt)
  | (go_at_call 78;refine(z0x.h x2 (by have:=H2.out;have:=HM.out;omega) (by have:=H2.out;have:=HM.out;omega) (λy hy=>z1a (x2.2 y hy)) (λq hq=>by rw[List.mem_singleton.1 hq];exact .tail _ (.head _)) (by have:=H2.out;have:=HM.out;omega) S).mono ?_;rintro _ W2 ⟨rfl,S⟩;have S:=S.eq (show _=m + 8 by have:=H2.out;omega);obtain⟨kp,lp⟩:=(S.blk (.tail _ (.head _))).cl;obtain⟨kx,lx⟩:=(S.blk (.head _)).cl;have lg:=S.lt)
  | (go_at_call 80;refine(LsQ.nil z0y H3.out x3 (by have:=HM.out;omega) S).mono ?_;rintro _ W2 ⟨rfl,S⟩;have S:=S.eq (show _=m + 9 by first | rfl | omega);obtain⟨kp,lp⟩:=(S.blk (.tail _ (.head _))).cl;obtain⟨kx,lx⟩:=(S.blk (.head _)).cl;have lg:=S.lt)
  | (go_at_call 82;refine(LsQ.nil z0z H4.out x4 (by have:=HM.out;omega) S).mono ?_;rintro _ W2 ⟨rfl,S⟩;have S:=S.eq (show _=m + 10 by first | rfl | omega);obtain⟨kp,lp⟩:=(S.blk (.tail _ (.head _))).cl;obtain⟨kx,lx⟩:=(S.blk (.head _)).cl;have lg:=S.lt)
  | ((refine zD 5 λK' hK'=>?_;go_wp2_with fail;go_at_call 84;refine((S.drew).int (by have:=HM.out;omega) x5).mono ?_;rintro _ W2 ⟨rfl,S⟩;refine zE ?_;clear hK' K');have S:Stt wa W2 g (m + 11) _:=S;obtain⟨kp,lp⟩:=(S.blk (.tail _ (.head _))).cl;obtain⟨kx,lx⟩:=(S.blk (.head _)).cl;have lg:=S.lt)
  | (go_at_call 85;refine(LsQ.nil z10 H5.out x6 (by have:=HM.out;omega) S).mono ?_;rintro _ W2 ⟨rfl,S⟩;have S:=S.eq (show _=m + 12 by first | rfl | omega);obtain⟨kp,lp⟩:=(S.blk (.tail _ (.head _))).cl;obtain⟨kx,lx⟩:=(S.blk (.head _)).cl;have lg:=S.lt)
  | (go_at_call 43;(with_reducible refine Calls.mono (qzz (h:=x.slates) x7 (by have:=H6.out;have:=HM.out;omega) (by have:=H6.out;have:=HM.out;omega) S) ?_);rintro _ W2 ⟨rfl,S⟩;have S:=S.eq (show _=m + 13 by have:=H6.out;omega);obtain⟨kp,lp⟩:=(S.blk (.tail _ (.head _))).cl;obtain⟨kx,lx⟩:=(S.blk (.head _)).cl;have lg:=S.lt)
  | (go_at_call 39;refine((S.box #[ii x.cap,ii x.bud,ii x.lad] 3).ints (by have:=HM.out;omega) [x.cap,x.bud,x.lad] (.head _) rfl zp (λz hz=>by simp only[List.mem_cons,List.mem_nil_iff,or_false]at hz;rcases hz with rfl | rfl | rfl <;> assumption)).mono ?_;rintro _ W2 ⟨rfl,S⟩;have S:Stt wa W2 g (m + 16) _:=S.pop;obtain⟨kp,lp⟩:=(S.blk (.tail _ (.head _))).cl;obtain⟨kx,lx⟩:=(S.blk (.head _)).cl;have lg:=S.lt)
  | (go_at_call 43;(with_reducible refine Calls.mono (qzz (h:=x.acts) h0 (by have:=H7.out;have:=HM.out;omega) (by have:=H7.out;have:=HM.out;omega) S) ?_);rintro _ W2 ⟨rfl,S⟩;have S:=S.eq (show _=m + 22 by have:=H7.out;omega);obtain⟨kp,lp⟩:=(S.blk (.tail _ (.head _))).cl;obtain⟨kx,lx⟩:=(S.blk (.head _)).cl;have lg:=S.lt))
 go_end0;exact⟨rfl,S.pop.pop⟩
theorem z1g{g:Nat} {x:Pw} (hx:x.ok wa) (h1:x.levels.l.length=2) (h2:x.naps.l.length=0):qj7 wa g [] 200 42 #[pp g,.agg (Pw.lw x)] 12:=by
 intro W m bs _ hm0 S;have S:=(S.box #[pp g] 128).box (Pw.lw x) 28;rw[World.size_alloc]at S
 obtain⟨x1,x2,x3,x4,x5,x6,x7,x8⟩:=hx;have x3:i64 x.sw:=x3;have x4:i64 x.idle:=x4;have x5:i64 x.change:=x5;have x6:i64 x.quant:=x6;have x7:i64 x.slow:=x7;have x8:i64 x.ppm:=x8;have H1:=zhd h1;have H2:=zhd h2;have HM:=zhd hm0;clear h1 h2 hm0;refine inC ?_;go_in;go_upto_region 1 with fail;generalize (W.alloc (.cells #[pp g] 128)).alloc (.cells (Pw.lw x) 28)=W1 at S ⊢;generalize W.heap.size + 1=bx at S ⊢;generalize W.heap.size=pb at S ⊢;obtain⟨kp,lp⟩:=(S.blk (.tail _ (.head _))).cl;obtain⟨kx,lx⟩:=(S.blk (.head _)).cl;have lg:=S.lt;go_wp2_with (first
  | (go_at_call 93;refine(z13.h x1 (by have:=H1.out;have:=HM.out;omega) (by have:=H1.out;have:=HM.out;omega) (λy hy=>z1c (x1.2 y hy)) (λq hq=>by rw[List.mem_singleton.1 hq];exact .tail _ (.head _)) (by have:=H1.out;have:=HM.out;omega) S).mono ?_;rintro _ W2 ⟨rfl,S⟩;have S:=S.eq (show _=m + 5 by have:=H1.out;omega);obtain⟨kp,lp⟩:=(S.blk (.tail _ (.head _))).cl;obtain⟨kx,lx⟩:=(S.blk (.head _)).cl;have lg:=S.lt)
  | (go_at_call 95;refine(LsQ.nil z14 H2.out x2 (by have:=HM.out;omega) S).mono ?_;rintro _ W2 ⟨rfl,S⟩;have S:=S.eq (show _=m + 6 by first | rfl | omega);obtain⟨kp,lp⟩:=(S.blk (.tail _ (.head _))).cl;obtain⟨kx,lx⟩:=(S.blk (.head _)).cl;have lg:=S.lt)
  | (go_at_call 39;refine((S.box #[ii x.sw,ii x.idle,ii x.change,ii x.quant,ii x.slow,ii x.ppm] 3).ints (by have:=HM.out;omega) [x.sw,x.idle,x.change,x.quant,x.slow,x.ppm] (.head _) rfl zp (λz hz=>by simp only[List.mem_cons,List.mem_nil_iff,or_false]at hz;rcases hz with rfl | rfl | rfl | rfl | rfl | rfl <;> assumption)).mono ?_;rintro _ W2 ⟨rfl,S⟩;have S:Stt wa W2 g (m + 12) _:=S.pop;obtain⟨kp,lp⟩:=(S.blk (.tail _ (.head _))).cl;obtain⟨kx,lx⟩:=(S.blk (.head _)).cl;have lg:=S.lt))
 go_end0;exact⟨rfl,S.pop.pop⟩
structure PlL(x:Cf):Prop where
 a:x.parts.l.length=1
 p:∀ y ∈ x.parts.l,y.regs.l.length=1/\y.procs.l.length=1/\y.ports.l.length=0/\y.sems.l.length=0/\y.pools.l.length=0/\y.slates.l.length=0/\y.acts.l.length=5
 c:x.chans.l.length=0
 m:x.modes.l.length=1
 w:∀ y ∈ x.modes.l,y.wins.l.length=1
 v:x.pw.levels.l.length=2
 n:x.pw.naps.l.length=0
 d:x.shed.down.l.length=0
 u:x.shed.up.l.length=0
theorem z2l{x:Cf} (hx:x.ok W) (H:PlL x):cP 23 #[.agg (Cf.lw x)] W λe W'=>∃ A n c l,30 < n/\e = .returned (.tuple #[.slice A n c,ii 0])/\SlB W' A n c l/\bW W W':=by
 obtain⟨wa,h0⟩:∃ wa:World,wa=W:=⟨_,rfl⟩
 obtain⟨m,hm⟩:∃ m:Nat,m=0:=⟨_,rfl⟩
 have S:Stt wa (((W.alloc (.cells (Cf.lw x) 33)).alloc (.cells #[.slice none 0 0,.bool false] 134)).alloc (.cells #[pp (W.heap.size + 1)] 128)) (W.heap.size + 1) m [(W.heap.size,33,(Cf.lw x)),(W.heap.size + 1 + 1,128,#[pp (W.heap.size + 1)])]:=by
  have h6:=zA W (.cells (Cf.lw x) 33);have h7:=(h6.alloc zp (.cells #[.slice none 0 0,.bool false] 134)).alloc (by simp;omega) (.cells #[pp (W.heap.size + 1)] 128);have ha:=((Blk.new W 33 (Cf.lw x)).alloc (.cells #[.slice none 0 0,.bool false] 134)).alloc (.cells #[pp (W.heap.size + 1)] 128);have h5:=(Blk.new (W.alloc (.cells (Cf.lw x) 33)) 134 #[.slice none 0 0,.bool false]).alloc (.cells #[pp (W.heap.size + 1)] 128);have h4:=Blk.new ((W.alloc (.cells (Cf.lw x) 33)).alloc (.cells #[.slice none 0 0,.bool false] 134)) 128 #[pp (W.heap.size + 1)];simp only[World.size_alloc]at h5 h4;rw[h0,hm];refine⟨⟨λb=>b=W.heap.size + 1,[],⟨⟨_,h5,World.ownsRow_nil _ _ _ _,λb h=>by cases h⟩,rfl,λb h=>by omega,λb h=>by simp;omega⟩,nL,nL,λq hq=>?_⟩,h7⟩;simp only[List.mem_cons,List.mem_nil_iff,or_false]at hq;rcases hq with rfl | rfl
  .exact⟨ha,zp⟩
  .exact⟨h4,zp⟩
 obtain⟨x1,x2,x3,x4,x5⟩:=hx;rw[<- h0]at x1 x2 x3 x4 x5
 have y1:x.shed.down.okI wa:=x5.1;have y2:x.shed.up.okI wa:=x5.2;have HW:=zhd h0;have HM:=zhd hm;have HP:=zhd H;clear h0 hm H;refine inC ?_;go_in;go_upto_region 2 with fail;generalize ((W.alloc (.cells (Cf.lw x) 33)).alloc (.cells #[.slice none 0 0,.bool false] 134)).alloc (.cells #[pp (W.heap.size + 1)] 128)=W1 at S ⊢;generalize W.heap.size + 1 + 1=pb at S ⊢;generalize W.heap.size + 1=g at S ⊢;obtain⟨bx,h3⟩:∃ bx,bx=W.heap.size:=⟨_,rfl⟩
 rw[<- h3]at S ⊢
 have HB:=zhd h3;clear h3;obtain⟨kp,lp⟩:=(S.blk (.tail _ (.head _))).cl;obtain⟨kx,lx⟩:=(S.blk (.head _)).cl;have lg:=S.lt;go_upto_region 9 with (first
  | (go_at_call 35;refine(z16.h x1 (by have:=HP.out.a;have:=HM.out;omega) (by have:=HP.out.a;have:=HM.out;omega) (λy hy=>let ⟨a,b,c,d,e,f,h⟩:=HP.out.p y hy;z1f (x1.2 y hy) a b c d e f h) (λq hq=>nomatch hq) (by have:=HP.out.a;have:=HM.out;omega) S).mono ?_;rintro _ W2 ⟨rfl,S⟩;have S:=S.eq (show _=m + 23 by have:=HP.out.a;omega);obtain⟨kp,lp⟩:=(S.blk (.tail _ (.head _))).cl;obtain⟨kx,lx⟩:=(S.blk (.head _)).cl;have lg:=S.lt)
  | (go_at_call 37;refine(LsQ.nil z11 HP.out.c x2 (by have:=HP.out.c;have:=HM.out;omega) S).mono ?_;rintro _ W2 ⟨rfl,S⟩;have S:=S.eq (show _=m + 24 by have:=HP.out.c;omega);obtain⟨kp,lp⟩:=(S.blk (.tail _ (.head _))).cl;obtain⟨kx,lx⟩:=(S.blk (.head _)).cl;have lg:=S.lt)
  | (go_at_call 40;refine(z15.h x3 (by have:=HP.out.m;have:=HM.out;omega) (by have:=HP.out.m;have:=HM.out;omega) (λy hy=>z1e (x3.2 y hy) (HP.out.w y hy)) (λq hq=>nomatch hq) (by have:=HP.out.m;have:=HM.out;omega) S).mono ?_;rintro _ W2 ⟨rfl,S⟩;have S:=S.eq (show _=m + 30 by have:=HP.out.m;omega);obtain⟨kp,lp⟩:=(S.blk (.tail _ (.head _))).cl;obtain⟨kx,lx⟩:=(S.blk (.head _)).cl;have lg:=S.lt)
  | (go_at_call 42;refine(z1g x4 HP.out.v HP.out.n _ _ _ (λq hq=>nomatch hq) (by have:=HP.out.v;have:=HM.out;omega) S).mono ?_;rintro _ W2 ⟨rfl,S⟩;have S:=S.eq (show _=m + 42 by have:=HP.out.v;omega);obtain⟨kp,lp⟩:=(S.blk (.tail _ (.head _))).cl;obtain⟨kx,lx⟩:=(S.blk (.head _)).cl;have lg:=S.lt)
  | (go_at_call 43;(with_reducible refine Calls.mono (qzz (h:=x.shed.down) y1 (by have:=HP.out.d;have:=HM.out;omega) (by have:=HP.out.d;have:=HM.out;omega) S) ?_);rintro _ W2 ⟨rfl,S⟩;have S:=S.eq (show _=m + 43 by have:=HP.out.d;omega);obtain⟨kp,lp⟩:=(S.blk (.tail _ (.head _))).cl;obtain⟨kx,lx⟩:=(S.blk (.head _)).cl;have lg:=S.lt)
  | (go_at_call 43;(with_reducible refine Calls.mono (qzz (h:=x.shed.up) y2 (by have:=HP.out.u;have:=HM.out;omega) (by have:=HP.out.u;have:=HM.out;omega) S) ?_);rintro _ W2 ⟨rfl,S⟩;have S:=S.eq (show _=m + 44 by have:=HP.out.u;omega);obtain⟨kp,lp⟩:=(S.blk (.tail _ (.head _))).cl;obtain⟨kx,lx⟩:=(S.blk (.head _)).cl;have lg:=S.lt)
  | (go_at_call 44;refine(S.bytes (by have:=HM.out;omega)).mono ?_;rintro _ W2 ⟨A,n,c,l,h8,h9,rfl,hl,hb⟩;have S:=S.keep hb;obtain⟨kp,lp⟩:=(S.blk (.tail _ (.head _))).cl;obtain⟨kx,lx⟩:=(S.blk (.head _)).cl;have lg:=S.lt))
 have c1:=S.lg.1;have hm:=HM.out;have h1:30 < n:=zo;have h2:n<=65536:=zo;have t1:decide (65536 < (n:Int))=false:=by simp;omega
 have HN:=zhd h1;have HL:=zhd hl;clear h8 h9 hm h1 hl;go_wp2_with fail;go_returns;refine⟨A,n,c,l,HN.out,rfl,HL.out,?_⟩;rw[<- HW.out];exact S.b
theorem qls{x y:Nat} (hx:x < 18446744073709551616) (hy:y < 18446744073709551616):cP 369 #[.int .u64 x,.int .u64 y] w λe w'=>e = .returned (.tuple #[.int .u64 ((x * y / 18446744073709551616:Nat):Int),.int .u64 ((x * y % 18446744073709551616:Nat):Int)])/\w=w':=by
 obtain⟨bd,bt,bw,h4⟩:=Lib.mul64_hi x y hx hy;have ba:=Lib.half_mul_le (a:=x / 4294967296) (b:=y / 4294967296) zo zo;have bb:=Lib.half_mul_le (a:=x / 4294967296) (b:=y % 4294967296) zo zo;have bc:=Lib.half_mul_le (a:=x % 4294967296) (b:=y / 4294967296) zo zo;have h0:x / 4294967296 * (y / 4294967296) < 18446744073709551616:=zo;have h1:x / 4294967296 * (y % 4294967296) < 18446744073709551616:=zo;have h2:x % 4294967296 * (y / 4294967296) < 18446744073709551616:=zo;have h3:x / 4294967296 * (y / 4294967296) + (x / 4294967296 * (y % 4294967296) + x % 4294967296 * (y % 4294967296) / 4294967296) / 4294967296 < 18446744073709551616:=zo;have bh:x / 4294967296 * (y / 4294967296) + (x / 4294967296 * (y % 4294967296) + x % 4294967296 * (y % 4294967296) / 4294967296) / 4294967296 + ((x / 4294967296 * (y % 4294967296) + x % 4294967296 * (y % 4294967296) / 4294967296) % 4294967296 + x % 4294967296 * (y / 4294967296)) / 4294967296 < 18446744073709551616:=zo;refine inC ?_;go_in;go_wp2;simp only[Mul64.maskN x hx,Mul64.maskN y hy,Mul64.divN,Mul64.mulN,Mul64.addN,Mul64.wrapN _ bd,Mul64.wrapN _ h1,Mul64.wrapN _ bt,Mul64.maskN _ bt,Mul64.wrapN _ h2,Mul64.wrapN _ bw,Mul64.wrapN _ h0,Mul64.wrapN _ h3,Mul64.wrapN _ bh,Mul64.wrapM (x * y)];rw[h4];go_ret2
 exact⟨rfl,rfl⟩
theorem qlt(x y:Nat) (w:World):(callFunc 370 #[.int .u64 x,.int .u64 y,.int .u64 0]).run Tryz.prog w = .ok (.value (.tuple #[.int .u64 (((x + y) % 18446744073709551616:Nat):Int),.int .u64 (((x + y) / 18446744073709551616:Nat):Int)])) w:=by
 rw[run_callFunc_extern Tryz.func370 zk zk zk (e:=add64Entry) zk,run_add64 x y 0 zo zo zo zo];simp only[Result.andThen];congr 5 <;> omega
def qx2(x n:Nat):Prop:=n<=64/\x < 2 ^ n/\(0 < x->2 ^ n<=2 * x)
theorem qx2.up{x k t:Nat} (m:Nat) (h:qx2 k t) (hk:k=x / 2 ^ m) (h0:0 < k) (h64:t + m<=64):qx2 x (t + m):=by
 obtain⟨_,h2,h3⟩:=h;refine⟨h64,?_,λ_=>?_⟩
 .rw[Nat.pow_add];exact(Nat.div_lt_iff_lt_mul (Nat.two_pow_pos m)).1 (hk ▸ h2)
 .have h4:k * 2 ^ m<=x:=by rw[hk];exact Nat.div_mul_le_self x _
  have h5:=Nat.mul_le_mul_right (2 ^ m) (h3 h0);rw[Nat.pow_add];exact Nat.le_trans h5 (by rw[Nat.mul_assoc];omega)
theorem qul{T:ByteArray} (h:∀ k < 256,(T.data.getD k 0).toNat<=8/\k < 2 ^ (T.data.getD k 0).toNat/\(0 < k->2 ^ (T.data.getD k 0).toNat<=2 * k)) (hs:T.size=256) (k:Nat) (hk:k < 256):∃ n:Nat,n<=8/\qx2 k n/\∀ w,(Instr.index 9 (.string T) (.int .u8 k)).run Tryz.prog w = .ok (.int .u8 (n:Int)) w:=by
 refine⟨_,(h k hk).1,⟨by have:=(h k hk).1;omega,(h k hk).2⟩,λw=>?_⟩;rw[run_index_string _ _ _ _ _ zk,dif_pos ⟨zo,zo⟩];have h2:T[k]'(by omega)=T.data.getD k 0:=by
  rw[Array.getD_eq_getD_getElem?,Array.getElem?_eq_getElem (show k < T.data.size by rw[show T.data.size=256 from hs];exact hk)];rfl
 simp only[Int.toNat_natCast];rw[h2]
theorem z0b(x c:Nat) (d:Int) (h:0 < c) (hd:d=c):∃ y:Nat,(c<=x->(x:Int) / d=y/\y=x / c/\0 < y)/\(x < c->y=x):=by
 by_cases q:c<=x
 .exact⟨x / c,λ_=>⟨by rw[hd];simp,rfl,Nat.div_pos q h⟩,λh=>by omega⟩
 .exact⟨x,λh=>by omega,λ_=>rfl⟩
theorem qlu{x:Nat} (hx:x < 18446744073709551616):cP 404 #[.int .u64 x] w λe w'=>∃ n:Nat,e = .returned (ii n)/\qx2 x n/\w=w':=by
 refine inC ?_;go_in;generalize hT:ByteArray.mk _=T;obtain⟨y1,a1,b1⟩:=z0b x 4294967296 4294967296 zd rfl;obtain⟨y2,a2,b2⟩:=z0b y1 65536 65536 zd rfl;obtain⟨y3,a3,b3⟩:=z0b y2 256 256 zd rfl;have hy:y3 < 256:=zo;obtain⟨n,hn,hL,hI⟩:=qul (T:=T) (by rw[<- hT];decide) (by rw[<- hT];rfl) y3 hy;have hw:IntKind.u8.wrap (y3:Int)=y3:=IntWalk.u8_in _ zo;clear hT;by_cases q1:4294967296<=x <;> by_cases q2:65536<=y1 <;> by_cases q3:256<=y2
 .obtain⟨a1,e1,z1⟩:=a1 q1;obtain⟨a2,e2,z2⟩:=a2 q2;obtain⟨a3,e3,z3⟩:=a3 q3;have HL:=zhd (((hL.up 8 e3 z3 zo).up 16 e2 z2 zo).up 32 e1 z1 zo);have t1:decide ((4294967296:Int)<=x)=true:=by simp;omega
  have t2:decide ((65536:Int)<=y1)=true:=by simp;omega
  have t3:decide ((256:Int)<=y2)=true:=by simp;omega
  clear hL q1 q2 q3 hx hy e1 z1 b1 e2 z2 b2 e3 z3 b3;go_wp2;go_ret;exact⟨_,congrArg _ (by first | rfl | (congr 1;simp;omega)),HL.out,rfl⟩
 .obtain⟨a1,e1,z1⟩:=a1 q1;obtain⟨a2,e2,z2⟩:=a2 q2;have r3:=(b3 zo).symm;subst r3;have HL:=zhd ((hL.up 16 e2 z2 zo).up 32 e1 z1 zo);have t1:decide ((4294967296:Int)<=x)=true:=by simp;omega
  have t2:decide ((65536:Int)<=y1)=true:=by simp;omega
  have t3:decide ((256:Int)<=y2)=false:=by simp;omega
  clear hL q1 q2 q3 hx hy e1 z1 b1 e2 z2 b2 a3 b3;go_wp2;go_ret;exact⟨_,congrArg _ (by first | rfl | (congr 1;simp;omega)),HL.out,rfl⟩
 .obtain⟨a1,e1,z1⟩:=a1 q1;have r2:=(b2 zo).symm;subst r2;obtain⟨a3,e3,z3⟩:=a3 q3;have HL:=zhd ((hL.up 8 e3 z3 zo).up 32 e1 z1 zo);have t1:decide ((4294967296:Int)<=x)=true:=by simp;omega
  have t2:decide ((65536:Int)<=y1)=false:=by simp;omega
  have t3:decide ((256:Int)<=y1)=true:=by simp;omega
  clear hL q1 q2 q3 hx hy e1 z1 b1 a2 b2 e3 z3 b3;go_wp2;go_ret;exact⟨_,congrArg _ (by first | rfl | (congr 1;simp;omega)),HL.out,rfl⟩
 .obtain⟨a1,e1,z1⟩:=a1 q1;have r2:=(b2 zo).symm;subst r2;have r3:=(b3 zo).symm;subst r3;have HL:=zhd (hL.up 32 e1 z1 zo);have t1:decide ((4294967296:Int)<=x)=true:=by simp;omega
  have t2:decide ((65536:Int)<=y1)=false:=by simp;omega
  have t3:decide ((256:Int)<=y1)=false:=by simp;omega
  clear hL q1 q2 q3 hx hy e1 z1 b1 a2 b2 a3 b3;go_wp2;go_ret;exact⟨_,congrArg _ (by first | rfl | (congr 1;simp;omega)),HL.out,rfl⟩
 .have r1:=(b1 zo).symm;subst r1;obtain⟨a2,e2,z2⟩:=a2 q2;obtain⟨a3,e3,z3⟩:=a3 q3;have HL:=zhd ((hL.up 8 e3 z3 zo).up 16 e2 z2 zo);have t1:decide ((4294967296:Int)<=x)=false:=by simp;omega
  have t2:decide ((65536:Int)<=x)=true:=by simp;omega
  have t3:decide ((256:Int)<=y2)=true:=by simp;omega
  clear hL q1 q2 q3 hx hy a1 b1 e2 z2 b2 e3 z3 b3;go_wp2;go_ret;exact⟨_,congrArg _ (by first | rfl | (congr 1;simp;omega)),HL.out,rfl⟩
 .have r1:=(b1 zo).symm;subst r1;obtain⟨a2,e2,z2⟩:=a2 q2;have r3:=(b3 zo).symm;subst r3;have HL:=zhd (hL.up 16 e2 z2 zo);have t1:decide ((4294967296:Int)<=x)=false:=by simp;omega
  have t2:decide ((65536:Int)<=x)=true:=by simp;omega
  have t3:decide ((256:Int)<=y2)=false:=by simp;omega
  clear hL q1 q2 q3 hx hy a1 b1 e2 z2 b2 a3 b3;go_wp2;go_ret;exact⟨_,congrArg _ (by first | rfl | (congr 1;simp;omega)),HL.out,rfl⟩
 .have r1:=(b1 zo).symm;subst r1;have r2:=(b2 zo).symm;subst r2;obtain⟨a3,e3,z3⟩:=a3 q3;have HL:=zhd (hL.up 8 e3 z3 zo);have t1:decide ((4294967296:Int)<=x)=false:=by simp;omega
  have t2:decide ((65536:Int)<=x)=false:=by simp;omega
  have t3:decide ((256:Int)<=x)=true:=by simp;omega
  clear hL q1 q2 q3 hx hy a1 b1 a2 b2 e3 z3 b3;go_wp2;go_ret;exact⟨_,congrArg _ (by first | rfl | (congr 1;simp;omega)),HL.out,rfl⟩
 .have r1:=(b1 zo).symm;subst r1;have r2:=(b2 zo).symm;subst r2;have r3:=(b3 zo).symm;subst r3;have HL:=zhd hL;have t1:decide ((4294967296:Int)<=x)=false:=by simp;omega
  have t2:decide ((65536:Int)<=x)=false:=by simp;omega
  have t3:decide ((256:Int)<=x)=false:=by simp;omega
  clear hL q1 q2 q3 hx hy a1 b1 a2 b2 a3 b3;go_wp2;go_ret;exact⟨_,congrArg _ (by first | rfl | (congr 1;simp;omega)),HL.out,rfl⟩
theorem qxm{h l s:Nat} (hs:s<=63) (hc:h < c) (hl:l < 18446744073709551616) :
  (h * 18446744073709551616 + l) * 2 ^ s=(h * 2 ^ s + l / 2 ^ (64 - s)) * 18446744073709551616 + l * 2 ^ s % 18446744073709551616/\h * 2 ^ s + l / 2 ^ (64 - s) < c * 2 ^ s/\l / 2 ^ (64 - s) < 2 ^ s:=by
 have e1:(2:Nat) ^ (64 - s) * 2 ^ s=18446744073709551616:=by
  rw[<- Nat.pow_add,show 64 - s + s=64 by omega]
 have e2:l * 2 ^ s / 18446744073709551616=l / 2 ^ (64 - s):=by
  rw[<- e1];exact Nat.mul_div_mul_right _ _ (Nat.two_pow_pos s)
 have e3:=Nat.div_add_mod (l * 2 ^ s) 18446744073709551616;have e4:l / 2 ^ (64 - s) < 2 ^ s:=by
  rw[Nat.div_lt_iff_lt_mul (Nat.two_pow_pos _),Nat.mul_comm,e1];exact hl
 refine⟨?_,?_,e4⟩
 .rw[<- e2,Nat.add_mul,Nat.add_mul,Nat.mul_right_comm h,Nat.mul_comm (l * 2 ^ s / _)];omega
 .have h2:(h + 1) * 2 ^ s<=c * 2 ^ s:=Nat.mul_le_mul_right _ hc;rw[Nat.add_mul]at h2
  omega
theorem qxn(h0:0 < c) (h1:n<=64) (h2:c < 2 ^ n) (h3:2 ^ n<=2 * c):64 - n<=63/\c * 2 ^ (64 - n) < 18446744073709551616/\9223372036854775808<=c * 2 ^ (64 - n):=by
 have e1:(2:Nat) ^ n * 2 ^ (64 - n)=18446744073709551616:=by rw[<- Nat.pow_add,show n + (64 - n)=64 by omega]
 have hn:1<=n:=by
  rcases Nat.eq_zero_or_pos n with rfl | h
  .simp at h2;omega
  .exact h
 have h4:2 ^ n * 2 ^ (64 - n)<=2 * c * 2 ^ (64 - n):=Nat.mul_le_mul_right _ h3;have h5:c * 2 ^ (64 - n) < 2 ^ n * 2 ^ (64 - n):=Nat.mul_lt_mul_of_pos_right h2 (Nat.two_pow_pos _);rw[e1]at h4 h5
 rw[Nat.mul_assoc]at h4
 omega
theorem qxo{h l s:Nat} (hs:s<=63) (hc:h < c) (hl:l < 18446744073709551616) {Y u d e:Nat} (hY:c * 2 ^ s=Y) (hu:h * 2 ^ s + l / 2 ^ (64 - s)=u) (hd:l * 2 ^ s % 18446744073709551616 / 4294967296=d) (he:l * 2 ^ s % 18446744073709551616 % 4294967296=e) :
  (h * 18446744073709551616 + l) / c=(u * 4294967296 + d) / Y * 4294967296 + ((u * 4294967296 + d) % Y * 4294967296 + e) / Y/\u < Y:=by
 obtain⟨e1,e2,-⟩:=qxm hs hc hl;rw[hu]at e1 e2
 rw[hY]at e2
 refine⟨?_,e2⟩;rw[<- qq8 _ _ (2 ^ s) (Nat.two_pow_pos s),e1,hY,<- qxl e2];congr 1
 omega
theorem qum{u d v Y:Nat} (h:q * Y + v=u * 4294967296 + d) (hv:v < Y) (hY:Y < 18446744073709551616):∃ a b c:Nat,IntKind.u64.wrap ((u:Int) * 4294967296)=a/\IntKind.u64.wrap ((a:Int) + d)=b/\IntKind.u64.wrap ((q:Int) * Y)=c/\IntKind.u64.wrap ((b:Int) - c)=v:=by
 refine⟨u * 4294967296 % 18446744073709551616,(u * 4294967296 % 18446744073709551616 + d) % 18446744073709551616,q * Y % 18446744073709551616,?_,?_,?_,?_⟩
 .rw[IntKind.wrap_u64];omega
 .rw[IntKind.wrap_u64];omega
 .rw[Mul64.mulN];exact Mul64.wrapM _
 .rw[IntKind.wrap_u64];generalize q * Y=P at *;omega
theorem qtq{Y y1 y0 u d:Nat} (_hyy:Hid (y1 * 4294967296 + y0=Y)) (hq:Hid (2147483648<=y1/\y1 < 4294967296)) (hu:Hid (u < Y)) (hY:Hid (Y < 18446744073709551616)) (hd:Hid (d < 4294967296)) :
  ∃ q r:Nat,(u:Int).tdiv y1=q/\IntKind.u64.wrap (q:Int)=q/\IntKind.u64.wrap ((q:Int) * y1)=(q:Int) * y1/\IntKind.u64.wrap ((u:Int) - (q:Int) * y1)=r/\Hid (q < 18446744073709551616/\r < 4294967296/\KnI 4294967296 y1 y0 u d q r):=by
 have hq:=hq.out;have hu:=hu.out;have hY:=hY.out;have h1:=Nat.mod_lt u (show y1 > 0 by omega);have h2:=Nat.div_add_mod u y1;have h3:=Nat.div_le_self u y1;have h4:=Nat.div_mul_le_self u y1;have h5:=qq7 (u:=u) (y0:=y0) (show 0 < y1 by omega) hd.out;rw[Nat.mul_comm]at h2
 refine⟨u / y1,u - u / y1 * y1,rfl,Mul64.wrapN _ zo,?_,?_,zo,zo,h5⟩
 .rw[Mul64.mulN];exact Mul64.wrapN _ zo
 .rw[Mul64.mulN,show(u:Int) - ((u / y1 * y1:Nat):Int)=((u - u / y1 * y1:Nat):Int) by omega];exact Mul64.wrapN _ zo
theorem qun{q1 q0:Nat} (h1:q1 < 4294967296) (h0:q0 < 4294967296):IntKind.u64.wrap ((q1:Int) * 4294967296)=(q1:Int) * 4294967296/\IntKind.u64.wrap ((q1:Int) * 4294967296 + q0)=(q1:Int) * 4294967296 + q0:=by
 constructor <;> (rw[IntKind.wrap_u64];omega)
theorem qjc{x:Nat} (hx:x < 18446744073709551616):cP 394 #[.int .u64 x] w λe w'=>∃ n:Nat,e = .returned (ii ((64 - n:Nat):Int))/\qx2 x n/\w=w':=by
 have hL:=qlu (w:=w) hx;refine inC ?_;go_in;go_wp2_with (go_at_call 404;refine(hL).mono ?_;rintro _ w2 ⟨n,rfl,hn,rfl⟩);have h1:=hn.1;have e1:wrap64 (64 - (n:Int))=((64 - n:Nat):Int):=by unfold wrap64;omega
 go_wp2_with fail;go_returns;refine⟨n,?_,hn,rfl⟩;rw[<- e1];rfl
theorem qlw{h l:Nat} (hc:h < c) (hc2:c < 18446744073709551616) (hl:l < 18446744073709551616):cP 371 #[.int .u64 h,.int .u64 l,.int .u64 c] w λe w'=>∃ r:Int,e = .returned (.tuple #[.int .u64 (((h * 18446744073709551616 + l) / c:Nat):Int),.int .u64 r])/\bW w w':=by
 have d1:((c:Int) == 0)=false:=by simp;omega
 have d2:decide ((c:Int)<=(h:Int))=false:=by simp;omega
 by_cases h0:h=0
 .subst h0;have hq:l / c < 18446744073709551616:=Nat.lt_of_le_of_lt (Nat.div_le_self _ _) hl;have hq2:(l:Int).tdiv c=((l / c:Nat):Int):=rfl;have hr2:(l:Int).tmod c=((l % c:Nat):Int):=rfl;refine inC ?_;go_in;go_upto_region 6 with fail;go_quiet (fail)
  go_wp2_with fail;go_returns;have e1:IntKind.u64.wrap ((l:Int) / c)=(((0 * 18446744073709551616 + l) / c:Nat):Int):=by
   rw[Nat.zero_mul,Nat.zero_add,<- Int.natCast_ediv];exact Mul64.wrapN _ hq
  exact⟨_,by rw[<- e1];rfl,q0a _ w nq⟩
 .have d3:((h:Int) == 0)=false:=by simp;omega
  have hL:=qjc (w:=w) hc2;refine inC ?_;go_in;go_upto_region 8 with (go_at_call 394;refine(hL).mono ?_;rintro _ w2 ⟨n,rfl,hn,rfl⟩)
  obtain⟨he,h8,hs⟩:=qxn (Nat.zero_lt_of_lt hc) hn.1 hn.2.1 (hn.2.2 zo);clear hn;generalize 64 - n=s at *;obtain⟨hx,hf,ht⟩:=qxm he hc hl;have HE:=zhd (qxo he hc hl rfl rfl rfl rfl);have eY:IntKind.u64.wrap ((c:Int) * 2 ^ s)=((c * 2 ^ s:Nat):Int):=by
   rw[show(c:Int) * 2 ^ s=((c * 2 ^ s:Nat):Int) by simp];exact Mul64.wrapN _ h8
  have b1:h * 2 ^ s < 18446744073709551616:=Nat.lt_of_le_of_lt (Nat.le_add_right _ _) (Nat.lt_trans hf h8);have b2:l / 2 ^ (64 - s) < 18446744073709551616:=Nat.lt_of_le_of_lt (Nat.le_add_left _ _) (Nat.lt_trans hf h8);have eU:bits .or .u64 (IntKind.u64.wrap ((h:Int) * 2 ^ s)) ((l:Int) / 2 ^ (64 - s))=((h * 2 ^ s + l / 2 ^ (64 - s):Nat):Int):=by
   rw[show(h:Int) * 2 ^ s=((h * 2 ^ s:Nat):Int) by simp,show(l:Int) / 2 ^ (64 - s)=((l / 2 ^ (64 - s):Nat):Int) by simp,Mul64.wrapN _ b1,u64_or_nat _ _ b1 b2,Nat.mul_comm h,Nat.two_pow_add_eq_or_of_lt ht]
  have eX:IntKind.u64.wrap ((l:Int) * 2 ^ s)=((l * 2 ^ s % 18446744073709551616:Nat):Int):=by
   rw[show(l:Int) * 2 ^ s=((l * 2 ^ s:Nat):Int) by simp];exact Mul64.wrapM _
  have hX:l * 2 ^ s % 18446744073709551616 < 18446744073709551616:=Nat.mod_lt _ zd;have HS:=zhd he;have HY:=zhd h8;have hj:=zhd hs;have HX:=zhd hX;clear b1 b2 hL h8 hs hx hf ht hc2 hc hl hX;generalize h * 2 ^ s + l / 2 ^ (64 - s)=u at *;generalize l * 2 ^ s % 18446744073709551616=X at *;generalize c * 2 ^ s=Y at *;have a1:bits .and .u64 (Y:Int) 4294967295=((Y % 4294967296:Nat):Int):=Mul64.maskN _ HY.out;have a2:bits .and .u64 (X:Int) 4294967295=((X % 4294967296:Nat):Int):=Mul64.maskN _ HX.out;go_upto_region 15 with fail;rw[show(Y:Int) / 4294967296=((Y / 4294967296:Nat):Int) by omega,show(Y:Int) % 4294967296=((Y % 4294967296:Nat):Int) by omega,show(X:Int) / 4294967296=((X / 4294967296:Nat):Int) by omega,show(X:Int) % 4294967296=((X % 4294967296:Nat):Int) by omega];have hh:=Nat.div_add_mod Y 4294967296;have hu:=Nat.mod_lt Y (show 4294967296 > 0 by decide);have hk:X / 4294967296 < 4294967296:=by have:=HX.out;omega
  have hm:=Nat.mod_lt X (show 4294967296 > 0 by decide);clear a1 a2 eU eX eY;generalize Y / 4294967296=y1 at *;generalize Y % 4294967296=y0 at *;generalize X / 4294967296=d at *;generalize X % 4294967296=e at *;rw[Nat.mul_comm]at hh
  clear HX;have hq:=zhd (show 2147483648<=y1/\y1 < 4294967296 from by have:=HY.out;have:=hj.out;omega);have HD:=zhd hk;have h4:=zhd hm;have H0:=zhd hu;have h1:=zhd hh;have HU:=zhd HE.out.2;have z1:((y1:Int) == 0)=false:=by have:=hq.out;simp;omega
  have z2:¬ y1=0:=by have:=hq.out;omega
  clear hk hm hu hh;obtain⟨q,r,e2,e3,e4,e5,HK⟩:=qtq h1 hq HU HY HD;go_upto_block 0 with fail
  go_cut [15,16] from 67 to 85 (λa b wx=>a = .int .u64 (((u * 4294967296 + d) / Y:Nat):Int)/\(∃ r:Nat,b = .int .u64 (r:Int))/\w=wx)
  case first =>
   go_wp2_with fail;go_loopw [15,16] (λa b wr=>∃ q r:Nat,a = .int .u64 (q:Int)/\b = .int .u64 (r:Int)/\Hid (q < 18446744073709551616/\r < 4294967296/\KnI 4294967296 y1 y0 u d q r)/\w=wr) (λa _ _=>(intOf a).toNat)
   case atStart=>exact⟨q,r,rfl,rfl,HK,rfl⟩
   case round =>
    clear HK e2 e3 e4 e5;obtain⟨q,r,rfl,rfl,HI,rfl⟩:=hrel;obtain⟨b,hb⟩:∃ b,b=decide (4294967296<=q\/4294967296 * r + d < q * y0):=⟨_,rfl⟩
    have HB:=zhd hb;go_upto_region 17 with fail;go_cut [78] (λv wx=>v = .bool b/\w=wx)
    case first =>
     by_cases hB:4294967296<=q
     .have t1:decide ((4294967296:Int)<=q)=true:=by simp;omega
      obtain rfl:b=true:=by rw[hb];exact decide_eq_true (.inl hB)
      clear hb hB;go_wp2_with fail;go_meet;exact⟨rfl,rfl⟩
     .have t1:decide ((4294967296:Int)<=q)=false:=by simp;omega
      have hr:=HI.out.2.1;have h7:q * y0 < 18446744073709551616:=Nat.lt_of_le_of_lt (Nat.mul_le_mul (show q<=4294967295 by omega) (show y0<=4294967295 by have:=H0.out;omega)) zd;have m0:IntKind.u64.wrap ((q:Int) * y0)=(q:Int) * y0:=by rw[Mul64.mulN];exact Mul64.wrapN _ h7
      have m1:IntKind.u64.wrap (4294967296 * (r:Int))=4294967296 * (r:Int):=by rw[IntKind.wrap_u64];omega
      have m2:IntKind.u64.wrap (4294967296 * (r:Int) + d)=4294967296 * (r:Int) + d:=by have:=HD.out;rw[IntKind.wrap_u64];omega
      have t2:decide (4294967296 * (r:Int) + d < (q:Int) * y0)=b:=by
       rw[hb,Mul64.mulN];exact decide_eq_decide.2 zo
      clear hb hB hr h7;go_wp2_with fail;go_meet;exact⟨rfl,rfl⟩
    clear hb;obtain⟨rfl,rfl⟩:=hcut;cases b with
    | true =>
     obtain⟨q0,K1⟩:=qlv HI.out.2.2 HD.out (by rw[h1.out];exact HU.out) (of_decide_eq_true HB.out.symm);obtain⟨q',h6⟩:∃ q',q'=q - 1:=⟨_,rfl⟩
     rw[<- h6]at K1
     have h5:=zhd K1;have s1:IntKind.u64.wrap ((q:Int) - 1)=(q':Int):=by have:=HI.out.1;rw[IntKind.wrap_u64];omega
     have s2:IntKind.u64.wrap ((r:Int) + y1)=(r:Int) + y1:=by have:=HI.out.2.1;have:=hq.out;rw[IntKind.wrap_u64];omega
     have h2:Hid (q' < q):=by show q' < q;omega
     clear q0 K1 h6 HB;by_cases hr:4294967296<=r + y1
     .have t3:decide (4294967296<=(r:Int) + y1)=true:=by simp;omega
      have HR:=zhd hr;clear hr;go_wp2_with fail;go_meet;exact⟨by rw[qto h5.out (by have:=hq.out;omega) H0.out HD.out (by rw[h1.out];exact HU.out) HR.out,h1.out],⟨r + y1,by rw[Int.natCast_add]⟩,rfl⟩
     .have t3:decide (4294967296<=(r:Int) + y1)=false:=by simp;omega
      have HR:=zhd hr;clear hr;go_wp2_with fail;exact⟨⟨q',r + y1,rfl,by rw[Int.natCast_add],⟨by have:=HI.out.1;have:=h2.out;omega,by have:=HR.out;omega,h5.out⟩,trivial⟩,by have:=h2.out;simp[intOf];omega⟩
    | false =>
     have HN:=zhd (of_decide_eq_false HB.out.symm);clear HB;go_wp2_with fail;go_meet;exact⟨by rw[qgc HI.out.2.2 (by have:=hq.out;omega) HD.out (by have:=HN.out;omega),h1.out],⟨r,rfl⟩,rfl⟩
  clear HK e2 e3 e4 e5;obtain⟨rfl,⟨r0,rfl⟩,rfl⟩:=hcut;have ha:=Nat.mod_lt (u * 4294967296 + d) (show Y > 0 by have:=hj.out;omega);have hg:=Nat.div_add_mod (u * 4294967296 + d) Y;have h3:=qtp HU.out HD.out;obtain⟨q1,h9⟩:∃ q1,(u * 4294967296 + d) / Y=q1:=⟨_,rfl⟩
  obtain⟨v,hd⟩:∃ v,(u * 4294967296 + d) % Y=v:=⟨_,rfl⟩
  rw[hd]at ha
  rw[h9,hd,Nat.mul_comm Y]at hg
  rw[h9,hd]at HE
  rw[h9]at h3 ⊢
  have HV:=zhd ha;have h2:=zhd h3;obtain⟨v1,v2,v3,f1,f2,f3,f4⟩:=qum hg ha HY.out;clear h9 ha hg hd h3;obtain⟨q,r,e2,e3,e4,e5,HK⟩:=qtq h1 hq HV HY h4;go_upto_block 2 with fail
  go_cut [18,16] from 102 to 120 (λa b wx=>a = .int .u64 (((v * 4294967296 + e) / Y:Nat):Int)/\(∃ r:Nat,b = .int .u64 (r:Int))/\w=wx)
  case first =>
   go_wp2_with fail;go_loopw [18,16] (λa b wr=>∃ q r:Nat,a = .int .u64 (q:Int)/\b = .int .u64 (r:Int)/\Hid (q < 18446744073709551616/\r < 4294967296/\KnI 4294967296 y1 y0 v e q r)/\w=wr) (λa _ _=>(intOf a).toNat)
   case atStart=>exact⟨q,r,rfl,rfl,HK,rfl⟩
   case round =>
    clear HK e2 e3 e4 e5 f1 f2 f3 f4;obtain⟨q,r,rfl,rfl,HI,rfl⟩:=hrel;obtain⟨b,hb⟩:∃ b,b=decide (4294967296<=q\/4294967296 * r + e < q * y0):=⟨_,rfl⟩
    have HB:=zhd hb;go_upto_region 24 with fail;go_cut [113] (λv wx=>v = .bool b/\w=wx)
    case first =>
     by_cases hB:4294967296<=q
     .have t1:decide ((4294967296:Int)<=q)=true:=by simp;omega
      obtain rfl:b=true:=by rw[hb];exact decide_eq_true (.inl hB)
      clear hb hB;go_wp2_with fail;go_meet;exact⟨rfl,rfl⟩
     .have t1:decide ((4294967296:Int)<=q)=false:=by simp;omega
      have hr:=HI.out.2.1;have h7:q * y0 < 18446744073709551616:=Nat.lt_of_le_of_lt (Nat.mul_le_mul (show q<=4294967295 by omega) (show y0<=4294967295 by have:=H0.out;omega)) zd;have m0:IntKind.u64.wrap ((q:Int) * y0)=(q:Int) * y0:=by rw[Mul64.mulN];exact Mul64.wrapN _ h7
      have m1:IntKind.u64.wrap (4294967296 * (r:Int))=4294967296 * (r:Int):=by rw[IntKind.wrap_u64];omega
      have m2:IntKind.u64.wrap (4294967296 * (r:Int) + e)=4294967296 * (r:Int) + e:=by have:=h4.out;rw[IntKind.wrap_u64];omega
      have t2:decide (4294967296 * (r:Int) + e < (q:Int) * y0)=b:=by
       rw[hb,Mul64.mulN];exact decide_eq_decide.2 zo
      clear hb hB hr h7;go_wp2_with fail;go_meet;exact⟨rfl,rfl⟩
    clear hb;obtain⟨rfl,rfl⟩:=hcut;cases b with
    | true =>
     obtain⟨q0,K1⟩:=qlv HI.out.2.2 h4.out (by rw[h1.out];exact HV.out) (of_decide_eq_true HB.out.symm);obtain⟨q',h6⟩:∃ q',q'=q - 1:=⟨_,rfl⟩
     rw[<- h6]at K1
     have h5:=zhd K1;have s1:IntKind.u64.wrap ((q:Int) - 1)=(q':Int):=by have:=HI.out.1;rw[IntKind.wrap_u64];omega
     have s2:IntKind.u64.wrap ((r:Int) + y1)=(r:Int) + y1:=by have:=HI.out.2.1;have:=hq.out;rw[IntKind.wrap_u64];omega
     have h2:Hid (q' < q):=by show q' < q;omega
     clear q0 K1 h6 HB;by_cases hr:4294967296<=r + y1
     .have t3:decide (4294967296<=(r:Int) + y1)=true:=by simp;omega
      have HR:=zhd hr;clear hr;go_wp2_with fail;go_meet;exact⟨by rw[qto h5.out (by have:=hq.out;omega) H0.out h4.out (by rw[h1.out];exact HV.out) HR.out,h1.out],⟨r + y1,by rw[Int.natCast_add]⟩,rfl⟩
     .have t3:decide (4294967296<=(r:Int) + y1)=false:=by simp;omega
      have HR:=zhd hr;clear hr;go_wp2_with fail;exact⟨⟨q',r + y1,rfl,by rw[Int.natCast_add],⟨by have:=HI.out.1;have:=h2.out;omega,by have:=HR.out;omega,h5.out⟩,trivial⟩,by have:=h2.out;simp[intOf];omega⟩
    | false =>
     have HN:=zhd (of_decide_eq_false HB.out.symm);clear HB;go_wp2_with fail;go_meet;exact⟨by rw[qgc HI.out.2.2 (by have:=hq.out;omega) h4.out (by have:=HN.out;omega),h1.out],⟨r,rfl⟩,rfl⟩
  clear HK e2 e3 e4 e5 f1 f2 f3 f4;obtain⟨rfl,⟨r1,rfl⟩,rfl⟩:=hcut;have h3:=qtp HV.out h4.out;have hE:=HE.out.1;obtain⟨q0,hp⟩:∃ q0,(v * 4294967296 + e) / Y=q0:=⟨_,rfl⟩
  rw[hp]at h3 hE ⊢
  obtain⟨g1,g2⟩:=qun h2.out h3;have hv:=zhd hE;clear HE hE h3 hp;go_wp2_with fail;go_returns;exact⟨_,by rw[hv.out,Int.natCast_add,Int.natCast_mul];rfl,bR⟩
end Go.Proofs.YtncfcbohiodnnaaGreat
