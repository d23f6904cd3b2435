/- Parts of this seat's claims. -/
import Derived.Test.YtncfcbohiodnnaaGreatW8
import Derived.Deep.RegionWith
import Derived.Defers
import Derived.Scope
set_option maxRecDepth 100000
set_option maxHeartbeats 6400000
namespace Go.Proofs.YtncfcbohiodnnaaGreat
open Go.RowKit
variable{w w' W wa wo W':World} {c n pt r B j b m mb q base cap id B0:Nat} {A:Option Addr} {a code what:Int} {cs:Array Value}
def qtr(a b:Int):Int:=if 0 < a/\0 < b/\wrap64 (a + b) < 0 then 9223372036854775807 else if a < 0/\b < 0/\0<=wrap64 (a + b) then -9223372036854775808 else wrap64 (a + b)
def q8n(n f t:Int):Int:=if n < f then f else if t < n then t else n
theorem q5k{x y:Bool} (h:x=y):Ending.returned (.bool x) = .returned (.bool y):=by rw[h]
theorem q0w{x y:Int} (h:x=y):Ending.returned (ii x) = .returned (ii y):=by rw[h]
theorem quo{b:Int} : cP 304 #[ii a,ii b] w λe w'=>e = .returned (ii (qtr a b))/\w=w':=by
 refine inC ?_;go_in;go_wp2
 all_goals (go_ret;refine⟨q0w ?_,rfl⟩;unfold qtr;(repeat' split) <;> omega)
theorem qea{n f t:Int} : cP 176 #[ii n,ii f,ii t] w λe w'=>e = .returned (ii (q8n n f t))/\w=w':=by
 refine inC ?_;go_in;go_wp2
 all_goals (go_ret;refine⟨q0w ?_,rfl⟩;unfold q8n;(repeat' split) <;> omega)
theorem qlx{a:Nat} (ha:a < 9223372036854775808) (hb:b < 9223372036854775808):cP 314 #[ii a,ii b] w λe w'=>e = .returned (.agg #[.int .u64 ((a * b / 18446744073709551616:Nat):Int),.int .u64 ((a * b % 18446744073709551616:Nat):Int)])/\bW w w':=by
 have h1:IntKind.u64.wrap (a:Int)=a:=IntWalk.u64_in _ zo;have h2:IntKind.u64.wrap (b:Int)=b:=IntWalk.u64_in _ zo;refine inC ?_;go_in;go_wp2_with (go_at_call 369;go_call qls as _ _ ⟨rfl,rfl⟩);go_returns;exact⟨rfl,by go_grown⟩
theorem qq9{h l:Nat} (hh:h < 9223372036854775808) (hl:l < 18446744073709551616) (hn:n < 18446744073709551616):cP 315 #[.agg #[.int .u64 h,.int .u64 l],.int .u64 n] w λe w'=>e = .returned (.agg #[.int .u64 ((h + (l + n) / 18446744073709551616:Nat):Int),.int .u64 (((l + n) % 18446744073709551616:Nat):Int)])/\bW w w':=by
 have h1:=λw=>qlt l n w;have h2:IntKind.u64.wrap (↑h + (↑l + ↑n) / 18446744073709551616)=((h + (l + n) / 18446744073709551616:Nat):Int):=(IntWalk.u64_in _ zo).trans zo;refine inC ?_;go_in;go_wp2;go_returns;exact⟨zr,by go_grown⟩
theorem qqa{a:Nat} (ha:a < 9223372036854775808) (hb:b < 9223372036854775808):cP 314 #[ii a,ii b] w λe w'=>∃ h l:Nat,e = .returned (.agg #[.int .u64 h,.int .u64 l])/\Hid (h * 18446744073709551616 + l=a * b/\l < 18446744073709551616/\h < 9223372036854775807)/\bW w w' :=
 (qlx ha hb).mono λe w' ⟨h1,h2⟩=>⟨_,_,h1,(by
  have h3:a * b < 9223372036854775808 * 9223372036854775808:=Nat.mul_lt_mul'' ha hb;unfold Hid;omega),h2⟩
theorem qup{h l:Nat} (hh:Hid (h < 9223372036854775807)) (hl:Hid (l < 18446744073709551616)) (hn:Hid (n < 18446744073709551616)):cP 315 #[.agg #[.int .u64 h,.int .u64 l],.int .u64 n] w λe w'=>∃ h' l':Nat,e = .returned (.agg #[.int .u64 h',.int .u64 l'])/\Hid (h' * 18446744073709551616 + l'=h * 18446744073709551616 + l + n/\l' < 18446744073709551616/\h'<=h + 1)/\bW w w' :=
 (qq9 (by have:=hh.out;omega) hl.out hn.out).mono λe w' ⟨h1,h2⟩=>⟨_,_,h1,(by
  have:=hl.out;have:=hn.out;unfold Hid;omega),h2⟩
theorem qxp{h l:Nat} (hc:0 < c) (_hh:h < 18446744073709551616) (hl:l < 18446744073709551616) (hc2:c < 18446744073709551616):cP 316 #[.agg #[.int .u64 h,.int .u64 l],.int .u64 c] w λe w'=>(∃ q:Nat,∃ b:Bool,e = .returned (.tuple #[.int .u64 q,.bool b])/\(b=decide ((h * 18446744073709551616 + l) / c<=9223372036854775807))/\(b=true->q=(h * 18446744073709551616 + l) / c))/\bW w w':=by
 by_cases q:c<=h
 .have q1:decide (c<=h)=true:=decide_eq_true q;have HB:Hid (decide ((h * 18446744073709551616 + l) / c<=9223372036854775807)=false):=by
   refine decide_eq_false λhx=>?_;have:=(Nat.le_div_iff_mul_le (x:=18446744073709551616) (y:=h * 18446744073709551616 + l) hc).2 (by rw[Nat.mul_comm];exact Nat.le_trans (Nat.mul_le_mul_right _ q) (Nat.le_add_right _ _));omega
  clear _hh hl hc2 q hc;refine inC ?_;go_in;go_wp2;go_returns;exact⟨⟨0,false,rfl,HB.out.symm,λh=>by cases h⟩,by go_grown⟩
 .have q1:decide (c<=h)=false:=decide_eq_false q;have HD:=λw=>qlw (w:=w) (h:=h) (l:=l) (c:=c) zo hc2 hl;clear _hh hl hc2 q hc;refine inC ?_;go_in;generalize (h * 18446744073709551616 + l) / c=Q at HD ⊢;go_wp2_with (go_at_call 371;refine(HD _).mono ?_;rintro _ w1 ⟨r,rfl,h0⟩);go_returns;refine⟨⟨Q,decide (Q<=9223372036854775807),?_,rfl,λ_=>rfl⟩,(show bW w (w.alloc _) by go_grown).trans (h0.mono (by go_grown))⟩;have:decide ((Q:Int)<=9223372036854775807)=decide (Q<=9223372036854775807):=decide_eq_decide.2 zo;rw[<- this];rfl
theorem qly{u:FrameMode} {a:Nat} {n e:Int} (cn:w.cell? ⟨a,0,none⟩=some (ii n)) (ce:w.cell? ⟨b,0,none⟩=some (ii e)) (fz:w.frozen? ⟨a,0,none⟩=false):CallsD Tryz.prog 313 #[pp a,pp b] u w λr u' w'=>u'=u/\(r = .returned (.tuple #[])/\w'=if e=0 then w else w.setCell ⟨a,0,none⟩ (ii 0)):=by
 by_cases h:e=0
 .subst h;go_enter_d Tryz.func313,Tryz.ntmps313
  go_wp2;go_returns;exact⟨rfl,rfl⟩
 .have h':(e == 0)=false:=by simpa using h
  go_enter_d Tryz.func313,Tryz.ntmps313
  go_wp2;go_returns;exact⟨rfl,rfl⟩
def q0b(a b c:Int) (up:Bool):Int×Int :=
 if a < 0\/b < 0\/c < 1 then (0,2) else if (a * b + if up then c - 1 else 0) / c<=9223372036854775807 then ((a * b + if up then c - 1 else 0) / c,0) else (0,6)
theorem qcv{g:Nat} {n e:Int} {tm:Array Value} {R:Ending->World->Prop} (k1:Blk W g 3 #[ii n]) (k2:Blk W (g + 1) 63 #[ii e]) (h8:tm[8]?=some (pp g)/\tm[9]?=some (pp (g + 1))) (hg:w.heap.size<=g) (hb:bW w W)
  (h:∀ w',bW w w'->R (.returned (.tuple #[ii (if e=0 then n else 0),ii e])) w') :
  bodyPostD Tryz.prog Tryz.f273 R Exit.ret { tmps:=tm,defers:=[{ target:=Target.fn (Fn.func 313) #[],args:=#[pp g,pp (g + 1)] }] } W:=by
 refine leaves_cons (f:=313) (args:=#[pp g,pp (g + 1)]) zp (by simp[go_sem]) ?_;refine(qly (k1.cell 0) (k2.cell 0) (k1.frozen 0)).mono ?_;rintro _ u' w'' ⟨rfl,rfl,rfl⟩;by_cases q:e=0
 .simp only[q,if_true]at k2 h ⊢;have c1:=k1.cell 0;have c2:=k2.cell 0;exact⟨_,by simp[results,Tryz.results273,go_sem,h8,c1,c2],h _ hb⟩
 .simp only[q,if_false]at h ⊢;have c1:=(k1.set_ 0 (ii 0)).cell 0;have c2:=(k2.far (p:=⟨g,0,none⟩) zp (ii 0)).cell 0;exact⟨_,by simp[results,Tryz.results273,go_sem,h8,c1,c2],h _ (hb.setCell (p:=⟨g,0,none⟩) hg _)⟩
theorem q3k{b c:Int} {up:Bool} (ha:i64 a) (hb:i64 b) (hc:i64 c):cP 273 #[ii a,ii b,ii c,.bool up] w λe w'=>e = .returned (.tuple #[ii (q0b a b c up).1,ii (q0b a b c up).2])/\bW w w':=by
 by_cases q:a < 0\/b < 0\/c < 1
 .have HM:=zhd (show q0b a b c up=(0,2) by unfold q0b;rw[if_pos q]);go_enter_defers Tryz.func273,Tryz.ntmps273
  go_wp2
  all_goals
   refine leaves_cons (f:=313) (args:=#[pp w.heap.size,pp (w.heap.size + 1)]) zp (by simp[go_sem]) ?_;refine(qly (n:=0) (e:=2) (by simp[go_sem]) (by simp[go_sem]) (by simp[go_sem])).mono ?_;rintro e u' w'' ⟨rfl,rfl,rfl⟩;rw[HM.out];clear HM;refine⟨_,by simp[results,Tryz.results273,go_sem],rfl,?_⟩;simp only[show ¬ (2:Int)=0 by decide,if_false];go_grown
 .obtain⟨a,rfl⟩:=Int.eq_ofNat_of_zero_le (show 0<=a by omega);obtain⟨b,rfl⟩:=Int.eq_ofNat_of_zero_le (show 0<=b by omega);obtain⟨c,rfl⟩:=Int.eq_ofNat_of_zero_le (show 0<=c by omega);unfold i64 at ha hb hc;obtain⟨N,hN⟩:∃ N,N=a * b + (if up=true then c - 1 else 0):=⟨_,rfl⟩
  have HM:=zhd (show q0b a b c up=if N / c<=9223372036854775807 then (((N / c:Nat):Int),0) else (0,6) by
   unfold q0b;rw[if_neg q,show((a:Int) * b + if up=true then (c:Int) - 1 else 0)=(N:Int) by rw[hN];cases up <;> simp <;> omega,<- Int.natCast_ediv];simp only[show(((N / c:Nat):Int)<=9223372036854775807)↔N / c<=9223372036854775807 by omega])
  have EC:=zhd (show c < 18446744073709551616 by omega);have hT:=λw=>qqa (w:=w) (a:=a) (b:=b) zo zo;have hw1:IntKind.u64.wrap (c:Int)=c:=IntWalk.u64_in _ zo;have hw2:IntKind.u64.wrap ((c:Int) - 1)=((c - 1:Nat):Int):=(IntWalk.u64_in _ zo).trans zo;have HN:=zhd (show c - 1 < 18446744073709551616 by omega);have hB:=λ(w:World) (h l:Nat)=>qxp (w:=w) (h:=h) (l:=l) (c:=c) zo;have t1:decide ((c:Int) < 1)=false:=by simp;omega
  have h5:=(zA w (.cells #[ii 0] 3)).alloc zp (.cells #[ii 0] 63);have k1:=(Blk.new w 3 #[ii 0]).alloc (.cells #[ii 0] 63);have k2:=Blk.new (w.alloc (.cells #[ii 0] 3)) 63 #[ii 0];rw[World.size_alloc]at k2
  clear q ha hb hc;go_enter_defers Tryz.func273,Tryz.ntmps273
  go_upto_region 2 with fail;generalize (w.alloc (.cells #[ii 0] 3)).alloc (.cells #[ii 0] 63)=w1 at h5 k1 k2 ⊢;obtain⟨g,hg⟩:∃ g,g=w.heap.size:=⟨_,rfl⟩
  have h1:w.heap.size<=g:=zo;rw[<- hg]at k1 k2 ⊢
  clear hg;go_wp2_with fail;refine(hT _).mono ?_;rintro e w2 ⟨h,l,rfl,E1,h6⟩;have h4:=h5.trans (h6.mono h5.size);replace k1:=k1.keep h6;replace k2:=k2.keep h6;clear h5 h6;have kd:=Blk.new w2 482 #[.int .u64 h,.int .u64 l];have h9:=zA w2 (.cells #[.int .u64 h,.int .u64 l] 482);have h7:g≠w2.heap.size:=by have:=k1.lt;omega
  have h8:g + 1≠w2.heap.size:=by have:=k2.lt;omega
  obtain⟨d,hd⟩:∃ d,d=w2.heap.size:=⟨_,rfl⟩
  have he:w.heap.size<=d:=by have:=h4.size;omega
  replace k1:=k1.alloc (.cells #[.int .u64 h,.int .u64 l] 482);replace k2:=k2.alloc (.cells #[.int .u64 h,.int .u64 l] 482);have HB:=h4.trans (h9.mono h4.size);clear h4 h9;cases up with
  | true =>
   simp only[if_true]at hN;go_wp2_with fail;rw[<- hd]at kd h7 h8 ⊢
   clear hd;generalize w2.alloc (.cells #[.int .u64 h,.int .u64 l] 482)=w3 at kd k1 k2 HB ⊢;refine(qup (zhd E1.out.2.2) (zhd E1.out.2.1) HN).mono ?_;rintro e w4 ⟨h',l',rfl,E2,h3⟩;replace HB:=HB.trans (h3.mono HB.size);replace k1:=(((k1.keep h3).far (p:=⟨d,0,none⟩) h7 (.int .u64 h')).far (p:=⟨d,1,none⟩) h7 (.int .u64 l'))
   replace k2:=(((k2.keep h3).far (p:=⟨d,0,none⟩) h8 (.int .u64 h')).far (p:=⟨d,1,none⟩) h8 (.int .u64 l'))
   replace HB:=(HB.setCell (p:=⟨d,0,none⟩) he (.int .u64 h')).setCell (p:=⟨d,1,none⟩) he (.int .u64 l');have EQ:Hid (h' * 18446744073709551616 + l'=N):=by have e1:=E1.out;have e2:=E2.out;unfold Hid;omega
   have EH:h' < 18446744073709551616:=by have e1:=E1.out;have e2:=E2.out;omega
   have EL:l' < 18446744073709551616:=E2.out.2.1;replace EH:=zhd EH;replace EL:=zhd EL;replace kd:=kd.keep h3;have d0:=kd.cell 0;have d1:=kd.cell 1;have fd:=kd.frozen;clear E1 E2 hN h3;go_wp2_with fail;refine(hB _ _ _ EH.out EL.out EC.out).mono ?_;rintro e w6 ⟨⟨q,b,rfl,E5,E6⟩,h0⟩;have h2:=HB.trans (h0.mono HB.size);replace k1:=k1.keep h0;replace k2:=k2.keep h0;rw[EQ.out]at E5 E6
   clear h0 HB;cases b with
   | true =>
    have HQ:Hid (q=N / c/\N / c<=9223372036854775807):=⟨E6 rfl,of_decide_eq_true E5.symm⟩
    rw[if_pos HQ.out.2]at HM
    rw[<- HQ.out.1]at HM
    have hf:IntKind.i64.wrap (q:Int)=q:=IntWalk.i64_in _ (by have:=HQ.out;omega);clear E5 E6 HQ;have c1:=k1.cell 0;have c2:=k2.cell 0;have f1:=k1.frozen 0;have f2:=k2.frozen 0;go_wp2_with fail;refine qcv ((k1.set_ 0 (ii q)).far (p:=⟨g + 1,0,none⟩) zp (ii 0)) ((k2.far (p:=⟨g,0,none⟩) zp (ii q)).set_ 0 (ii 0)) ⟨rfl,rfl⟩ h1 ((h2.setCell (p:=⟨g,0,none⟩) h1 _).setCell (p:=⟨g + 1,0,none⟩) (by simp;omega) _) ?_;intro w' hw';rw[HM.out];exact⟨rfl,hw'⟩
   | false =>
    rw[if_neg (of_decide_eq_false E5.symm)]at HM
    clear E5 E6;have c1:=k1.cell 0;have c2:=k2.cell 0;have f1:=k1.frozen 0;have f2:=k2.frozen 0;go_wp2_with fail;refine qcv ((k1.set_ 0 _).far (p:=⟨g + 1,0,none⟩) zp (ii 6)) ((k2.far (p:=⟨g,0,none⟩) zp _).set_ 0 (ii 6)) ⟨rfl,rfl⟩ h1 ((h2.setCell (p:=⟨g,0,none⟩) h1 _).setCell (p:=⟨g + 1,0,none⟩) (by simp;omega) _) ?_;intro w' hw';rw[HM.out];exact⟨rfl,hw'⟩
  | false =>
   simp only[if_false,Bool.false_eq_true,Nat.add_zero]at hN;go_wp2_with fail;rw[<- hd]at kd h7 h8 ⊢
   clear hd;generalize w2.alloc (.cells #[.int .u64 h,.int .u64 l] 482)=w3 at kd k1 k2 HB ⊢;have EQ:Hid (h * 18446744073709551616 + l=N):=by have e1:=E1.out;unfold Hid;omega
   have EH:=zhd (show h < 18446744073709551616 by have e1:=E1.out;omega);have EL:=zhd E1.out.2.1;have d0:=kd.cell 0;have d1:=kd.cell 1;clear E1 hN;refine(hB _ _ _ EH.out EL.out EC.out).mono ?_;rintro e w6 ⟨⟨q,b,rfl,E5,E6⟩,h0⟩;have h2:=HB.trans (h0.mono HB.size);replace k1:=k1.keep h0;replace k2:=k2.keep h0;rw[EQ.out]at E5 E6
   clear h0 HB;cases b with
   | true =>
    have HQ:Hid (q=N / c/\N / c<=9223372036854775807):=⟨E6 rfl,of_decide_eq_true E5.symm⟩
    rw[if_pos HQ.out.2]at HM
    rw[<- HQ.out.1]at HM
    have hf:IntKind.i64.wrap (q:Int)=q:=IntWalk.i64_in _ (by have:=HQ.out;omega);clear E5 E6 HQ;have c1:=k1.cell 0;have c2:=k2.cell 0;have f1:=k1.frozen 0;have f2:=k2.frozen 0;go_wp2_with fail;refine qcv ((k1.set_ 0 (ii q)).far (p:=⟨g + 1,0,none⟩) zp (ii 0)) ((k2.far (p:=⟨g,0,none⟩) zp (ii q)).set_ 0 (ii 0)) ⟨rfl,rfl⟩ h1 ((h2.setCell (p:=⟨g,0,none⟩) h1 _).setCell (p:=⟨g + 1,0,none⟩) (by simp;omega) _) ?_;intro w' hw';rw[HM.out];exact⟨rfl,hw'⟩
   | false =>
    rw[if_neg (of_decide_eq_false E5.symm)]at HM
    clear E5 E6;have c1:=k1.cell 0;have c2:=k2.cell 0;have f1:=k1.frozen 0;have f2:=k2.frozen 0;go_wp2_with fail;refine qcv ((k1.set_ 0 _).far (p:=⟨g + 1,0,none⟩) zp (ii 6)) ((k2.far (p:=⟨g,0,none⟩) zp _).set_ 0 (ii 6)) ⟨rfl,rfl⟩ h1 ((h2.setCell (p:=⟨g,0,none⟩) h1 _).setCell (p:=⟨g + 1,0,none⟩) (by simp;omega) _) ?_;intro w' hw';rw[HM.out];exact⟨rfl,hw'⟩
theorem qlz{b:Int} (ha:i64 a) (hb:i64 b):cP 278 #[ii a,ii b] w λe w'=>e = .returned (.tuple #[ii (q0b a b 1 false).1,ii (q0b a b 1 false).2])/\bW w w':=by
 have hM:=λw=>q3k (w:=w) (up:=false) ha hb (show i64 1 by unfold i64;omega);generalize q0b a b 1 false=R at hM ⊢;refine inC ?_;go_in;go_wp2_with (go_at_call 273;refine(hM _).mono ?_;rintro _ _ ⟨rfl,h0⟩);go_returns;exact⟨rfl,h0⟩
theorem zv{p:Prop} (h:p:=by go_grown):p:=h
def q97(l:List Lv):Lv:=if l.length=0 then Lv0 else atD Lv0 l (l.length - 1)
theorem qm0{x:Pw} (hx:q1y.ok w x):cP 277 #[.agg #[.slice x.levels.A x.levels.l.length x.levels.c,.slice x.naps.A x.naps.l.length x.naps.c,ii x.sw,ii x.idle,ii x.change,ii x.quant,ii x.slow,ii x.ppm]] w λe w'=>e = .returned (.agg #[ii (q97 x.levels.l).freq,ii (q97 x.levels.l).power])/\bW w w':=by
 have hn:=hx.1.1.len;rcases Nat.eq_zero_or_pos x.levels.l.length with q | q
 .have HT:Hid (q97 x.levels.l=Lv0):=by unfold Hid q97;rw[if_pos q]
  refine inC ?_;go_in;go_wp2;go_returns;exact⟨by rw[HT.out];rfl,zv⟩
 .obtain⟨m,hm⟩:∃ m,x.levels.l.length=m + 1:=⟨x.levels.l.length - 1,zo⟩
  have HT:Hid (q97 x.levels.l=atD Lv0 x.levels.l m):=by unfold Hid q97;rw[if_neg zo,hm];rfl
  obtain⟨sb,so,hA,hsb,h0⟩:=hx.1.1.at_ Lv0 (k:=m) zo;have s0:w.cell? ⟨sb,so + m * 2,none⟩=some (ii (atD Lv0 x.levels.l m).freq):=h0 0 _ rfl;have s1:w.cell? ⟨sb,so + m * 2 + 1,none⟩=some (ii (atD Lv0 x.levels.l m).power):=h0 1 _ rfl;have hw:wrap64 (m:Int)=(m:Int):=(by unfold wrap64;omega)
  rw[hA,hm];generalize atD Lv0 x.levels.l m=y at *;clear h0 hA hn q;refine inC ?_;go_in;go_wp2;go_returns;exact⟨by rw[HT.out],zv⟩
theorem qxq{x:Pw} (hx:q1y.ok w x):i64 (q97 x.levels.l).freq/\i64 (q97 x.levels.l).power:=by
 unfold q97;split
 .unfold i64;simp[Lv0]
 .exact hx.1.2 _ (q0h (d:=Lv0) zo)
theorem qpy{b:Int} {p:Int×Int} (h:p=(a,b)):Ending.returned (.tuple #[ii a,ii b]) = .returned (.tuple #[ii p.1,ii p.2]):=by rw[h]
theorem q9u(a b c:Int) (up:Bool):i64 (q0b a b c up).1:=by
 unfold q0b;generalize hz:(if up=true then c - 1 else 0)=z;split
 .unfold i64;simp
 .have h3:0<=a * b:=Int.mul_nonneg zo zo;have:0<=(a * b + z) / c:=Int.ediv_nonneg (by revert hz;split <;> omega) zo;unfold i64;split <;> simp <;> omega
theorem bt{w0:World} (h:bW w0 w) (k:bW w w'):bW w0 w':=h.trans (k.mono h.size)
theorem up{P:Program} {f:FuncId} {args:Array Value} {p:Ending->Prop} (h:Calls P f args w λe w'=>p e/\bW w w') (hb:bW W w):Calls P f args w λe w'=>p e/\bW W w'/\W.heap.size<=w'.heap.size/\(∀ b o,b < w.heap.size->w'.cell? ⟨b,o,none⟩=w.cell? ⟨b,o,none⟩)/\(∀ b o,b < w.heap.size->w'.frozen? ⟨b,o,none⟩=w.frozen? ⟨b,o,none⟩)/\(∀ b,b < w.heap.size->b < w'.heap.size)/\bW w w' :=
 h.mono λ_ _ ⟨h1,h2⟩=>⟨h1,bt hb h2,(bt hb h2).size,(qcl h2).1,(qcl h2).2,λ_ h=>Nat.lt_of_lt_of_le h h2.size,h2⟩
theorem uW{C P:Prop} {H G:World->Prop} (c:C) (q:∀ w,H w->G w) (s:C->(∀ w,H w->G w)->P:=by
  intro hC hQ;with_reducible refine Calls.mono (up (W:=w) hC zv) ?_
  rintro _ w1 ⟨rfl,h⟩;exact hQ w1 h):P:=s c q
def qgd(y:Lv) (n:Int):Int×Int :=
 if n < 0\/y.freq < 1\/y.power < 0 then (0,2) else if (q0b 1000 y.power 1 false).2≠0 then (0,(q0b 1000 y.power 1 false).2) else q0b n (q0b 1000 y.power 1 false).1 y.freq true
theorem qhw{x:Pw} {n:Int} (hx:q1y.ok w x) (hn:i64 n):cP 208 #[.agg (Pw.lw x),ii n] w λe w'=>e = .returned (.tuple #[ii (qgd (q97 x.levels.l) n).1,ii (qgd (q97 x.levels.l) n).2])/\bW w w':=by
 have hT:=λw' hb=>qm0 (q1y.keep (W':=w') hx hb);have hi:=zhd (qxq hx);generalize q97 x.levels.l=y at *;have hM:=λw=>qlz (w:=w) (a:=1000) (by unfold i64;omega) hi.out.2;have hD:=λw=>q3k (w:=w) (up:=true) hn (q9u 1000 y.power 1 false) hi.out.1;generalize hR:q0b 1000 y.power 1 false=R at hM hD;have HR:=zhd hR;clear hR;refine inC ?_;go_in;go_wp2_with (first | (go_at_call 277;refine(up (W:=w) (hT _ zv) zv).mono ?_;rintro _ w1 ⟨rfl,hb,hs,hc,hf,hl,hB⟩) | (go_at_call 278;refine(up (W:=w) (hM _) zv).mono ?_;rintro _ w1 ⟨rfl,hb,hs,hc,hf,hl,hB⟩) | (go_at_call 273;refine(up (W:=w) (hD _) zv).mono ?_;rintro _ w1 ⟨rfl,hb,hs,hc,hf,hl,hB⟩))
 all_goals (go_returns;refine⟨qpy ?_,zv⟩;unfold qgd;rw[HR.out];(repeat' split) <;> first | rfl | omega | simp_all)
theorem is_any{b:Int} : cP 375 #[.agg #[ii a,ii b]] w λe w'=>e = .returned (.bool (decide (0 < a)))/\bW w w':=by
 refine inC ?_;go_in;go_wp2;go_returns;exact⟨rfl,zv⟩
theorem qqb{b n:Int} (ha:i64 a) (hn:i64 n):cP 322 #[.agg #[ii a,ii b],ii n] w λe w'=>e = .returned (.tuple #[ii (q0b n 1000 a true).1,ii (q0b n 1000 a true).2])/\bW w w':=by
 have hD:=λw=>q3k (w:=w) (up:=true) hn (show i64 1000 by unfold i64;omega) ha;generalize q0b n 1000 a true=R at hD ⊢;refine inC ?_;go_in;go_wp2_with (go_at_call 273;refine(up (W:=w) (hD _) zv).mono ?_;rintro _ w1 ⟨rfl,hb,hs,hc,hf,hl,hB⟩);go_returns;exact⟨rfl,hb⟩
theorem may_any{b t n:Int} : cP 321 #[.agg #[ii a,ii b,ii t],ii n] w λe w'=>e = .returned (.bool (decide (0<=n) && decide (0<=t) && decide (0 < a)))/\bW w w':=by
 refine inC ?_;go_in;go_wp2_with (refine uW is_any ?_;rintro w1 ⟨hb,hs,hc,hf,hl,hB⟩)
 all_goals (go_returns;exact⟨by first | rfl | (simp;omega) | (simp;intros;omega),zv⟩)
theorem of_any{x:Pw} (hx:q1y.ok w x):cP 320 #[.agg (Pw.lw x)] w λe w'=>e = .returned (.agg #[ii (q97 x.levels.l).freq,ii (q97 x.levels.l).power,ii x.sw])/\bW w w':=by
 have hT:=λw' hb=>qm0 (q1y.keep (W':=w') hx hb);generalize q97 x.levels.l=y at *;refine inC ?_;go_in;go_wp2_with fail;go_region_with (go_at_call 277;refine(up (W:=w) (hT _ zv) zv).mono ?_;rintro _ w1 ⟨rfl,hb,hs,hc,hf,hl,hB⟩)
 all_goals (go_wp2_with fail;try simp only[Exit.inBlock,Exit.then]);all_goals (refine bodyPost_ret (by simp[results,Tryz.results320,go_sem,hc]) rfl ⟨rfl,zv⟩)
theorem qhx{g:Nat} {n e:Int} {tm:Array Value} {R:Ending->World->Prop} (k1:Blk W g 3 #[ii n]) (k2:Blk W (g + 1) 63 #[ii e]) (h8:tm[2]?=some (pp g)/\tm[3]?=some (pp (g + 1))) (hg:w.heap.size<=g) (hb:bW w W)
  (h:∀ w',bW w w'->R (.returned (.tuple #[ii (if e=0 then n else 0),ii e])) w') :
  bodyPostD Tryz.prog Tryz.f323 R Exit.ret { tmps:=tm,defers:=[{ target:=Target.fn (Fn.func 313) #[],args:=#[pp g,pp (g + 1)] }] } W:=by
 refine leaves_cons (f:=313) (args:=#[pp g,pp (g + 1)]) zp (by simp[go_sem]) ?_;refine(qly (k1.cell 0) (k2.cell 0) (k1.frozen 0)).mono ?_;rintro _ u' w'' ⟨rfl,rfl,rfl⟩;by_cases q:e=0
 .simp only[q,if_true]at k2 h ⊢;have c1:=k1.cell 0;have c2:=k2.cell 0;exact⟨_,by simp[results,Tryz.results323,go_sem,h8,c1,c2],h _ hb⟩
 .simp only[q,if_false]at h ⊢;have c1:=(k1.set_ 0 (ii 0)).cell 0;have c2:=(k2.far (p:=⟨g,0,none⟩) zp (ii 0)).cell 0;exact⟨_,by simp[results,Tryz.results323,go_sem,h8,c1,c2],h _ (hb.setCell (p:=⟨g,0,none⟩) hg _)⟩
def quq(a b:Int):Int×Int:=if a + b<=9223372036854775807 then (a + b,0) else (0,6)
theorem qhy{s o:Nat} {b:Int} (h0:w.cell? ⟨s,o,none⟩=some (ii a)) (h1:w.cell? ⟨s,o + 1,none⟩=some (ii b)) (ha:0<=a) (hb:0<=b) (ha2:a<=9223372036854775807) (hb2:b<=9223372036854775807) (hs:s < w.heap.size):cP 323 #[.slice (some ⟨s,o,none⟩) 2 c] w λe w'=>e = .returned (.tuple #[ii (quq a b).1,ii (quq a b).2])/\bW w w':=by
 have h3:=(zA w (.cells #[ii 0] 3)).alloc zp (.cells #[ii 0] 63);have k1:=(Blk.new w 3 #[ii 0]).alloc (.cells #[ii 0] 63);have k2:=Blk.new (w.alloc (.cells #[ii 0] 3)) 63 #[ii 0];rw[World.size_alloc]at k2
 have n1:wrap64 (9223372036854775807 - a)=9223372036854775807 - a:=by unfold wrap64;omega
 have q1:decide (a < 0)=false:=by simpa using ha
 have q2:decide (b < 0)=false:=by simpa using hb
 have q3:decide (9223372036854775807 < a)=false:=by simpa using ha2
 go_enter_defers Tryz.func323,Tryz.ntmps323
 go_upto_region 2 with fail;have h0':=(h3.cell (p:=⟨s,o,none⟩) hs).trans h0;have h1':=(h3.cell (p:=⟨s,o + 1,none⟩) hs).trans h1;generalize (w.alloc (.cells #[ii 0] 3)).alloc (.cells #[ii 0] 63)=w1 at *;obtain⟨g,hg⟩:∃ g,g=w.heap.size:=⟨_,rfl⟩
 have h2:w.heap.size<=g:=zo;have hsg:¬ s=g:=zo;rw[<- hg]at k1 k2 ⊢
 clear hg;have c1:=k1.cell 0;have c2:=k2.cell 0;have f1:=k1.frozen 0;have f2:=k2.frozen 0;by_cases q:9223372036854775807 - a < b
 .have q4:decide (9223372036854775807 - a < b)=true:=decide_eq_true q;have HS:=zhd (show quq a b=(0,6) by unfold quq;rw[if_neg zo]);clear q;go_wp2_with fail;go_rounds 3
  refine qhx (((k1.set_ 0 (ii a)).set_ 0 (ii a)).far (p:=⟨g + 1,0,none⟩) zp (ii 6)) (((k2.far (p:=⟨g,0,none⟩) zp (ii a)).far (p:=⟨g,0,none⟩) zp (ii a)).set_ 0 (ii 6)) ⟨rfl,rfl⟩ h2 (((h3.setCell (p:=⟨g,0,none⟩) h2 (ii a)).setCell (p:=⟨g,0,none⟩) h2 (ii a)).setCell (p:=⟨g + 1,0,none⟩) (by simp;omega) (ii 6)) ?_;intro w' hw';rw[HS.out];exact⟨rfl,hw'⟩
 .have q4:decide (9223372036854775807 - a < b)=false:=decide_eq_false q;have HS:=zhd (show quq a b=(a + b,0) by unfold quq;rw[if_pos zo]);have n2:wrap64 (a + b)=a + b:=by unfold wrap64;omega
  clear q;go_wp2_with fail;go_rounds 3
  refine qhx ((((k1.set_ 0 (ii a)).set_ 0 (ii (a + b))).set_ 0 (ii (a + b))).far (p:=⟨g + 1,0,none⟩) zp (ii 0)) ((((k2.far (p:=⟨g,0,none⟩) zp (ii a)).far (p:=⟨g,0,none⟩) zp (ii (a + b))).far (p:=⟨g,0,none⟩) zp (ii (a + b))).set_ 0 (ii 0)) ⟨rfl,rfl⟩ h2 ((((h3.setCell (p:=⟨g,0,none⟩) h2 (ii a)).setCell (p:=⟨g,0,none⟩) h2 (ii (a + b))).setCell (p:=⟨g,0,none⟩) h2 (ii (a + b))).setCell (p:=⟨g + 1,0,none⟩) (by simp;omega) (ii 0)) ?_;intro w' hw';rw[HS.out];exact⟨rfl,hw'⟩
def qcw(x:Pw) (n:Int):Int×Int :=
 if n < 0\/x.sw < 0\/(q97 x.levels.l).freq < 1 then (0,2) else if (q0b n 1000 (q97 x.levels.l).freq true).2≠0 then (0,(q0b n 1000 (q97 x.levels.l).freq true).2) else quq x.sw (q0b n 1000 (q97 x.levels.l).freq true).1
theorem qm1(a b c:Int) (up:Bool):0<=(q0b a b c up).1:=by
 unfold q0b;generalize hz:(if up=true then c - 1 else 0)=z;split
 .simp
 .have h3:0<=a * b:=Int.mul_nonneg zo zo;have:0<=(a * b + z) / c:=Int.ediv_nonneg (by revert hz;split <;> omega) zo;split <;> simp <;> omega
theorem qqc{x:Pw} {n:Int} (hx:q1y.ok w x) (hn:i64 n):cP 284 #[.agg (Pw.lw x),ii n] w λe w'=>e = .returned (.tuple #[ii (qcw x n).1,ii (qcw x n).2])/\bW w w':=by
 have hO:=λw' hb=>of_any (q1y.keep (W':=w') hx hb);have hi:=zhd (qxq hx);have h1:=zhd (show i64 x.sw from hx.2.2.1);have hS:qcw x n=qcw x n:=rfl
 conv at hS=>rhs;unfold qcw
 have HS:=zhd hS;clear hS;generalize q97 x.levels.l=y at *;generalize qcw x n=R at HS ⊢;have hT:=λw=>qqb (w:=w) (b:=y.power) hi.out.1 hn;have hR:=zhd (q9u n 1000 y.freq true);have h0:=zhd (qm1 n 1000 y.freq true);generalize q0b n 1000 y.freq true=T at *;have hM:=λw=>may_any (w:=w) (a:=y.freq) (b:=y.power) (t:=x.sw) (n:=n);generalize hbb:(decide (0<=n) && decide (0<=x.sw) && decide (0 < y.freq))=bb at hM;by_cases q:n < 0\/x.sw < 0\/y.freq < 1
 .obtain rfl:bb=false:=by rw[<- hbb];simp;omega
  rw[if_pos q]at HS
  clear q hbb;refine inC ?_;go_in;go_wp2_with (first | (go_at_call 320;refine(up (W:=w) (hO _ zv) zv).mono ?_;rintro _ w1 ⟨rfl,hb,hs,hc,hf,hl,hB⟩) | (go_at_call 321;refine(up (W:=w) (hM _) zv).mono ?_;rintro _ w1 ⟨rfl,hb,hs,hc,hf,hl,hB⟩) | (go_at_call 322;refine(up (W:=w) (hT _) zv).mono ?_;rintro _ w1 ⟨rfl,hb,hs,hc,hf,hl,hB⟩) | (go_at_call 323;refine(up (W:=w) (qhy zp zp H0.out h0.out h1.out.2 hR.out.2 zp) zv).mono ?_;rintro _ w1 ⟨rfl,hb,hs,hc,hf,hl,hB⟩))
  all_goals (go_returns;refine⟨qpy ?_,zv⟩;first | exact HS.out | (rw[HS.out];(repeat' split) <;> first | rfl | simp_all))
 .obtain rfl:bb=true:=by rw[<- hbb];simp;omega
  rw[if_neg q]at HS
  have H0:Hid (0<=x.sw):=by unfold Hid;omega
  clear q hbb;refine inC ?_;go_in;go_wp2_with (first | (go_at_call 320;refine(up (W:=w) (hO _ zv) zv).mono ?_;rintro _ w1 ⟨rfl,hb,hs,hc,hf,hl,hB⟩) | (go_at_call 321;refine(up (W:=w) (hM _) zv).mono ?_;rintro _ w1 ⟨rfl,hb,hs,hc,hf,hl,hB⟩) | (go_at_call 322;refine(up (W:=w) (hT _) zv).mono ?_;rintro _ w1 ⟨rfl,hb,hs,hc,hf,hl,hB⟩) | (go_at_call 323;refine(up (W:=w) (qhy zp zp H0.out h0.out h1.out.2 hR.out.2 zp) zv).mono ?_;rintro _ w1 ⟨rfl,hb,hs,hc,hf,hl,hB⟩))
  all_goals (go_returns;refine⟨qpy ?_,zv⟩;first | exact HS.out | (rw[HS.out];(repeat' split) <;> first | rfl | simp_all))
def qm2(x:Pw) (n l:Int):Bool:=(qcw x n).2 == 0 && decide ((qcw x n).1<=l)
theorem qqd{x:Pw} {n l:Int} (hx:q1y.ok w x) (hn:i64 n):cP 230 #[.agg (Pw.lw x),ii n,ii l] w λe w'=>e = .returned (.bool (qm2 x n l))/\bW w w':=by
 have hO:=λw' hb=>qqc (q1y.keep (W':=w') hx hb) hn;unfold qm2;generalize qcw x n=R at *;refine inC ?_;go_in;go_wp2_with (go_at_call 284;refine(up (W:=w) (hO _ zv) zv).mono ?_;rintro _ w1 ⟨rfl,hb,hs,hc,hf,hl,hB⟩)
 all_goals (go_returns;exact⟨by first | rfl | simp_all,zv⟩)
structure Mt where
 run:List Int
 idle:Int
 sleep:Int
 chg:Int
 total:Int
 time:Int
def Mt.cells(r:Nat) (m:Mt):Array Value:=#[.slice (some ⟨r,0,none⟩) m.run.length m.run.length,ii m.idle,ii m.sleep,ii m.chg,ii m.total,ii m.time,.bool true]
structure MtR(w:World) (g r:Nat) (m:Mt):Prop where
 b:Blk w g 187 (m.cells r)
 c:Blk w r 3 (m.run.map (Value.int .i64)).toArray
 ne:g≠r
 n:m.run.length<=8
theorem MtR.fr{S:Nat->Prop} {g:Nat} {m:Mt} (h:MtR w g r m) (hf:Fr S w w') (hg:¬ S g) (hr:¬ S r):MtR w' g r m:=⟨h.b.fr hf hg,h.c.fr hf hr,h.ne,h.n⟩
theorem MtR.keep{g:Nat} {m:Mt} (h:MtR w g r m) (hf:bW w w'):MtR w' g r m:=⟨h.b.keep hf,h.c.keep hf,h.ne,h.n⟩
theorem MtR.cell{g:Nat} {m:Mt} (h:MtR w g r m):∀ i,w.cell? ⟨g,i,none⟩ = #[.slice (some ⟨r,0,none⟩) m.run.length m.run.length,ii m.idle,ii m.sleep,ii m.chg,ii m.total,ii m.time,.bool true][i]?:=h.b.cell
theorem qac{g:Nat} {m:Mt} (H:MtR w g r m):cP 71 #[pp g] w λe w'=>e = .returned (.bool false)/\w=w':=by
 have c:=H.cell;refine inC ?_;go_in;go_wp2;go_returns;exact⟨rfl,rfl⟩
theorem qr5{g:Nat} {m:Mt} (H:MtR w g r m) {k:Int} : cP 317 #[pp g,ii k] w λe w'=>e = .returned (.bool (decide (0<=k) && decide (k < m.run.length)))/\w=w':=by
 have c:=H.cell;refine inC ?_;go_in;go_wp2
 all_goals (go_returns;exact⟨q5k (by first | rfl | (simp;omega)),rfl⟩)
def qyg(m:Mt) (kind k n:Int):Mt :=
 if kind=0 then { m with run:=m.run.set k.toNat (wrap64 (at0 m.run k.toNat + n)) }
 else if kind=1 then { m with idle:=wrap64 (m.idle + n) }
 else if kind=2 then { m with sleep:=wrap64 (m.sleep + n) }
 else if kind=3 then { m with chg:=wrap64 (m.chg + n) } else m
theorem qr6{g:Nat} {m:Mt} (H:MtR w g r m) {kind k n:Int} (hk:kind=0->0<=k/\k < m.run.length):cP 318 #[pp g,ii kind,ii k,ii n] w λe w'=>e = .returned (.tuple #[])/\MtR w' g r (qyg m kind k n)/\Fr (λb=>b=g\/b=r) w w':=by
 have c:=H.cell;have f:=H.b.frozen;have hF:=Fr.refl (λb=>b=g\/b=r) w;unfold qyg;by_cases q0:kind=0
 .obtain⟨h1,h2⟩:=hk q0;subst q0;obtain⟨j,rfl⟩:=Int.eq_ofNat_of_zero_le h1;have hj:j < m.run.length:=zo;have d:w.cell? ⟨r,j,none⟩=some (ii (at0 m.run j)):=by rw[H.c.cell];simp[q2v hj,hj]
  have fz:=H.c.frozen;have hT:MtR (w.setCell ⟨r,j,none⟩ (ii (wrap64 (at0 m.run j + n)))) g r { m with run:=m.run.set j (wrap64 (at0 m.run j + n)) }:=⟨by
   have:=H.b.far (p:=⟨r,j,none⟩) H.ne (ii (wrap64 (at0 m.run j + n)));unfold Mt.cells at this ⊢;simpa using this,by
   have:=H.c.set_ j (ii (wrap64 (at0 m.run j + n)));rw[List.setIfInBounds_toArray,<- List.map_set]at this
   exact this,H.ne,by simpa using H.n⟩
  have HT:=zhd hT;clear hT hk h1;refine inC ?_;go_in;go_wp2;go_returns;exact⟨rfl,HT.out,hF.setCell (p:=⟨r,j,none⟩) (λ_ => .inr rfl) _⟩
 .have q0':(kind == 0)=false:=beq_eq_false_iff_ne.2 q0;rw[if_neg q0];clear hk;by_cases q1:kind=1
  .subst q1;refine inC ?_;go_in;go_wp2;go_returns;exact⟨rfl,⟨H.b.set_ 1 _,H.c.far H.ne.symm _,H.ne,H.n⟩,hF.setCell (p:=⟨g,1,none⟩) (λ_ => .inl rfl) _⟩
  .by_cases q2:kind=2
   .subst q2;refine inC ?_;go_in;go_wp2;go_returns;exact⟨rfl,⟨H.b.set_ 2 _,H.c.far H.ne.symm _,H.ne,H.n⟩,hF.setCell (p:=⟨g,2,none⟩) (λ_ => .inl rfl) _⟩
   .by_cases q3:kind=3
    .subst q3;refine inC ?_;go_in;go_wp2;go_returns;exact⟨rfl,⟨H.b.set_ 3 _,H.c.far H.ne.symm _,H.ne,H.n⟩,hF.setCell (p:=⟨g,3,none⟩) (λ_ => .inl rfl) _⟩
    .have q1':(kind == 1)=false:=beq_eq_false_iff_ne.2 q1;have q2':(kind == 2)=false:=beq_eq_false_iff_ne.2 q2;have q3':(kind == 3)=false:=beq_eq_false_iff_ne.2 q3;rw[if_neg q1,if_neg q2,if_neg q3];refine inC ?_;go_in;go_wp2;go_returns;exact⟨rfl,H,hF⟩
def q6k(m:Mt) (kind k p ns:Int):Int×Mt :=
 if kind < 0\/4<=kind\/p < 0\/ns < 0\/kind=0/\¬ (0<=k/\k < m.run.length) then (2,m)
 else if (q0b p ns 1 false).2≠0\/wrap64 (4611686018427387904 - m.total) < (q0b p ns 1 false).1\/wrap64 (4611686018427387904 - m.time) < ns then (6,m)
 else (0,qyg { m with total:=wrap64 (m.total + (q0b p ns 1 false).1),time:=wrap64 (m.time + ns) } kind k (q0b p ns 1 false).1)
theorem MtR.set2{g:Nat} {m:Mt} (h:MtR w g r m) (a b:Int):MtR ((w.setCell ⟨g,4,none⟩ (ii a)).setCell ⟨g,5,none⟩ (ii b)) g r { m with total:=a,time:=b } :=
 ⟨(h.b.set_ 4 _).set_ 5 _,(h.c.far h.ne.symm _).far h.ne.symm _,h.ne,h.n⟩
theorem qn4{g:Nat} {m:Mt} (H:MtR w g r m) {kind k p ns:Int} (hp:i64 p) (hn:i64 ns):cP 274 #[pp g,ii kind,ii k,ii p,ii ns] w λe w'=>e = .returned (ii (q6k m kind k p ns).1)/\MtR w' g r (q6k m kind k p ns).2/\Fr (λb=>b=g\/b=r) w w':=by
 have hE:q6k m kind k p ns=q6k m kind k p ns:=rfl
 conv at hE=>rhs;unfold q6k
 generalize q6k m kind k p ns=R at *;have hM:=λw=>qlz (w:=w) hp hn;generalize q0b p ns 1 false=M at *;have hH:=qr5 (w:=w) H (k:=k);have hD:=qac H;have c:=H.cell;have f:=H.b.frozen;have lg:=H.b.lt;by_cases q:kind < 0\/4<=kind\/p < 0\/ns < 0\/kind=0/\¬ (0<=k/\k < m.run.length)
 .rw[if_pos q]at hE
  have HE:=zhd hE;clear hE;refine inC ?_;go_in;go_wp2_with (first | (go_at_call 71;refine hD.mono ?_;rintro _ _ ⟨rfl,rfl⟩) | (go_at_call 317;refine hH.mono ?_;rintro _ _ ⟨rfl,rfl⟩))
  all_goals first | (go_returns;exact⟨q0w (congrArg Prod.fst HE.out).symm,by rw[HE.out];exact H,Fr.refl _ _⟩) | (exfalso;simp at *;omega)
 .rw[if_neg q]at hE
  by_cases q2:M.2≠0\/wrap64 (4611686018427387904 - m.total) < M.1\/wrap64 (4611686018427387904 - m.time) < ns
  .rw[if_pos q2]at hE
   have HE:=zhd hE;clear hE;refine inC ?_;go_in;go_wp2_with (first | (go_at_call 71;refine hD.mono ?_;rintro _ _ ⟨rfl,rfl⟩) | (go_at_call 317;refine hH.mono ?_;rintro _ _ ⟨rfl,rfl⟩) | (go_at_call 278;refine(up (W:=w) (hM _) zv).mono ?_;rintro _ w1 ⟨rfl,hb,hs,hc,hf,hl,hB⟩))
   all_goals first | (go_returns;exact⟨q0w (congrArg Prod.fst HE.out).symm,by rw[HE.out];exact H.keep hb,fO hb _⟩) | (exfalso;simp at *;omega)
  .rw[if_neg q2]at hE
   have HE:=zhd hE;have h0:kind=0->0<=k/\k < m.run.length:=zo;have hP:=λw (h:MtR w g r { m with total:=wrap64 (m.total + M.1),time:=wrap64 (m.time + ns) })=>qr6 h (kind:=kind) (k:=k) (n:=M.1) h0;clear hE;by_cases hk:kind=0
   .subst hk;refine inC ?_;go_in;go_wp2_with (first | (go_at_call 71;refine hD.mono ?_;rintro _ _ ⟨rfl,rfl⟩) | (go_at_call 317;refine hH.mono ?_;rintro _ _ ⟨rfl,rfl⟩) | (go_at_call 278;refine(up (W:=w) (hM _) zv).mono ?_;rintro _ w1 ⟨rfl,hb,hs,hc,hf,hl,hB⟩))
    all_goals first | (exfalso;simp at *;omega) | skip
    refine(hP _ ((H.keep hb).set2 _ _)).mono ?_;rintro _ w2 ⟨rfl,h2,f2⟩;go_wp2_with fail;go_returns;exact⟨q0w (congrArg Prod.fst HE.out).symm,by rw[HE.out];exact h2,((fO hb _).setCell (p:=⟨g,4,none⟩) (λ_ => .inl rfl) _ |>.setCell (p:=⟨g,5,none⟩) (λ_ => .inl rfl) _).trans f2⟩
   .have hk':(kind == 0)=false:=beq_eq_false_iff_ne.2 hk;refine inC ?_;go_in;go_wp2_with (first | (go_at_call 71;refine hD.mono ?_;rintro _ _ ⟨rfl,rfl⟩) | (go_at_call 317;refine hH.mono ?_;rintro _ _ ⟨rfl,rfl⟩) | (go_at_call 278;refine(up (W:=w) (hM _) zv).mono ?_;rintro _ w1 ⟨rfl,hb,hs,hc,hf,hl,hB⟩))
    all_goals first | (exfalso;simp at *;omega) | skip
    refine(hP _ ((H.keep hb).set2 _ _)).mono ?_;rintro _ w2 ⟨rfl,h2,f2⟩;go_wp2_with fail;go_returns;exact⟨q0w (congrArg Prod.fst HE.out).symm,by rw[HE.out];exact h2,((fO hb _).setCell (p:=⟨g,4,none⟩) (λ_ => .inl rfl) _ |>.setCell (p:=⟨g,5,none⟩) (λ_ => .inl rfl) _).trans f2⟩
def q7b(h p:Int):Int:=if h < 1\/1000000 < h\/p < -999999\/999999 < p then 2 else 0
def q0j(h p n:Int):Int×Int:=if q7b h p≠0\/n < 0\/1000000000000 < n then (0,2) else q0b n 1000000000000000 (h * (1000000 + p)) true
theorem qeb{h p:Int} : cP 272 #[.agg #[ii h,ii p]] w λe w'=>e = .returned (ii (q7b h p))/\bW w w':=by
 refine inC ?_;go_in;go_wp2
 all_goals (go_returns;refine⟨q0w ?_,zv⟩;unfold q7b;split <;> first | rfl | omega)
theorem qm3{h p:Int} (h0:q7b h p=0):1<=h/\h<=1000000 /\ -999999<=p/\p<=999999:=by
 unfold q7b at h0;split at h0
 .simp at h0
 .omega
theorem q6t{h p n:Int} (hn:i64 n):cP 203 #[.agg #[ii h,ii p],ii n] w λe w'=>e = .returned (.tuple #[ii (q0j h p n).1,ii (q0j h p n).2])/\bW w w':=by
 have hC:=λw=>qeb (w:=w) (h:=h) (p:=p);have hE:q0j h p n=q0j h p n:=rfl
 conv at hE=>rhs;unfold q0j
 generalize q0j h p n=R at hE ⊢;by_cases q:q7b h p=0
 .obtain⟨h1,h2,p1,p2⟩:=qm3 q;have a1:wrap64 (1000000 + p)=1000000 + p:=by unfold wrap64;omega
  have b1:h * (1000000 + p)<=1000000 * 1999999:=Int.mul_le_mul h2 zo zo zo;have b2:0<=h * (1000000 + p):=Int.mul_nonneg zo zo;have a2:wrap64 (h * (1000000 + p))=h * (1000000 + p):=by unfold wrap64;omega
  have hM:=λw=>q3k (w:=w) (up:=true) hn (show i64 1000000000000000 by unfold i64;omega) (show i64 (h * (1000000 + p)) by unfold i64;omega);generalize q0b n 1000000000000000 (h * (1000000 + p)) true=M at *;rw[q]at hC hE
  have HE:=zhd hE;clear hE b1 b2 q;refine inC ?_;go_in;go_wp2_with (first | (go_at_call 272;refine(up (W:=w) (hC _) zv).mono ?_;rintro _ w1 ⟨rfl,hb,hs,hc,hf,hl,hB⟩) | (go_at_call 273;refine(up (W:=w) (hM _) zv).mono ?_;rintro _ w1 ⟨rfl,hb,hs,hc,hf,hl,hB⟩))
  all_goals (go_returns;refine⟨qpy ?_,zv⟩;rw[HE.out];split <;> first | rfl | omega)
 .have q':(q7b h p != 0)=true:=by simpa using q
  have HE:=zhd (hE.trans (if_pos (.inl q)));clear hE;refine inC ?_;go_in;go_wp2_with (first | (go_at_call 272;refine(up (W:=w) (hC _) zv).mono ?_;rintro _ w1 ⟨rfl,hb,hs,hc,hf,hl,hB⟩))
  all_goals (go_returns;exact⟨qpy HE.out,zv⟩)
def qlg(h p ns n:Int):Bool:=(q0j h p n).2 == 0 && decide ((q0j h p n).1<=ns)
theorem qm4{h p n ns:Int} (hn:i64 n):cP 374 #[.agg #[ii h,ii p],ii n,ii ns] w λe w'=>e = .returned (.bool (qlg h p ns n))/\bW w w':=by
 have hO:=λw=>q6t (w:=w) (h:=h) (p:=p) hn;unfold qlg;generalize q0j h p n=R at *;refine inC ?_;go_in;go_wp2_with (go_at_call 203;refine(up (W:=w) (hO _) zv).mono ?_;rintro _ w1 ⟨rfl,hb,hs,hc,hf,hl,hB⟩)
 all_goals (go_returns;exact⟨by first | rfl | simp_all,zv⟩)
theorem qm5{h p n ns:Int} {g k:Nat} (kg:Blk W g 369 #[ii h,ii p]) (kk:Blk W k 3 #[ii ns]) (hw:bW W w) (hn:i64 n):cP 373 #[ii n,pp g,pp k] w λe w'=>e = .returned (.bool (qlg h p ns n))/\bW W w'/\W.heap.size<=w'.heap.size:=by
 have c0:=(kg.keep hw).cell 0;have c1:=(kg.keep hw).cell 1;have c2:=(kk.keep hw).cell 0;refine inC ?_;go_in;go_wp2_with (go_at_call 374;refine(qm4 hn).mono ?_;rintro _ w1 ⟨rfl,hb⟩);go_returns;exact⟨rfl,bt hw hb,(bt hw hb).size⟩
def q6u(p:Int->Bool):Nat->Int->Int->Int
 | 0,lo,_=>lo
 | f + 1,lo,hi=>if lo < hi then if p (lo + (hi - lo + 1) / 2) then q6u p f (lo + (hi - lo + 1) / 2) hi else q6u p f lo (lo + (hi - lo + 1) / 2 - 1) else lo
theorem qqe{h p ns:Int} {g k:Nat} (kg:Blk W g 369 #[ii h,ii p]) (kk:Blk W k 3 #[ii ns]) (hw:bW W w):cP 372 #[ii 0,ii 1000000000000,.func (.func 373) #[] #[pp g,pp k]] w λe w'=>e = .returned (ii (q6u (qlg h p ns) 40 (-1) 1000000000000))/\bW W w'/\W.heap.size<=w'.heap.size:=by
 generalize hR:q6u (qlg h p ns) 40 (-1) 1000000000000=R;have HR:=zhd hR;clear hR;refine inC ?_;go_in;go_wp2_with fail;refine wp_scope_straight ?_;go_wp2_with fail;refine wp_label ?_;go_wp2_with fail;go_loopw [7,8] (λlo hi wr=>∃ (l u:Int) (f:Nat),lo = .int .i64 l/\hi = .int .i64 u /\ -1<=l/\l<=1000000000000 /\ -1<=u/\u<=1000000000000/\Hid (u - l < 2 ^ f/\q6u (qlg h p ns) f l u=R)/\bW W wr) (λlo hi _=>(intOf hi - intOf lo).toNat)
 case atStart=>exact⟨-1,1000000000000,40,rfl,rfl,zo,zo,zo,zo,⟨zd,HR.out⟩,hw⟩
 case round =>
  obtain⟨l,u,f,rfl,rfl,h1,h2,h3,h4,hf,h5⟩:=hrel;by_cases q:l < u
  .have e1:wrap64 (u - l)=u - l:=by unfold wrap64;omega
   have e2:wrap64 (u - l + 1)=u - l + 1:=by unfold wrap64;omega
   have e3:Int.tdiv (u - l + 1) 2=(u - l + 1) / 2:=Int.tdiv_eq_ediv_of_nonneg zo;have e4:wrap64 (l + (u - l + 1) / 2)=l + (u - l + 1) / 2:=by unfold wrap64;omega
   have e5:wrap64 (l + (u - l + 1) / 2 - 1)=l + (u - l + 1) / 2 - 1:=by unfold wrap64;omega
   have hF:=qm5 (n:=l + (u - l + 1) / 2) kg kk h5 (by unfold i64;omega);obtain⟨f,rfl⟩:∃ f',f=f' + 1:=by
    cases f with
    | zero=>have:=hf.out.1;simp at this;omega
    | succ f=>exact⟨f,rfl⟩
   obtain⟨h6,h0⟩:=hf.out;rw[Int.pow_succ]at h6
   unfold q6u at h0;rw[if_pos q]at h0
   generalize hb:qlg h p ns (l + (u - l + 1) / 2)=b at hF h0;cases b with
   | true =>
    have HF:=zhd (show u - (l + (u - l + 1) / 2) < 2 ^ f/\q6u (qlg h p ns) f (l + (u - l + 1) / 2) u=R from⟨zo,h0⟩);clear hf h6 h0 hb;go_wp2_with (go_at_call 373;refine hF.mono ?_;rintro _ w1 ⟨rfl,hb,hs⟩);exact⟨⟨_,_,f,rfl,rfl,zo,zo,zo,zo,HF,hb⟩,by simp[intOf];omega⟩
   | false =>
    have HF:=zhd (show l + (u - l + 1) / 2 - 1 - l < 2 ^ f/\q6u (qlg h p ns) f l (l + (u - l + 1) / 2 - 1)=R from⟨zo,h0⟩);clear hf h6 h0 hb;go_wp2_with (go_at_call 373;refine hF.mono ?_;rintro _ w1 ⟨rfl,hb,hs⟩);exact⟨⟨_,_,f,rfl,rfl,zo,zo,zo,zo,HF,hb⟩,by simp[intOf];omega⟩
  .have HF:Hid (l=R):=by
    have:=hf.out.2;cases f with
    | zero=>exact this
    | succ f=>unfold q6u at this;rwa [if_neg q]at this
   clear hf;go_wp2_with fail;go_ret;exact⟨congrArg _ (congrArg _ HF.out),h5,h5.size⟩
def q55(h p ns:Int):Int×Int:=if q7b h p≠0\/ns < 0 then (0,2) else (q6u (qlg h p ns) 40 (-1) 1000000000000,0)
theorem qjd{h p ns:Int} : cP 319 #[.agg #[ii h,ii p],ii ns] w λe w'=>e = .returned (.tuple #[ii (q55 h p ns).1,ii (q55 h p ns).2])/\bW w w':=by
 have kg:=(Blk.new w 369 #[ii h,ii p]).alloc (.cells #[ii ns] 3);have kk:=Blk.new (w.alloc (.cells #[ii h,ii p] 369)) 3 #[ii ns];have h0:=(zA w (.cells #[ii h,ii p] 369)).alloc zp (.cells #[ii ns] 3);rw[World.size_alloc]at kk
 have hC:=λw=>qeb (w:=w) (h:=h) (p:=p);have hL:=λw' hb=>qqe (w:=w') kg kk hb;have hE:q55 h p ns=q55 h p ns:=rfl
 conv at hE=>rhs;unfold q55
 generalize q55 h p ns=S at hE ⊢;generalize q6u (qlg h p ns) 40 (-1) 1000000000000=R at *;generalize hc:q7b h p=c at *;have HE:=zhd hE;clear hE;refine inC ?_;go_in;go_wp2_with fail;generalize (w.alloc (.cells #[ii h,ii p] 369)).alloc (.cells #[ii ns] 3)=W at *;refine(up (W:=W) (hC _) bR).mono ?_;rintro _ w1 ⟨rfl,hb,-,-,-,-,-⟩;have n0:=(kk.keep hb).cell 0;clear hc;go_wp2_with (go_at_call 372;refine(hL _ hb).mono ?_;rintro _ w2 ⟨rfl,h1,hs2⟩)
 all_goals (go_returns;refine⟨qpy ?_,by first | exact bt h0 h1 | exact bt h0 hb⟩;rw[HE.out];split <;> first | rfl | omega | simp_all)
def qje(h b ns:Int):Int×Int:=if b < 0\/100000 < b then (0,2) else q55 h (-b) ns
theorem qqf{h b ns:Int} : cP 276 #[ii h,ii b,ii ns] w λe w'=>e = .returned (.tuple #[ii (qje h b ns).1,ii (qje h b ns).2])/\bW w w':=by
 have hC:=λw=>qjd (w:=w) (h:=h) (p := -b) (ns:=ns);unfold qje;generalize q55 h (-b) ns=R at *;by_cases q:b < 0\/100000 < b
 .rw[if_pos q];refine inC ?_;go_in;go_wp2_with fail
  all_goals (go_returns;exact⟨rfl,zv⟩)
 .rw[if_neg q];have hb:wrap64 (-b) = -b:=by unfold wrap64;omega
  refine inC ?_;go_in;go_wp2_with (go_at_call 319;refine(up (W:=w) (hC _) zv).mono ?_;rintro _ w1 ⟨rfl,hb,hs,hc,hf,hl,hB⟩)
  all_goals (go_returns;exact⟨rfl,zv⟩)
end Go.Proofs.YtncfcbohiodnnaaGreat
