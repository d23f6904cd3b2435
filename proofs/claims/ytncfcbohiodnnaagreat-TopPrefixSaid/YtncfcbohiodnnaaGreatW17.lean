/- Parts of this seat's claims. -/
import Derived.Test.YtncfcbohiodnnaaGreatW16
set_option maxRecDepth 100000
set_option maxHeartbeats 6400000
namespace Go.Proofs.YtncfcbohiodnnaaGreat
open Go.RowKit
variable{w w' W wa wo W':World} {c n pt r B j b m mb q base cap id B0:Nat} {A:Option Addr} {a code what:Int} {cs:Array Value}
theorem qaq(b:Int->Bool):∀ (f:Nat) (l u:Int),-1<=l->l<=1000000000000->u<=1000000000000 -> -1<=q6u b f l u/\q6u b f l u<=1000000000000
 | 0,l,u,h1,h2,_=>⟨h1,h2⟩
 | f + 1,l,u,h1,h2,h3=>by
  unfold q6u;split
  .split
   .exact qaq b f _ _ zo zo h3
   .exact qaq b f _ _ h1 h2 zo
  .exact⟨h1,h2⟩
theorem qix(p:Pw) (x:Np) (now en:Int):i64 (q5h p x now en):=by
 unfold q5h qje q55;split
 .unfold i64;omega
 .split
  .show i64 0;unfold i64;omega
  .split
   .show i64 0;unfold i64;omega
   .have:=qaq (qlg p.slow (-p.ppm) (q5f x now en)) 40 (-1) 1000000000000 zo zo zo;show i64 (q6u _ _ _ _);unfold i64;omega
theorem qfw{p:Pw} {now en:Int} (hp:q1y.ok w p) (hj:j < p.naps.l.length):cP 271 #[.agg (Pw.lw p),ii j,ii now,ii en] w λe w'=>e = .returned (ii (q31 p j now en))/\bW w w':=by
 have b0:bW w (w.alloc (.cells (Pw.lw p) 28)):=zv;have kb:=Blk.new w 28 (Pw.lw p);have hE:q31 p j now en=wrap64 (wrap64 (wrap64 (p.change * wrap64 ((atD Np0 p.naps.l j).enter + (atD Np0 p.naps.l j).wake)) + wrap64 ((atD Np0 p.naps.l j).power * q6b p (atD Np0 p.naps.l j) now en)) + wrap64 (p.idle * wrap64 (q5f (atD Np0 p.naps.l j) now en - q6b p (atD Np0 p.naps.l j) now en))):=rfl;obtain⟨nb,nf,hA,hb,h0,h1,h2⟩:=qyn (q1y.keep hp b0) hj;have HA:=zhd hA;have HE:=zhd hE;clear hA hE;refine inC ?_;go_in;go_upto_region 1 with fail;generalize w.alloc (.cells (Pw.lw p) 28)=w1 at *;obtain⟨g,hg⟩:∃ g,g=w.heap.size:=⟨_,rfl⟩
 rw[<- hg]at kb ⊢
 have HG:=zhd hg;clear hg;obtain⟨kc,lg⟩:=kb.cl;simp only[Pw.lw,HA.out]at kc;generalize atD Np0 p.naps.l j=x at *;go_upto_region 2 with fail;have kx:=Blk.new w1 219 (Np.lw x);have b1:bW w1 (w1.alloc (.cells (Np.lw x) 219)):=zv;replace kb:=kb.keep b1;have B1:=bt b0 b1;generalize w1.alloc (.cells (Np.lw x) 219)=w2 at *;obtain⟨gx,h8⟩:∃ gx,gx=w1.heap.size:=⟨_,rfl⟩
 rw[<- h8]at kx ⊢
 have HB:=zhd B1;clear h8 kc lg b0 b1 B1 h0 h1 h2 hb;obtain⟨kc,lg⟩:=kb.cl;obtain⟨xc,lx⟩:=kx.cl;simp only[Pw.lw,HA.out]at kc;have hN:=λw'=>qid (w:=w') (p:=p) (x:=x) (now:=now) (en:=en);simp only[Pw.lw,HA.out]at hN;have HN:=zhd hN;have h6:=λw'=>q6t (w:=w') (h:=p.slow) (p:=0) (n:=q5h p x now en) (qix _ _ _ _);have h9:=zhd h6;have h5:q6b p x now en=if (q0j p.slow 0 (q5h p x now en)).2≠0\/q5f x now en < (q0j p.slow 0 (q5h p x now en)).1 then q5f x now en else (q0j p.slow 0 (q5h p x now en)).1:=rfl;have h4:=zhd h5;clear hN h6 h5;have hR:=λw'=>qf6 (w:=w') (x:=x) (now:=now) (en:=en);generalize q5f x now en=rm at *;generalize q5h p x now en=cn at *;generalize q0j p.slow 0 cn=el at *;generalize q6b p x now en=sl at *;go_wp2_with (first
  | ((go_at_call 275;refine(hR _).mono ?_;rintro _ w3 ⟨rfl,h3⟩);have kc:=((kb.keep h3).cell);have lg:=(kb.keep h3).lt;obtain⟨xc,lx⟩:=(kx.keep h3).cl;simp only[Pw.lw,HA.out]at kc)
  | (((with_reducible refine qe4 [(7,0),(0,2)] ?_);(try simp only[q03,tkO,dpO]);(repeat(go_big_quiet_step (fail)));refine qwW (λK' hK'=>?_);go_wp2_with fail;go_at_call 207;refine(HN.out _).mono ?_;rintro _ w4 ⟨rfl,h7⟩;refine zGB (fO (bt bR.drew h7) _) ?_;clear hK' K';intro K' hK';go_wp2_with fail;go_at_call 203;refine(h9.out _).mono ?_;rintro _ w5 ⟨rfl,ha⟩;refine zE ?_;clear hK' K');have B5:=bt (bt bR.drew h7) ha;have kc:=((kb.keep (bt h3 B5)).cell);have lg:=(kb.keep (bt h3 B5)).lt;obtain⟨xc,lx⟩:=(kx.keep (bt h3 B5)).cl))
 all_goals go_returns
 all_goals refine⟨q0w ?_,bt HB.out (bt h3 B5)⟩
 all_goals rw[HE.out]
 .rw[show sl=rm by rw[h4.out,if_pos (.inr (by assumption))],Int.sub_self,show wrap64 0=0 by unfold wrap64;omega,Int.mul_zero,show wrap64 0=0 by unfold wrap64;omega,Int.add_zero]
 .rw[show sl=el.1 by rw[h4.out,if_neg (by rintro(h | h);exact h (by assumption);omega)]]
 .rw[show sl=rm by rw[h4.out,if_pos (.inl (by assumption))],Int.sub_self,show wrap64 0=0 by unfold wrap64;omega,Int.mul_zero,show wrap64 0=0 by unfold wrap64;omega,Int.add_zero]
theorem qsj{l:List Int} (h:SlI w A n c l) (hn:0 < n) {k:Int} (h0:0<=k):cP 201 #[ii k,.slice A n c] w λe w'=>e = .returned (ii (at0 l ((k % n).toNat)))/\w=w':=by
 obtain⟨j,hj⟩:∃ j:Nat,k % (n:Int)=j:=⟨(k % (n:Int)).toNat,by have:=Int.emod_nonneg k (show(n:Int)≠0 by omega);omega⟩
 have h1:j < n:=by have:=Int.emod_lt_of_pos k (show(0:Int) < n by omega);omega
 obtain⟨b,f,rfl,hb,hc⟩:=h.at_ h1;rw[hj,Int.toNat_natCast];have hn0:¬ (n:Int)=0:=zo;refine inC ?_;go_in;go_wp2_with fail;go_returns;exact⟨rfl,rfl⟩
theorem ql0{p:Pw} {now en:Int} (hp:q1y.ok wa p) (hwa:bW wa w) {gp gn ge:Nat} (kp:Blk w gp 28 (Pw.lw p)) (kn:Blk w gn 3 #[ii now]) (ke:Blk w ge 3 #[ii en]) {a b:Nat} (ha:a < p.naps.l.length) (hb:b < p.naps.l.length) :
  cP 270 #[ii a,ii b,pp gp,pp gn,pp ge] w λe w'=>e = .returned (ii (wrap64 (q31 p a now en - q31 p b now en)))/\bW w w':=by
 have hC:=λ(w':World) (h:bW w w') (j:Nat) (hj:j < p.naps.l.length)=>qfw (w:=w') (now:=now) (en:=en) (q1y.keep hp (bt hwa h)) hj;have HC:=zhd hC;have HA:=zhd (And.intro ha hb);clear hC ha hb;have cp:=kp.cell;have cn:=kn.cell;have ce:=ke.cell;have lp:=kp.lt;have ln:=kn.lt;have le':=ke.lt;refine inC ?_;go_in;go_wp2_with (((with_reducible refine qe4 [(4,0),(4,2)] ?_);(try simp only[q03,tkO,dpO]);(repeat(go_big_quiet_step (fail)));refine qwW (λK' hK'=>?_);go_wp2_with fail;go_at_call 271;refine(HC.out _ bR.drew _ HA.out.1).mono ?_;rintro _ w1 ⟨rfl,h0⟩;refine zGB (fO (bt bR.drew h0) _) ?_;clear hK' K';intro K' hK';go_wp2_with fail;go_at_call 271;refine(HC.out _ (bt bR.drew h0) _ HA.out.2).mono ?_;rintro _ w2 ⟨rfl,h1⟩;refine zE ?_;clear hK' K'));go_returns;exact⟨rfl,bt (bt bR.drew h0) h1⟩
theorem qfx{p:Pw} {now en:Int} (h:a ∈ q6l p now en):∃ j:Nat,a=j/\j < p.naps.l.length:=by
 unfold q6l at h;obtain⟨j,hj,rfl⟩:=List.mem_map.1 h;rw[List.mem_filter,List.mem_range]at hj
 exact⟨j,rfl,hj.1⟩
theorem qoo{c:Int->Int->Int} {l:List Int} (h:0 < l.length):qf0 c l ∈ l:=by
 cases l with
 | nil=>simp at h
 | cons x l=>rw[qbu];exact qda c l x
theorem qi2.sl{l:List Int} (h:Own w 3 1 A l.length c (l.map (.int .i64))) (hl:∀ x ∈ l,i64 x):SlI w A l.length c l:=⟨h.sl,rfl,hl⟩
theorem qz9(a b:Int) (k1 k2 k3:Value) (w:World):Sem.run Tryz.prog (callFunc 270 #[ii a,ii b,k1,k2,k3]) w = .ok (.enter 270 #[ii a,ii b,k1,k2,k3]) w:=zk
theorem qop{p:Pw} {now en:Int} (hp:q1y.ok w p) (hn:p.naps.l.length<=100000):cP 200 #[.agg (Pw.lw p),ii now,ii en] w λe w'=>e = .returned (ii (qf3 p now en))/\bW w w':=by
 have b0:bW w (((w.alloc (.cells (Pw.lw p) 28)).alloc (.cells #[ii now] 3)).alloc (.cells #[ii en] 3)):=zv;have kp:=((Blk.new w 28 (Pw.lw p)).alloc (.cells #[ii now] 3)).alloc (.cells #[ii en] 3);have kn:=(Blk.new (w.alloc (.cells (Pw.lw p) 28)) 3 #[ii now]).alloc (.cells #[ii en] 3);have ke:=Blk.new ((w.alloc (.cells (Pw.lw p) 28)).alloc (.cells #[ii now] 3)) 3 #[ii en];rw[World.size_alloc]at kn ke
 rw[World.size_alloc]at ke
 refine inC ?_;go_in;go_upto_region 1 with fail;generalize (((w.alloc (.cells (Pw.lw p) 28)).alloc (.cells #[ii now] 3)).alloc (.cells #[ii en] 3))=w1 at *;obtain⟨gp,hf⟩:∃ gp,gp=w.heap.size:=⟨_,rfl⟩
 rw[<- hf]at kp kn ke ⊢
 clear hf;have hE:qf3 p now en=if (q6l p now en).length=0\/1099511627776 < wrap64 (en - now) then -1 else if wrap64 (p.idle * wrap64 (en - now))<=q31 p (qf0 (λa b=>wrap64 (q31 p a now en - q31 p b now en)) (q6l p now en)) now en then -1 else qf0 (λa b=>wrap64 (q31 p a now en - q31 p b now en)) (q6l p now en):=rfl;have HE:=zhd hE;clear hE;have h6:=qie (w:=w1) (now:=now) (en:=en) (q1y.keep hp b0) hn;have h1:=zhd (λa h=>qfx (p:=p) (now:=now) (en:=en) (a:=a) h);generalize q6l p now en=L at *;have HP:=zhd hp;have HB:=zhd b0;have HN:=zhd hn;clear hp b0 hn;have cp:=kp.cell;have cn:=kn.cell;have ce:=ke.cell;have lp:=kp.lt;have ln:=kn.lt;have h4:=ke.lt;cases L with
 | nil =>
  have h3:=zhd (HE.out.trans (if_pos (.inl rfl)));clear HE h1;go_wp2_with ((go_at_call 202;refine(h6).mono ?_;rintro _ w2 ⟨A,c,rfl,hO,h5,h0⟩);have cp:=(kp.keep h0).cell;have cn:=(kn.keep h0).cell;have ce:=(ke.keep h0).cell;have lp:=(kp.keep h0).lt;have ln:=(kn.keep h0).lt;have h4:=(ke.keep h0).lt);go_returns;exact⟨q0w h3.out.symm,bt HB.out h0⟩
 | cons x l =>
  by_cases q:1099511627776 < wrap64 (en - now)
  .have h3:=zhd (HE.out.trans (if_pos (.inr q)));have b1:decide (1099511627776 < wrap64 (en - now))=true:=decide_eq_true q;clear HE h1 q;go_wp2_with ((go_at_call 202;refine(h6).mono ?_;rintro _ w2 ⟨A,c,rfl,hO,h5,h0⟩);have cp:=(kp.keep h0).cell;have cn:=(kn.keep h0).cell;have ce:=(ke.keep h0).cell;have lp:=(kp.keep h0).lt;have ln:=(kn.keep h0).lt;have h4:=(ke.keep h0).lt);go_returns;exact⟨q0w h3.out.symm,bt HB.out h0⟩
  .have hE:=HE.out.trans (if_neg (by rintro(h | h);simp at h;exact q h));have b1:decide (1099511627776 < wrap64 (en - now))=false:=decide_eq_false q;obtain⟨bj,h7,he⟩:=h1.out _ (qoo (c:=λa b=>wrap64 (q31 p a now en - q31 p b now en)) (l:=x :: l) zp);rw[h7]at hE
   have h3:=zhd hE;have HJ:=zhd (And.intro h7 he);clear hE HE q h7 he;go_upto_region 4 with ((go_at_call 202;refine(h6).mono ?_;rintro _ w2 ⟨A,c,rfl,hO,h5,h0⟩);have cp:=(kp.keep h0).cell;have cn:=(kn.keep h0).cell;have ce:=(ke.keep h0).cell;have lp:=(kp.keep h0).lt;have ln:=(kn.keep h0).lt;have h4:=(ke.keep h0).lt)
   have hi:∀ y ∈ x :: l,i64 y:=λy hy=>by
    obtain⟨j,rfl,hj⟩:=h1.out y hy;have:=HN.out;unfold i64;omega
   have hc:=kp.keep h0;have h9:=kn.keep h0;have h8:=ke.keep h0;have B2:=bt HB.out h0;have hM:=qf5 (qi2.sl hO hi) (id:=270) (k1:=pp gp) (k2:=pp (gp + 1)) (k3:=pp (gp + 1 + 1)) (cmp:=λa b=>wrap64 (q31 p a now en - q31 p b now en)) (λw a b=>qz9 a b _ _ _ w) (λw' a b ha hb hw=>by
    obtain⟨ja,rfl,hh⟩:=h1.out a ha;obtain⟨jb,rfl,hk⟩:=h1.out b hb;exact ql0 HP.out (bt B2 hw) (hc.keep hw) (h9.keep hw) (h8.keep hw) hh hk)
   rw[HJ.out.1]at hM
   have HM:=zhd hM;have hg:=zhd B2;have HX:=zhd (λ(w':World) (h:bW w2 w')=>qfw (w:=w') (now:=now) (en:=en) (q1y.keep HP.out (bt B2 h)) HJ.out.2);clear hM B2 hi hO h5 h0 kp kn ke;generalize q31 p bj now en=z at *;have HU:Hid (∀ (b:Bool),decide (wrap64 (p.idle * wrap64 (en - now))<=z)=b->qf3 p now en=if b=true then -1 else (bj:Int)):=λb hb=>by
    rw[h3.out];subst hb;by_cases h:wrap64 (p.idle * wrap64 (en - now))<=z <;> simp[h]
   clear h3;go_wp2_with (first
    | ((go_at_call 269;refine(HM.out).mono ?_;rintro _ w3 ⟨rfl,h2⟩);have cp:=(hc.keep h2).cell;have cn:=(h9.keep h2).cell;have ce:=(h8.keep h2).cell;have lp:=(hc.keep h2).lt;have ln:=(h9.keep h2).lt;have h4:=(h8.keep h2).lt)
    | ((with_reducible refine qe4 [(4,0)] ?_);(try simp only[q03,tkO,dpO]);(repeat(go_big_quiet_step (fail)));refine qwW (λK' hK'=>?_);go_wp2_with fail;go_at_call 271;refine(HX.out _ (bt h2 bR.drew)).mono ?_;rintro _ w4 ⟨rfl,hd⟩;refine zGZ (fO (bt bR.drew hd) _) ?_;clear hK' K'))
   all_goals go_returns
   all_goals refine⟨q0w ?_,bt hg.out (bt h2 (bt bR.drew hd))⟩
   .exact((HU.out true (decide_eq_true (by assumption))).trans (if_pos rfl)).symm
   .exact((HU.out false (decide_eq_false zo)).trans (if_neg zp)).symm
theorem qar{t ty e:TypeId} {i:TypeInfo} (ht:Tryz.prog.underlying t=some (.slice e)) (hi:Tryz.prog.info? e=some i) (A:Option Addr) {n c:Nat} (d:Nat) (hc:n<=c):(Builtin.append_ #[t,t] ty #[.slice A n c,.slice none 0 d]).run Tryz.prog w = .ok (.slice A n c) w:=by
 cases A <;> simp[Builtin.append_,run_underlying ht,sizeOf,typeInfo,hi,Builtin.lenOf,Builtin.firstCells,hc,storeCells]
theorem Own.cap_{e:TypeId} {sz:Nat} {xs:List Value} (h:Own w e sz A n c xs):n<=c:=h.sl.2.1
theorem qas{ty e:TypeId} {sz bytes:Nat} (E:ElemOf ty e sz bytes) {o:Oper} {a:Act} {K:Act->World->Prop} {Q:Exit->Act->World->Prop} (w:World) (s x:Operand)
  (ho:o.op = .call { callee := .builtin .append,args:=#[s,x],argTypes:=#[ty,ty] })
  {A:Option Addr} {n c:Nat} {xs:List Value} (hs:a.eval s = .slice A n c) (hown:Own w e sz A n c xs) {B:Option Addr} {m d:Nat} {ys:List Value}
  (hx:a.eval x = .slice B m d) (hy:Sl w B m d sz ys) (h1:∀ u ∈ ys,u.oneCell'=true) (hn:n + m<=100000000000)
  (h:∀ A' c' w',Own w' e sz A' (n + m) c' (xs ++ ys)->Fr (q02 A) w w'->(∀ k,q02 A' k->q02 A k\/w.heap.size<=k)->K (a.put o.dst (.slice A' (n + m) c')) w') :
  o.wp Tryz.prog a w K Q:=by
 obtain⟨y1,y2,y3,y4,y5⟩:=hy;obtain⟨i,z,e1,e2,e3,e4,e5⟩:=E.i;unfold Oper.wp execOp;simp only[ho,resolve,invoke,builtin,Sem.run_bind,Sem.run_pure,Result.andThen_ok,List.map_toArray,List.map_cons,List.map_nil,hs,hx];cases B with
 | none =>
  obtain rfl:m=0:=by have:=y4 rfl;omega
  obtain rfl:ys = []:=List.length_eq_zero_iff.1 zo;rw[qar E.u e1 A d hown.cap_];exact h A c w (by simpa using hown) (Fr.refl _ w) λk hk => .inl hk
 | some ad =>
  obtain⟨v',w',hr,a1,a2,_,a3⟩:=run_append_own_at (P:=Tryz.prog) w 0 ty o.type e i z sz bytes E.u e1 e2 e3 e4 e5 E.p (.slice A n c) n xs hown ad m d ys y1 (λj u hu=>by
   by_cases hm:0 < m
   .obtain⟨b,f,e6,_,h7⟩:=y5 hm;cases e6;rw[q11];exact h7 j u hu
   .obtain rfl:m=0:=zo;obtain rfl:ys = []:=List.length_eq_zero_iff.1 zo;simp at hu) h1 (by unfold maxLen;omega) (by
     have:=E.b;have h2:=Nat.mul_le_mul hn this;omega) (Nat.zero_le _)
  rw[hr];obtain⟨A',c',rfl,a4,_⟩:=Own.of a1;refine h A' c' w' a4 ⟨a2.os,a2.tape,a2.output,a2.size,λk hk hn=>a2.block k hk λq=>hn (hown.blk q.symm)⟩ λk hk=>?_;cases hk;rcases a3 with a3 | a3
  .exact .inl (hown.blk a3.symm)
  .cases a3;exact .inr nL
theorem qwc{ty e:TypeId} {sz bytes:Nat} (E:ElemOf ty e sz bytes) {ops:Array Oper} {rest:List Oper} {o:Oper} {a:Act} {Q:Exit->Act->World->Prop} (w:World) (hgd:o.guard=none) (s x:Operand)
  (ho:o.op = .call { callee := .builtin .append,args:=#[s,x],argTypes:=#[ty,ty] })
  {A:Option Addr} {n c:Nat} {xs:List Value} (hs:a.eval s = .slice A n c) (hown:Own w e sz A n c xs) {B:Option Addr} {m d:Nat} {ys:List Value}
  (hx:a.eval x = .slice B m d) (hy:Sl w B m d sz ys) (h1:∀ u ∈ ys,u.oneCell'=true) (hn:n + m<=100000000000)
  (h:∀ A' c' w',Own w' e sz A' (n + m) c' (xs ++ ys)->Fr (q02 A) w w'->(∀ k,q02 A' k->q02 A k\/w.heap.size<=k)->wpList Tryz.prog ops Q rest (a.put o.dst (.slice A' (n + m) c')) w') :
  wpList Tryz.prog ops Q (o :: rest) a w :=
 wpList_plain hgd λ_K hK=>qas E w s x ho hs hown hx hy h1 hn λA' c' w' b1 b2 b3=>hK _ _ (h A' c' w' b1 b2 b3)
theorem Own.of_blk{g:Nat} {e:TypeId} (k:Blk w g e cs) (hn:cs.size=n) (h:n<=maxLen):Own w e 1 (some ⟨g,0,none⟩) n n cs.toList :=
 ⟨by simp[hn],.inr ⟨g,n,cs,rfl,Nat.zero_le _,k,nL,h,by simp[hn],by rw[Nat.mul_one,<- hn];exact List.take_of_length_le zp⟩⟩
theorem qos{p:Pw} {now en ch:Int} (hp:q1y.ok w p) (hn:p.naps.l.length<=100000) (hch:i64 ch):cP 133 #[.agg (Pw.lw p),ii now,ii en,ii ch] w λe w'=>e = .returned (ii (q37 p now en ch))/\bW w w':=by
 have b0:bW w (w.alloc (.cells (Pw.lw p) 28)):=zv;have kp:=Blk.new w 28 (Pw.lw p);have hE:q37 p now en ch=if ch < 1 then qf3 p now en else at0 (-1 :: q6l p now en) (((ch - 1) % ((q6l p now en).length + 1:Nat)).toNat):=rfl;have HE:=zhd hE;clear hE;refine inC ?_;go_in;go_upto_region 1 with fail;have h3:=qop (w:=w.alloc (.cells (Pw.lw p) 28)) (now:=now) (en:=en) (q1y.keep hp b0) hn;have h2:=zhd (λ(w':World) (h:bW w w')=>qie (w:=w') (now:=now) (en:=en) (q1y.keep hp h) hn);generalize w.alloc (.cells (Pw.lw p) 28)=w1 at *;obtain⟨gp,h4⟩:∃ gp,gp=w.heap.size:=⟨_,rfl⟩
 rw[<- h4]at kp ⊢
 clear h4;obtain⟨cp,lp⟩:=kp.cl;by_cases q:ch < 1
 .have h1:=zhd (HE.out.trans (if_pos q));have b1:decide (ch < 1)=true:=decide_eq_true q;clear HE q hp hn hch;have HB:=zhd b0;clear b0;go_wp2_with (go_at_call 200;refine(h3).mono ?_;rintro _ w2 ⟨rfl,h0⟩);go_returns;exact⟨q0w h1.out.symm,bt HB.out h0⟩
 .have h1:=zhd (HE.out.trans (if_neg q));have b1:decide (ch < 1)=false:=decide_eq_false q;have HB:=zhd b0;have hw:wrap64 (ch - 1)=ch - 1:=by unfold i64 at hch;unfold wrap64;omega
  have HQ:=zhd q;have HN:=zhd hn;clear HE q hp hn hch b0 h3;have h6:Hid (1 + (q6l p now en).length<=100000000000):=by
   have:=qf7 p now en p.naps.l.length;have:=HN.out;show 1 + (qbg p now en p.naps.l.length).length<=_;omega
  have h5:Hid (∀ y ∈ (-1:Int) :: q6l p now en,i64 y):=λy hy=>by
   rcases List.mem_cons.1 hy with rfl | hy
   .simp[i64]
   .obtain⟨j,rfl,hj⟩:=qfx hy;have:=HN.out;unfold i64;omega
  have HZ:Hid (0<=ch - 1):=by have:=HQ.out;show _<=_;omega
  go_upto_region 3 with fail;have ba:bW w1 (w1.alloc (.cells #[ii (-1)] 3)):=zv;have kn:=Blk.new w1 3 #[ii (-1)];have hA:=h2.out _ (bt HB.out ba);have BA:=zhd ba;clear h2 ba;generalize q6l p now en=L at *;go_wp2_with (first
   | ((go_at_call 202;refine(hA).mono ?_;rintro _ w2 ⟨A,c,rfl,hO,hAb,h0⟩);have h7:=kn.keep h0)
   | (at_builtin;refine qwc q27 w2 zr _ _ zr zr (Own.of_blk (n:=1) h7 rfl zd) zr hO.sl (λu hu=>by obtain⟨_,_,rfl⟩:=List.mem_map.1 hu;rfl) h6.out ?_;intro A' c' w5 own5 hf5 hat5)
   | (go_at_call 201;refine(qsj (n:=1 + L.length) (l := -1 :: L) ⟨own5.sl,by simp[Nat.add_comm],h5.out⟩ zo HZ.out).mono ?_;rintro _ _ ⟨rfl,rfl⟩))
  go_returns;refine⟨q0w ?_,(bt HB.out (bt BA.out h0)).trans (hf5.below (λk hk hs=>by have:=HB.out.size;cases hs;omega) (bt HB.out (bt BA.out h0)).size)⟩;rw[h1.out,show((L.length + 1:Nat):Int)=1 + (L.length:Int) by omega]
structure Gx where
 g:Nat
 p:Nat
 m:Nat
 r:Nat
 fb:Nat
 nb:Nat
def GS(x:Gx):Nat->Prop:=λk=>k=x.g\/k=x.p\/k=x.m\/k=x.r\/k=x.nb
structure Gn(W w0 w:World) (x:Gx) (c:Pw) (s:Gv):Prop where
 b:bW W w
 F:Fr (GS x) w0 w
 hc:q1y.ok W c
 k:Blk w x.g 118 #[ii s.base,ii s.done,c.levels.hq,c.naps.hq,ii c.sw,ii c.idle,ii c.change,ii c.quant,ii c.slow,ii c.ppm,pp x.p,.func (.func 126) #[] #[pp x.fb,pp x.nb],ii s.drift]
 P:PnR w x.p x.m x.r c s.pl
 f:Blk w x.fb 3 #[ii s.first]
 n:Blk w x.nb 3 #[ii s.n]
 le:W.heap.size<=x.g/\W.heap.size<=x.p/\W.heap.size<=x.m/\W.heap.size<=x.r/\W.heap.size<=x.nb
 ne:x.g≠x.p/\x.g≠x.m/\x.g≠x.r/\x.g≠x.nb/\x.g≠x.fb
 nn:x.nb≠x.p/\x.nb≠x.m/\x.nb≠x.r/\x.nb≠x.fb
 nf:x.fb≠x.p/\x.fb≠x.m/\x.fb≠x.r
 i:i64 s.first
 nl:Hid (c.naps.l.length<=100000/\c.levels.l.length<=100000)
theorem qfy(s:Gv):i64 (q05 s).1:=by
 unfold q05;split
 .simp[i64]
 .exact q3v _
section
variable{W w0 w:World} {x:Gx} {c:Pw} {s:Gv}
theorem Gn.keep(N:Gn W w0 w x c s) (h:bW w w'):Gn W w0 w' x c s :=
 ⟨bt N.b h,N.F.trans (fO h _),N.hc,N.k.keep h,N.P.keep h,N.f.keep h,N.n.keep h,N.le,N.ne,N.nn,N.nf,N.i,N.nl⟩
theorem Gn.pw(N:Gn W w0 w x c s):q1y.ok w c:=q1y.keep N.hc N.b
theorem Gn.bel(N:Gn W w0 w x c s) (h:Fr (GS x) w w'):bW W w' :=
 N.b.trans (h.below (λk _ hk=>by obtain⟨a1,a2,a3,a4,a5⟩:=N.le;rcases hk with rfl | rfl | rfl | rfl | rfl <;> omega) N.b.size)
theorem Gn.plant{pl:Pn} (N:Gn W w0 w x c s) (P:PnR w' x.p x.m x.r c pl) (h:Fr (S3 x.p x.m x.r) w w'):Gn W w0 w' x c { s with pl:=pl }:=by
 have h':Fr (GS x) w w':=h.mono λk _ hk=>by rcases hk with h | h | h;exact .inr (.inl h);exact .inr (.inr (.inl h));exact .inr (.inr (.inr (.inl h)))
 obtain⟨a1,a2,a3,a4,a5⟩:=N.ne;obtain⟨b1,b2,b3,b4⟩:=N.nn;obtain⟨c1,c2,c3⟩:=N.nf;exact⟨N.bel h',N.F.trans h',N.hc,N.k.fr h (by rintro(h | h | h);exact a1 h;exact a2 h;exact a3 h),P,N.f.fr h (by rintro(h | h | h);exact c1 h;exact c2 h;exact c3 h),N.n.fr h (by rintro(h | h | h);exact b1 h;exact b2 h;exact b3 h),N.le,N.ne,N.nn,N.nf,N.i,N.nl⟩
theorem Gn.eqS{s':Gv} (N:Gn W w0 w x c s) (e:s'=s):Gn W w0 w x c s':=e ▸ N
theorem Gn.count(N:Gn W w0 w x c s) (v:Int):Gn W w0 (w.setCell ⟨x.nb,0,none⟩ (ii v)) x c { s with n:=v }/\Fr (λk=>k=x.nb) w (w.setCell ⟨x.nb,0,none⟩ (ii v)):=by
 have h:Fr (λk=>k=x.nb) w (w.setCell ⟨x.nb,0,none⟩ (ii v)):=(Fr.refl (λk=>k=x.nb) w).setCell (p:=⟨x.nb,0,none⟩) (λ_=>rfl) _;have h':Fr (GS x) w (w.setCell ⟨x.nb,0,none⟩ (ii v)):=h.mono λk _ hk => .inr (.inr (.inr (.inr hk)));obtain⟨a1,a2,a3,a4,a5⟩:=N.ne;obtain⟨b1,b2,b3,b4⟩:=N.nn;exact⟨⟨N.bel h',N.F.trans h',N.hc,N.k.fr h a4,N.P.fr h (λe=>b1 e.symm) (λe=>b2 e.symm) (λe=>b3 e.symm),N.f.fr h (λe=>b4 e.symm),N.n.set_ 0 _,N.le,N.ne,N.nn,N.nf,N.i,N.nl⟩,h⟩
theorem Gn.clock(N:Gn W w0 w x c s) (a d:Int):Gn W w0 ((w.setCell ⟨x.g,0,none⟩ (ii a)).setCell ⟨x.g,1,none⟩ (ii d)) x c { s with base:=a,done:=d }:=by
 have h:Fr (λk=>k=x.g) w ((w.setCell ⟨x.g,0,none⟩ (ii a)).setCell ⟨x.g,1,none⟩ (ii d)):=((Fr.refl (λk=>k=x.g) w).setCell (p:=⟨x.g,0,none⟩) (λ_=>rfl) _).setCell (p:=⟨x.g,1,none⟩) (λ_=>rfl) _;have h':Fr (GS x) w _:=h.mono λk _ hk => .inl hk;obtain⟨a1,a2,a3,a4,a5⟩:=N.ne;exact⟨N.bel h',N.F.trans h',N.hc,(N.k.set_ 0 _).set_ 1 _,N.P.fr h (λe=>a1 e.symm) (λe=>a2 e.symm) (λe=>a3 e.symm),N.f.fr h (λe=>a5 e.symm),N.n.fr h (λe=>a4 e.symm),N.le,N.ne,N.nn,N.nf,N.i,N.nl⟩
theorem qcb(N:Gn W w0 w x c s):cP 126 #[pp x.fb,pp x.nb] w λe w'=>e = .returned (ii (q05 s).1)/\Gn W w0 w' x c (q05 s).2/\Fr (λk=>k=x.nb) w w':=by
 have cf:=N.f.cell 0;obtain⟨cn,ln⟩:=N.n.cl;have fn:=N.n.frozen;have h1:x.nb≠x.fb:=N.nn.2.2.2;have h2:x.fb≠x.nb:=λe=>h1 e.symm;by_cases q:s.first < 1
 .have b1:decide (s.first < 1)=true:=decide_eq_true q;have HE:=zhd (show q05 s=(0,s) from if_pos q);clear q;refine inC ?_;go_in;go_wp2_with fail;go_returns;rw[HE.out];exact⟨rfl,N,Fr.refl _ _⟩
 .have b1:decide (s.first < 1)=false:=decide_eq_false q;have HE:=zhd (show q05 s=(wrap64 (wrap64 (min s.first 1000000 + wrap64 (s.n + 1)) - 1),{ s with n:=wrap64 (s.n + 1) }) from if_neg q);have HN:=zhd (N.count (wrap64 (s.n + 1)));clear q;refine inC ?_;go_in;go_wp2_with fail;go_returns;rw[HE.out];exact⟨rfl,HN.out.1,HN.out.2⟩
theorem q3h(s:Gv):(q05 s).2.pl=s.pl:=by unfold q05;split <;> rfl
def qot(c:Pw) (s:Gv) (u:Int):Gv:=if 0<=q37 c s.pl.now u (q05 s).1 then { (q05 s).2 with pl:=(qex c (q05 s).2.pl (q37 c s.pl.now u (q05 s).1) (q1a c (q37 c s.pl.now u (q05 s).1) s.pl.now u) (q05 s).2.drift).2 } else (q05 s).2
def qsm(c:Pw) (s:Gv) (u:Int):Gv:=if s.pl.now < u then { s with pl:=(q7k c s.pl u).2 } else s
theorem qiz(c:Pw) (s:Gv) (u:Int):q2p c s u=if u<=s.pl.now then s else qsm c (qot c s u) u:=by
 unfold q2p qsm qot;simp only[q3h]
theorem ql1(p:Pw) (k now en:Int):i64 (q1a p k now en):=by
 unfold q1a;split
 .simp[i64]
 .exact qix _ _ _ _
theorem qsn(N:Gn W w0 w x c s) {u:Int} : cP 68 #[pp x.g,ii u] w λe w'=>e = .returned (.tuple #[])/\Gn W w0 w' x c (q2p c s u):=by
 have HE:=zhd (qiz c s u);obtain⟨kc,lg⟩:=N.k.cl;have hgn:x.g≠x.nb:=N.ne.2.2.2.1;refine inC ?_;go_in;by_cases q1:u<=s.pl.now
 .have b1:decide (u<=s.pl.now)=true:=decide_eq_true q1;have h2:=zhd (HE.out.trans (if_pos q1));clear HE q1;go_wp2_with (go_at_call 132;refine(q20 N.P).mono ?_;rintro _ _ ⟨rfl,rfl⟩);go_returns;exact⟨rfl,N.eqS h2.out⟩
 .have b1:decide (u<=s.pl.now)=false:=decide_eq_false q1;have h2:=zhd (HE.out.trans (if_neg q1));clear HE q1;obtain⟨A,hA⟩:∃ A,A=qot c s u:=⟨_,rfl⟩
  have HA:=zhd (hA.trans rfl:A=if 0<=q37 c s.pl.now u (q05 s).1 then { (q05 s).2 with pl:=(qex c (q05 s).2.pl (q37 c s.pl.now u (q05 s).1) (q1a c (q37 c s.pl.now u (q05 s).1) s.pl.now u) (q05 s).2.drift).2 } else (q05 s).2);have h0:=zhd (h2.out.trans (congrArg (λa=>qsm c a u) hA.symm));have HI:=zhd (λk=>ql1 c k s.pl.now u);have h4:=zhd (qfy s);have HPL:=zhd (q3h s);clear hA h2;go_upto_region 3 with (first
   | (go_at_call 132;refine(q20 N.P).mono ?_;rintro _ _ ⟨rfl,rfl⟩)
   | (((with_reducible refine q88 (λk=>k=x.nb) [(10,0),(0,2)] ?_);(try simp only[q03,tkO,dpO]);(repeat(go_big_quiet_step (fail)));refine qwW (λK' hK'=>?_);go_wp2_with fail;go_at_call 126;refine(qcb (N.keep bR.drew)).mono ?_;rintro _ w2 ⟨rfl,N,f2⟩;refine zGB ((fO bR.drew _).trans f2) ?_;clear hK' K';intro K' hK';go_wp2_with fail;go_at_call 133;refine(qos N.pw N.nl.out.1 h4.out).mono ?_;rintro _ w3 ⟨rfl,b3⟩;refine zE ?_;clear hK' K');have N:=N.keep b3;obtain⟨kc,lg⟩:=N.k.cl))
  generalize q37 c s.pl.now u (q05 s).1=k at *;generalize (q05 s).2=g1 at *;by_cases q2:0<=k
  .have b2:decide (0<=k)=true:=decide_eq_true q2;have h3:=zhd (HA.out.trans (if_pos q2));clear HA q2;go_upto_region 5 with (((with_reducible refine qe4 [(12,0),(4,2)] ?_);(try simp only[q03,tkO,dpO]);(repeat(go_big_quiet_step (fail)));refine qwW (λK' hK'=>?_);go_wp2_with fail;go_at_call 135;refine(qae (N.keep bR.drew).pw).mono ?_;rintro _ w4 ⟨rfl,b4⟩;refine zGB (fO (bt bR.drew b4) _) ?_;clear hK' K';intro K' hK';go_wp2_with fail;go_at_call 134;refine(qra (N.keep (bt bR.drew b4)).P N.hc (N.keep (bt bR.drew b4)).b (HI.out k)).mono ?_;rintro _ w5 ⟨rfl,P5,f5⟩;refine zE ?_;clear hK' K');have N:=((N.keep (bt bR.drew b4)).plant P5 f5).eqS h3.out;obtain⟨kc,lg⟩:=N.k.cl)
   by_cases q3:A.pl.now < u
   .have b3:decide (A.pl.now < u)=true:=decide_eq_true q3;have h1:=zhd (h0.out.trans (if_pos q3));clear q3 h0;go_wp2_with (first
     | (go_at_call 132;refine(q20 N.P).mono ?_;rintro _ _ ⟨rfl,rfl⟩)
     | (go_at_call 136;refine(qi8 N.P N.hc.2.2.2.1).mono ?_;rintro _ w6 ⟨rfl,P6,f6⟩))
    go_returns;exact⟨rfl,(N.plant P6 f6).eqS h1.out⟩
   .have b3:decide (A.pl.now < u)=false:=decide_eq_false q3;have h1:=zhd (h0.out.trans (if_neg q3));clear q3 h0;go_wp2_with (go_at_call 132;refine(q20 N.P).mono ?_;rintro _ _ ⟨rfl,rfl⟩);go_returns;exact⟨rfl,N.eqS h1.out⟩
  .have b2:decide (0<=k)=false:=decide_eq_false q2;have N:=N.eqS (HA.out.trans (if_neg q2));clear HA q2;go_upto_region 5 with fail;by_cases q3:A.pl.now < u
   .have b3:decide (A.pl.now < u)=true:=decide_eq_true q3;have h1:=zhd (h0.out.trans (if_pos q3));clear q3 h0;go_wp2_with (first
     | (go_at_call 132;refine(q20 N.P).mono ?_;rintro _ _ ⟨rfl,rfl⟩)
     | (go_at_call 136;refine(qi8 N.P N.hc.2.2.2.1).mono ?_;rintro _ w6 ⟨rfl,P6,f6⟩))
    go_returns;exact⟨rfl,(N.plant P6 f6).eqS h1.out⟩
   .have b3:decide (A.pl.now < u)=false:=decide_eq_false q3;have h1:=zhd (h0.out.trans (if_neg q3));clear q3 h0;go_wp2_with (go_at_call 132;refine(q20 N.P).mono ?_;rintro _ _ ⟨rfl,rfl⟩);go_returns;exact⟨rfl,N.eqS h1.out⟩
theorem qso(N:Gn W w0 w x c s):cP 186 #[pp x.g] w λe w'=>e = .returned (.tuple #[])/\Gn W w0 w' x c (qf4 s):=by
 obtain⟨kc,lg⟩:=N.k.cl;have fg:=N.k.frozen;refine inC ?_;go_in;go_wp2_with (first
  | ((go_at_call 250;refine(qeu N.P).mono ?_;rintro _ w2 ⟨rfl,P2,f2⟩);have N:=N.plant P2 (f2.mono λk _ hk => .inl hk);obtain⟨kc,lg⟩:=N.k.cl;have fg:=N.k.frozen)
  | (go_at_call 132;refine(q20 N.P).mono ?_;rintro _ _ ⟨rfl,rfl⟩))
 go_returns;exact⟨rfl,N.clock _ _⟩
end
theorem qwd:ElemOf 234 237 1 8:=q1l (z := .pointer none) zk zk rfl zd zd
structure LnR(wo w:World) (s k:Nat) (A:Option Addr) (c:Nat) (qs:List Nat) (cf:Cf):Prop where
 ks:Blk w s 236 #[.slice A k c,.bool true]
 ka:Own w 237 1 A k c (qeq qs)
 ql:qs.length=k
 q:∀ i,i < k->Blk w (atN qs i) 241 #[ii (atD Pt0 cf.parts.l i).bud,ii (max 1 cf.pw.quant),cf.pw.levels.hq,cf.pw.naps.hq,ii cf.pw.sw,ii cf.pw.idle,ii cf.pw.change,ii cf.pw.quant,ii cf.pw.slow,ii cf.pw.ppm,ii 0]
 lo:wo.heap.size<=s/\(∀ g,q02 A g->wo.heap.size<=g/\g≠s)/\∀ i,i < k->wo.heap.size<=atN qs i/\atN qs i≠s/\¬ q02 A (atN qs i)
 qq:∀ i j,i < k->j < k->i≠j->atN qs i≠atN qs j
 B:bW wo w
theorem LnR.keep{s k:Nat} {qs:List Nat} {cf:Cf} (H:LnR wo w s k A c qs cf) (hb:bW w w'):LnR wo w' s k A c qs cf :=
 ⟨H.ks.keep hb,H.ka.keep hb,H.ql,λi hi=>(H.q i hi).keep hb,H.lo,H.qq,bt H.B hb⟩
theorem LnR.push{w9:World} {s k:Nat} {qs:List Nat} {cf:Cf} (R:LnR wo w s k A c qs cf) {q g cap:Nat} (hq:w.heap.size<=q) (kq:Blk w9 q 241 #[ii (atD Pt0 cf.parts.l k).bud,ii (max 1 cf.pw.quant),cf.pw.levels.hq,cf.pw.naps.hq,ii cf.pw.sw,ii cf.pw.idle,ii cf.pw.change,ii cf.pw.quant,ii cf.pw.slow,ii cf.pw.ppm,ii 0]) (b:Fr (q02 A) w w9)
  (ho:Own w9 237 1 (some ⟨g,0,none⟩) (k + 1) cap (qeq qs ++ #[pp q].toList)) (hg:q02 A g\/w.heap.size<=g) (hgq:g≠q) :
  LnR wo (w9.setCell ⟨s,0,none⟩ (.slice (some ⟨g,0,none⟩) (k + 1) cap)) s (k + 1) (some ⟨g,0,none⟩) cap (qs ++ [q]) cf:=by
 obtain⟨l1,l2,l3⟩:=R.lo;have h3:=R.B.size;have hs9:=b.size;have sA:¬ q02 A s:=λh=>(l2 _ h).2 rfl;have hsl:=R.ks.lt;have h0:g≠s:=hg.elim (λh=>(l2 g h).2) (λh=>by omega);have h1:wo.heap.size<=g:=hg.elim (λh=>(l2 g h).1) (λh=>by omega);have fs:Fr (λk=>k=s) w9 (w9.setCell ⟨s,0,none⟩ (.slice (some ⟨g,0,none⟩) (k + 1) cap)):=(Fr.refl (λk=>k=s) w9).setCell (p:=⟨s,0,none⟩) (λ_=>rfl) _;refine⟨(R.ks.fr b sA).set_ 0 _,?_,by rw[List.length_append,R.ql];rfl,λi hi=>?_,⟨l1,λg' h=>by cases h;exact⟨h1,h0⟩,λi hi=>?_⟩,λi j hi hj hij=>?_,?_⟩
 .have:=ho.fr fs (λk hk h=>by cases hk;exact h0 h);unfold qeq at this ⊢;rw[List.map_append];exact this
 .rw[q28,R.ql];by_cases h:i < k
  .rw[if_pos h];exact((R.q i h).fr b (l3 i h).2.2).fr fs (l3 i h).2.1
  .obtain rfl:i=k:=zo;rw[if_neg h,if_pos rfl];exact kq.fr fs (show ¬ q=s by omega)
 .rw[q28,R.ql];by_cases h:i < k
  .rw[if_pos h];refine⟨(l3 i h).1,(l3 i h).2.1,λh'=>?_⟩;have e:g=atN qs i:=by unfold q02 at h';injection h' with h';injection h'
   rcases hg with hg | hg
   .exact(l3 i h).2.2 (e ▸ hg)
   .have:=(R.q i h).lt;omega
  .obtain rfl:i=k:=zo;rw[if_neg h,if_pos rfl];refine⟨zo,zo,λh'=>hgq ?_⟩;unfold q02 at h';injection h' with h'
   injection h'
 .rw[q28,q28,R.ql];by_cases h:i < k <;> by_cases h2:j < k
  .rw[if_pos h,if_pos h2];exact R.qq i j h h2 hij
  .rw[if_pos h,if_neg h2,if_pos zo];have:=(R.q i h).lt;omega
  .rw[if_neg h,if_pos zo,if_pos h2];have:=(R.q j h2).lt;omega
  .omega
 .exact(R.B.trans (b.below (λk hk h=>by have:=(l2 k h).1;omega) h3)).setCell zo _
def qzc(w:World) (cf:Cf) (e:Ending) (w':World):Prop:=∃ s a cap qs,e = .returned (pp s)/\LdR w' s a cap qs cf (List.replicate cf.parts.l.length 0)/\w.heap.size<=s/\w.heap.size<=a/\(∀ q,q ∈ qs->w.heap.size<=q)/\bW w w'
theorem qsu{cf:Cf} (hx:q53.ok w cf.parts) (h0:0 < cf.parts.l.length) (h1:cf.parts.l.length<=1000):cP 56 #[.agg #[.slice cf.parts.A cf.parts.l.length cf.parts.c,.slice cf.chans.A cf.chans.l.length cf.chans.c,.slice cf.modes.A cf.modes.l.length cf.modes.c,.slice cf.pw.levels.A cf.pw.levels.l.length cf.pw.levels.c,.slice cf.pw.naps.A cf.pw.naps.l.length cf.pw.naps.c,ii cf.pw.sw,ii cf.pw.idle,ii cf.pw.change,ii cf.pw.quant,ii cf.pw.slow,ii cf.pw.ppm,.slice cf.shed.down.A cf.shed.down.l.length cf.shed.down.c,.slice cf.shed.up.A cf.shed.up.l.length cf.shed.up.c]] w λe w'=>qzc w cf e w':=by
 have k1:=Blk.new w 33 #[.slice cf.parts.A cf.parts.l.length cf.parts.c,.slice cf.chans.A cf.chans.l.length cf.chans.c,.slice cf.modes.A cf.modes.l.length cf.modes.c,.slice cf.pw.levels.A cf.pw.levels.l.length cf.pw.levels.c,.slice cf.pw.naps.A cf.pw.naps.l.length cf.pw.naps.c,ii cf.pw.sw,ii cf.pw.idle,ii cf.pw.change,ii cf.pw.quant,ii cf.pw.slow,ii cf.pw.ppm,.slice cf.shed.down.A cf.shed.down.l.length cf.shed.down.c,.slice cf.shed.up.A cf.shed.up.l.length cf.shed.up.c];have ks:=Blk.new (w.alloc (.cells #[.slice cf.parts.A cf.parts.l.length cf.parts.c,.slice cf.chans.A cf.chans.l.length cf.chans.c,.slice cf.modes.A cf.modes.l.length cf.modes.c,.slice cf.pw.levels.A cf.pw.levels.l.length cf.pw.levels.c,.slice cf.pw.naps.A cf.pw.naps.l.length cf.pw.naps.c,ii cf.pw.sw,ii cf.pw.idle,ii cf.pw.change,ii cf.pw.quant,ii cf.pw.slow,ii cf.pw.ppm,.slice cf.shed.down.A cf.shed.down.l.length cf.shed.down.c,.slice cf.shed.up.A cf.shed.up.l.length cf.shed.up.c] 33)) 236 #[.slice none 0 0,.bool true];rw[World.size_alloc]at ks
 have b0:bW w ((w.alloc (.cells #[.slice cf.parts.A cf.parts.l.length cf.parts.c,.slice cf.chans.A cf.chans.l.length cf.chans.c,.slice cf.modes.A cf.modes.l.length cf.modes.c,.slice cf.pw.levels.A cf.pw.levels.l.length cf.pw.levels.c,.slice cf.pw.naps.A cf.pw.naps.l.length cf.pw.naps.c,ii cf.pw.sw,ii cf.pw.idle,ii cf.pw.change,ii cf.pw.quant,ii cf.pw.slow,ii cf.pw.ppm,.slice cf.shed.down.A cf.shed.down.l.length cf.shed.down.c,.slice cf.shed.up.A cf.shed.up.l.length cf.shed.up.c] 33)).alloc (.cells #[.slice none 0 0,.bool true] 236)):=zv;replace k1:=k1.alloc (.cells #[.slice none 0 0,.bool true] 236);obtain⟨wo,rfl⟩:∃ wo:World,wo=w:=⟨_,rfl⟩
 refine inC ?_;go_in;go_upto_region 2 with fail;generalize (wo.alloc (.cells #[.slice cf.parts.A cf.parts.l.length cf.parts.c,.slice cf.chans.A cf.chans.l.length cf.chans.c,.slice cf.modes.A cf.modes.l.length cf.modes.c,.slice cf.pw.levels.A cf.pw.levels.l.length cf.pw.levels.c,.slice cf.pw.naps.A cf.pw.naps.l.length cf.pw.naps.c,ii cf.pw.sw,ii cf.pw.idle,ii cf.pw.change,ii cf.pw.quant,ii cf.pw.slow,ii cf.pw.ppm,.slice cf.shed.down.A cf.shed.down.l.length cf.shed.down.c,.slice cf.shed.up.A cf.shed.up.l.length cf.shed.up.c] 33)).alloc (.cells #[.slice none 0 0,.bool true] 236)=w1 at *;obtain⟨ha,he⟩:=k1.cl;have HK1:=zhd k1;have HB0:=zhd b0;go_upto_region 3 with fail;go_loopw [11] (λi wr=>∃ (k:Nat) (A:Option Addr) (c:Nat) (qs:List Nat),i = .int .i64 k/\k<=cf.parts.l.length/\LnR wo wr (wo.heap.size + 1) k A c qs cf/\Blk wr wo.heap.size 33 #[.slice cf.parts.A cf.parts.l.length cf.parts.c,.slice cf.chans.A cf.chans.l.length cf.chans.c,.slice cf.modes.A cf.modes.l.length cf.modes.c,.slice cf.pw.levels.A cf.pw.levels.l.length cf.pw.levels.c,.slice cf.pw.naps.A cf.pw.naps.l.length cf.pw.naps.c,.int .i64 cf.pw.sw,.int .i64 cf.pw.idle,.int .i64 cf.pw.change,.int .i64 cf.pw.quant,.int .i64 cf.pw.slow,.int .i64 cf.pw.ppm,.slice cf.shed.down.A cf.shed.down.l.length cf.shed.down.c,.slice cf.shed.up.A cf.shed.up.l.length cf.shed.up.c]) (λi _=>cf.parts.l.length - (intOf i).toNat)
 case atStart=>exact⟨0,none,0,[],rfl,Nat.zero_le _,⟨ks,Own.nil _ _ _,rfl,(λi h=>absurd h zo),⟨zo,(λg h=>by cases h),λi h=>absurd h zo⟩,(λi j h=>absurd h zo),b0⟩,k1⟩
 case round =>
  clear ks b0 ha he k1;obtain⟨k,A,c,qs,rfl,hkn,R,k1⟩:=hrel;by_cases hk:k < cf.parts.l.length
  .obtain⟨sb,so,hA,hsb,h2⟩:=(q53.keep hx R.B).1.at_ Pt0 hk;rw[show qcu.sz=11 from rfl]at h2
   have hw1:wrap64 ((k:Int) + 1)=((k + 1:Nat):Int):=by unfold wrap64;omega
   generalize hy:atD Pt0 cf.parts.l k=y at *;have HY:=zhd hy;clear hy;have s0:wr.cell? ⟨sb,so + k * 11,none⟩=some (.slice y.regs.A y.regs.l.length y.regs.c):=h2 0 _ rfl;have s1:wr.cell? ⟨sb,so + k * 11 + 1,none⟩=some (.slice y.procs.A y.procs.l.length y.procs.c):=h2 1 _ rfl;have s2:wr.cell? ⟨sb,so + k * 11 + 2,none⟩=some (.slice y.ports.A y.ports.l.length y.ports.c):=h2 2 _ rfl;have s3:wr.cell? ⟨sb,so + k * 11 + 3,none⟩=some (.slice y.sems.A y.sems.l.length y.sems.c):=h2 3 _ rfl;have s4:wr.cell? ⟨sb,so + k * 11 + 4,none⟩=some (ii y.flags):=h2 4 _ rfl;have s5:wr.cell? ⟨sb,so + k * 11 + 5,none⟩=some (.slice y.pools.A y.pools.l.length y.pools.c):=h2 5 _ rfl;have s6:wr.cell? ⟨sb,so + k * 11 + 6,none⟩=some (.slice y.slates.A y.slates.l.length y.slates.c):=h2 6 _ rfl;have s7:wr.cell? ⟨sb,so + k * 11 + 7,none⟩=some (ii y.cap):=h2 7 _ rfl;have s8:wr.cell? ⟨sb,so + k * 11 + 8,none⟩=some (ii y.bud):=h2 8 _ rfl;have s9:wr.cell? ⟨sb,so + k * 11 + 9,none⟩=some (ii y.lad):=h2 9 _ rfl;have hf:wr.cell? ⟨sb,so + k * 11 + 10,none⟩=some (.slice y.acts.A y.acts.l.length y.acts.c):=h2 10 _ rfl;clear h2;rw[hA];have h8:=zhd hA;clear hA;go_upto_region 5 with fail;have b9:bW wr (wr.alloc (.cells #[.slice y.regs.A y.regs.l.length y.regs.c,.slice y.procs.A y.procs.l.length y.procs.c,.slice y.ports.A y.ports.l.length y.ports.c,.slice y.sems.A y.sems.l.length y.sems.c,ii y.flags,.slice y.pools.A y.pools.l.length y.pools.c,.slice y.slates.A y.slates.l.length y.slates.c,ii y.cap,ii y.bud,ii y.lad,.slice y.acts.A y.acts.l.length y.acts.c] 51)):=zv;have kp:=Blk.new wr 51 #[.slice y.regs.A y.regs.l.length y.regs.c,.slice y.procs.A y.procs.l.length y.procs.c,.slice y.ports.A y.ports.l.length y.ports.c,.slice y.sems.A y.sems.l.length y.sems.c,ii y.flags,.slice y.pools.A y.pools.l.length y.pools.c,.slice y.slates.A y.slates.l.length y.slates.c,ii y.cap,ii y.bud,ii y.lad,.slice y.acts.A y.acts.l.length y.acts.c];generalize wr.alloc (.cells #[.slice y.regs.A y.regs.l.length y.regs.c,.slice y.procs.A y.procs.l.length y.procs.c,.slice y.ports.A y.ports.l.length y.ports.c,.slice y.sems.A y.sems.l.length y.sems.c,ii y.flags,.slice y.pools.A y.pools.l.length y.pools.c,.slice y.slates.A y.slates.l.length y.slates.c,ii y.cap,ii y.bud,ii y.lad,.slice y.acts.A y.acts.l.length y.acts.c] 51)=w2 at *;obtain⟨gp,h5⟩:∃ gp,gp=wr.heap.size:=⟨_,rfl⟩
   rw[<- h5]at kp
   rw[<- h5];obtain⟨kpc,lp⟩:=kp.cl;obtain⟨ksc,lsc⟩:=(R.ks.keep b9).cl;obtain⟨kcc,lcc⟩:=(k1.keep b9).cl;clear s0 s1 s2 s3 s4 s5 s6 s7 s8 s9 hf;have hb:¬ q02 A (wo.heap.size + 1):=λh=>(R.lo.2.1 _ h).2 rfl;have hn2:¬ q02 A gp:=λh=>by have:=R.ka.lt h;omega
   have hc:¬ q02 A wo.heap.size:=R.ka.ne k1 zd;clear h5;refine q88 (q02 A) [(15,0),(0,0),(0,0),(2,2)] ?_;simp only[q03,tkO,dpO]
   repeat(go_big_quiet_step (fail))
   refine qwW (λK' hK'=>?_);go_wp2_with fail;have R2:=R.keep b9;have k2:=k1.keep b9;clear b9;have h9:bW w2 (w2.drew.alloc (.cells #[ii y.bud,ii (max 1 cf.pw.quant),.slice cf.pw.levels.A cf.pw.levels.l.length cf.pw.levels.c,.slice cf.pw.naps.A cf.pw.naps.l.length cf.pw.naps.c,ii cf.pw.sw,ii cf.pw.idle,ii cf.pw.change,ii cf.pw.quant,ii cf.pw.slow,ii cf.pw.ppm,ii 0] 241)):=zv;refine zGW (fO h9 _) ?_;clear hK' K';intro K' hK';go_wp2_with fail;have h4:bW w2 ((w2.drew.alloc (.cells #[ii y.bud,ii (max 1 cf.pw.quant),.slice cf.pw.levels.A cf.pw.levels.l.length cf.pw.levels.c,.slice cf.pw.naps.A cf.pw.naps.l.length cf.pw.naps.c,ii cf.pw.sw,ii cf.pw.idle,ii cf.pw.change,ii cf.pw.quant,ii cf.pw.slow,ii cf.pw.ppm,ii 0] 241)).alloc (.cells #[pp w2.heap.size] 237)):=zv;refine zG (fO h4 _) ?_;clear hK' K';have R3:=R2.keep h4;refine qwW (λK' hK'=>?_);have hd:=(Blk.new w2.drew 241 #[ii y.bud,ii (max 1 cf.pw.quant),.slice cf.pw.levels.A cf.pw.levels.l.length cf.pw.levels.c,.slice cf.pw.naps.A cf.pw.naps.l.length cf.pw.naps.c,ii cf.pw.sw,ii cf.pw.idle,ii cf.pw.change,ii cf.pw.quant,ii cf.pw.slow,ii cf.pw.ppm,ii 0]).alloc (.cells #[pp w2.heap.size] 237);have h3:=Blk.new (w2.drew.alloc (.cells #[ii y.bud,ii (max 1 cf.pw.quant),.slice cf.pw.levels.A cf.pw.levels.l.length cf.pw.levels.c,.slice cf.pw.naps.A cf.pw.naps.l.length cf.pw.naps.c,ii cf.pw.sw,ii cf.pw.idle,ii cf.pw.change,ii cf.pw.quant,ii cf.pw.slow,ii cf.pw.ppm,ii 0] 241)) 237 #[pp w2.heap.size];rw[World.size_alloc]at h3
   refine q8a qwd _ _ _ zr zr R3.ka (w2.heap.size + 1) #[pp w2.heap.size] rfl (by simp[Value.oneCell']) h3 zr zo ?_;intro g cap w9 hown9 hf9 hat9;have f9:=(fO h4 (q02 A)).trans hf9;have h7:=hd.fr hf9 (λh=>absurd (R2.ka.lt h) (Nat.lt_irrefl _));refine hK' _ _ rfl (q01 f9) ?_;clear hK' K';have h6:=R2.ks.fr f9 hb;have ks9c:=h6.cell;have ks9f:=h6.frozen;have ks9l:=h6.lt;refine zN ?_;refine qwB (λK' hK'=>?_);go_wp2_with fail;refine zE ?_;clear hK' K';go_wp2_with fail;rw[<- HY.out]at h7
   exact⟨⟨k + 1,_,_,_,by go_num,hk,R2.push nL h7 f9 hown9 (hat9.imp id (λh=>by rw[h];simp;omega)) (by rcases hat9 with h | h;have:=R2.ka.lt h;omega;rw[h];simp;omega),(by rw[<- h8.out];exact(k2.fr f9 hc).far zp _)⟩,by simp[intOf];omega⟩
  .obtain rfl:k=cf.parts.l.length:=zo;go_wp2_with fail;go_returns;obtain⟨g,rfl⟩:∃ g,A=some ⟨g,0,none⟩:=by
    rcases R.ka.2 with ⟨_,h⟩ | ⟨g,cap,cur,e1,_⟩
    .omega
    .cases e1;exact⟨g,rfl⟩
   obtain⟨l1,l2,l3⟩:=R.lo;have hz:∀ i,at0 (List.replicate cf.parts.l.length 0) i=0:=λi=>by
    unfold at0;rw[List.getD_eq_getElem?_getD,List.getElem?_replicate];split <;> rfl
   refine⟨_,g,c,qs,rfl,⟨R.ks,R.ka.sl,λi hi=>by rw[hz];exact R.q i hi,R.ql,List.length_replicate,λi _=>by rw[hz];decide,λi hi=>⟨(l3 i hi).2.1,λh=>(l3 i hi).2.2 (by rw[h];rfl)⟩,R.qq,h1⟩,l1,(l2 g rfl).1,λq hq=>?_,R.B⟩;obtain⟨i,hi,rfl⟩:=List.getElem_of_mem hq;have:=(l3 i (by have:=R.ql;omega)).1;rwa [show atN qs i=qs[i] by simp[atN,List.getElem?_eq_getElem hi]]at this
theorem qsv{a:Nat} {qs:List Nat} {cf:Cf} {cy:List Int} (H:LdR w b a cap qs cf cy) (hx:q1y.ok W cf.pw) (hW:bW W w):cP 69 #[pp b] w λe w'=>qi2 w (cy.map (q9y cf)) e w':=by
 obtain⟨kb,lb⟩:=H.kb.cl;have hn:=H.n;have hD:=q7e H;obtain⟨wo,rfl⟩:∃ wo:World,wo=w:=⟨_,rfl⟩
 refine inC ?_;go_in;go_upto_region 5 with (go_at_call 127;refine(hD).mono ?_;rintro _ _ ⟨rfl,rfl⟩)
 obtain⟨n,h0⟩:∃ n,n=cf.parts.l.length:=⟨_,rfl⟩
 rw[<- h0];have h1:Hid (cy.length=n):=by rw[h0];exact H.cl
 have h5:=zhd h0;rw[<- h0]at hn
 clear h0 kb lb;go_loopw [3,13] (λv i wr=>∃ (k:Nat) (A:Option Addr) (c:Nat),i = .int .i64 k/\k<=n/\v = .slice A k c/\Own wr 3 1 A k c (((cy.take k).map (q9y cf)).map (.int .i64))/\(∀ k,q02 A k->wo.heap.size<=k)/\bW wo wr) (λ_ i _=>n - (intOf i).toNat)
 case atStart=>exact⟨0,none,0,rfl,Nat.zero_le _,rfl,Own.nil _ _ _,(λk h=>by cases h),bR⟩
 case round =>
  obtain⟨k,A,c,rfl,hkn,rfl,hO,hA,hB⟩:=hrel;by_cases hk:k < n
  .have h7:wrap64 ((k:Int) + 1)=((k + 1:Nat):Int):=by unfold wrap64;omega
   have H2:=H.keep hB;have h3:k < cf.parts.l.length:=by rw[<- h5.out];exact hk
   obtain⟨la,ca⟩:=H2.at_ h3;have hU:=qei H2 h3 hx (bt hW hB);have h6:Hid (k<=100000000000):=by show _<=_;omega
   have HS:Hid (cy.take (k + 1)=cy.take k ++ [at0 cy k]):=by
    have:k < cy.length:=by rw[h1.out];exact hk
    rw[List.take_succ_eq_append_getElem this,q2v this];exact rfl
   obtain⟨u,hu⟩:∃ u,u=q9y cf (at0 cy k):=⟨_,rfl⟩
   rw[<- hu]at hU
   have HZ:=zhd hu;clear hu;clear H2 h3;go_wp2_with (first
    | ((go_at_call 137;refine(hU).mono ?_;rintro _ w2 ⟨rfl,h2⟩);have h4:=hO.keep h2)
    | (at_builtin;refine q2k q27 w2 zr _ _ zr zr h4 #[ii u] rfl (by simp[Value.oneCell']) zr h6.out ?_;intro A' c' w5 hown4 hf4 hat4))
   exact⟨⟨k + 1,A',c',by first | rfl | rw[h7],hk,rfl,by rw[HS.out,List.map_append,List.map_append];rw[HZ.out]at hown4;simpa using hown4,λj hj=>(hat4 j hj).elim (hA j) (λh=>Nat.le_trans (bt hB h2).size h),q68 (bt hB h2) h4 hf4 hA⟩,by simp[intOf];omega⟩
  .obtain rfl:k=n:=zo;go_wp2_with fail;go_returns;refine⟨A,c,?_,?_,hA,hB⟩
   .rw[List.length_map,h1.out];rfl
   .have:cy.take k=cy:=by rw[<- h1.out];exact List.take_length
    rw[this]at hO
    rw[List.length_map,h1.out];exact hO
end Go.Proofs.YtncfcbohiodnnaaGreat
