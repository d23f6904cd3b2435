/- Parts of this seat's claims. -/
import Derived.Test.YtncfcbohiodnnaaGreatW9
set_option maxRecDepth 100000
set_option maxHeartbeats 6400000
namespace Go.Proofs.YtncfcbohiodnnaaGreat
open Go.RowKit
variable{w w' W wa wo W':World} {c n pt r B j b m mb q base cap id B0:Nat} {A:Option Addr} {a code what:Int} {cs:Array Value}
def okF{α : Type} (p : α->α->Bool) : α->List α->Bool
 | _,[]=>true
 | a,x :: xs=>p x a && okF p x xs
theorem drop_atD{α : Type} (d : α) (l:List α) {k:Nat} (h:k < l.length):l.drop k=atD d l k :: l.drop (k + 1):=by
 rw[List.drop_eq_getElem_cons h,q0s h]
theorem qqg{l:List Int} {k:Nat} (h:k < l.length):l.drop k=at0 l k :: l.drop (k + 1):=by
 rw[List.drop_eq_getElem_cons h,q2v h]
theorem q9v{α : Type} (d : α) {l:List α} {k:Nat} (h:k < l.length):atD d l k ∈ l:=by rw[q0s h];exact List.getElem_mem h
def q4m{X:Type} {e:TypeId} (F K:FuncId) (rs:Rd Tryz.prog e (Hd X)) (ar:X->X->Array Value) (cp:Array Value) (z:X):Prop :=
 ∀ {W w:World} {l:Hd X} {p:X->X->Bool},rs.ok W l->bW W w ->
  (∀ w' x a,x ∈ l.l->bW W w'->cP K (ar x a) w' λe w''=>e = .returned (.bool (p x a))/\bW w' w'') ->
  cP F #[.slice l.A l.l.length l.c,.func (.func K) #[] cp] w λe w'=>(∃ v:Int,e = .returned (ii v)/\decide (v < 0)=okF p z l.l)/\bW W w'
theorem q7c{X:Type} {e F K N t sz:Nat} {fn:Func} {ar:X->X->Array Value} {cp:Array Value} {z:X} {rs:Rd Tryz.prog e (Hd X)} {cl:X->Array Value} {ls:X->List Value} {zc:Array Value} (i:Tn t sz cl ls zc z) (hF:Tryz.prog.funcs[F]?=some fn) (hN:fn.ntmps=N)
  (s:Tn t sz cl ls zc z->Tryz.prog.funcs[F]?=some fn->fn.ntmps=N->q4m F K rs ar cp z:=by
   intro i hF hN W w l p hl hw hp;have hn:=hl.1.len;have k5:=Blk.new w i.t i.zc;have h2:=bt hw (zA w (.cells i.zc i.t));obtain⟨R,hR⟩:∃ R,R=okF p i.z l.l:=⟨_,rfl⟩
   rw[<- hR];have HR:=zhd hR;clear hR;have hg:=hw.size;obtain⟨wo,rfl⟩:∃ wo:World,wo=W:=⟨_,rfl⟩
   (try dsimp only at hp ⊢)
   dsimp only [Tn.t,Tn.zc]at k5 h2;go_enter hF,hN;clear hF hN;go_wp2_with fail;obtain⟨g,h5⟩:∃ g,g=w.heap.size:=⟨_,rfl⟩
   rw[<- h5]at k5 hg ⊢
   generalize w.alloc (.cells i.zc i.t)=w1 at k5 h2 ⊢;clear h5 hw;go_loopw [10] (λi' wr=>∃ (k:Nat) (a:_),i' = .int .i64 k/\k<=l.l.length/\Blk wr g i.t (i.cl a)/\Hid (R=okF p a (l.l.drop k))/\bW wo wr) (λi' _=>l.l.length - (intOf i').toNat)
   case atStart=>exact⟨0,i.z,rfl,Nat.zero_le _,k5,HR,h2⟩
   case round =>
    obtain⟨k,a,rfl,hkn,ka,hR,h4⟩:=hrel;by_cases hk:k < l.l.length
    .obtain⟨sb,so,hA,hsb,h0⟩:=(Rd.keep _ hl h4).1.at_ i.z hk;replace h0:∀ j u,_->wr.cell? ⟨sb,so + k * i.sz + j,none⟩=some u:=h0;dsimp only [Tn.sz]at h0;have s0:=h0 0 _ rfl;have s1:=h0 1 _ rfl;(try have s2:=h0 2 _ rfl);(try have s3:=h0 3 _ rfl);rw[Nat.add_zero]at s0
     clear h0;have h1:=hR.out;rw[drop_atD i.z l.l hk,okF]at h1
     have hm:=q9v i.z hk;generalize atD i.z l.l k=x at *;have hP:=λw' hb=>hp w' x a hm hb;have lg:=ka.lt;have kc:=ka.cell;have fz:=ka.frozen;have hw1:wrap64 ((k:Int) + 1)=((k + 1:Nat):Int):=by unfold wrap64;omega
     rw[hA];dsimp only [Tn.cl]at ka kc hP;generalize p x a=b at *;cases b with
     | true =>
      have h3:=zhd ((Bool.true_and _).symm.trans h1.symm).symm;clear hR h1 HR hA h2 k5 hp hm;go_wp2_with (with_reducible refine(up (W:=wo) (hP _ zv) zv).mono ?_;rintro _ w8 ⟨rfl,hb,hs,hc,hf,hl,hB⟩);have k9:=Blk.row (vs:=i.ls x) ((ka.alloc _).keep hB) rfl;have b9:=Below.row (g:=g) (i.ls x) 0 hb hg;dsimp only [Tn.ls]at k9 b9;simp only[setRow,Nat.zero_add]at k9 b9;exact⟨⟨k + 1,x,by go_num,hk,k9,h3,b9⟩,by simp[intOf];omega⟩
     | false =>
      have h3:Hid (R=false):=h1;clear hR h1 HR hA h2 k5 hp hm;go_wp2_with (with_reducible refine(up (W:=wo) (hP _ zv) zv).mono ?_;rintro _ w8 ⟨rfl,hb,hs,hc,hf,hl,hB⟩);go_ret;exact⟨⟨k,rfl,by rw[h3.out];simp⟩,hb⟩
    .have h1:Hid (R=true):=hR.out.trans (by rw[List.drop_eq_nil_of_le zo];rfl);obtain rfl:k=l.l.length:=zo;clear HR hR h2 k5 hp;go_wp2_with fail;go_ret;exact⟨⟨-1,rfl,by rw[h1.out];rfl⟩,h4⟩):q4m F K rs ar cp z:=s i hF hN
theorem qge:q4m 168 169 qb9 (λx a=>#[.agg (Lv.lw x),.agg (Lv.lw a)]) #[] Lv0 :=
 q7c (⟨⟩:Tn 127 2 (λx=>(Lv.lw x)) (λx=>[ii x.freq,ii x.power]) #[ii 0,ii 0] Lv0) Tryz.func168 Tryz.ntmps168
theorem qgf{g:Nat} : q4m 222 223 qe8 (λx a=>#[.agg (Np.lw x),.agg (Np.lw a),pp g]) #[pp g] Np0 :=
 q7c (⟨⟩:Tn 219 3 (λx=>(Np.lw x)) (λx=>[ii x.power,ii x.enter,ii x.wake]) #[ii 0,ii 0,ii 0] Np0) Tryz.func222 Tryz.ntmps222
theorem qgg:q4m 209 210 q8x (λx a=>#[.agg (Rg.lw x),.agg (Rg.lw a)]) #[] Rg0 :=
 q7c (⟨⟩:Tn 125 3 (λx=>(Rg.lw x)) (λx=>[ii x.base,ii x.size,.bool x.wr]) #[ii 0,ii 0,.bool false] Rg0) Tryz.func209 Tryz.ntmps209
theorem qgh{g:Nat} : q4m 211 212 q8y (λx a=>#[.agg (Pc.lw x),.agg (Pc.lw a),pp g]) #[pp g] Pc0 :=
 q7c (⟨⟩:Tn 89 3 (λx=>(Pc.lw x)) (λx=>[ii x.prio,ii x.per,ii x.cost]) #[ii 0,ii 0,ii 0] Pc0) Tryz.func211 Tryz.ntmps211
theorem qgi{g:Nat} : q4m 213 214 qb6 (λx a=>#[.agg (Po.lw x),.agg (Po.lw a),pp g]) #[pp g] Po0 :=
 q7c (⟨⟩:Tn 199 4 (λx=>(Po.lw x)) (λx=>[.bool x.q,.bool x.inn,ii x.size,ii x.depth]) #[.bool false,.bool false,ii 0,ii 0] Po0) Tryz.func213 Tryz.ntmps213
theorem qgj{g:Nat} : q4m 279 280 qb7 (λx a=>#[.agg (Sm.lw x),.agg (Sm.lw a),pp g]) #[pp g] Sm0 :=
 q7c (⟨⟩:Tn 203 2 (λx=>(Sm.lw x)) (λx=>[ii x.first,ii x.most]) #[ii 0,ii 0] Sm0) Tryz.func279 Tryz.ntmps279
theorem qgk{g:Nat} : q4m 281 282 qb8 (λx a=>#[.agg (Pl.lw x),.agg (Pl.lw a),pp g]) #[pp g] Pl0 :=
 q7c (⟨⟩:Tn 207 2 (λx=>(Pl.lw x)) (λx=>[ii x.size,ii x.depth]) #[ii 0,ii 0] Pl0) Tryz.func281 Tryz.ntmps281
theorem qec{g h:Nat} : q4m 228 227 qe7 (λx a=>#[.agg (Wn.lw x),.agg (Wn.lw a),pp g,pp h]) #[pp g,pp h] Wn0 :=
 q7c (⟨⟩:Tn 96 3 (λx=>(Wn.lw x)) (λx=>[ii x.part,ii x.start,ii x.len]) #[ii 0,ii 0,ii 0] Wn0) Tryz.func228 Tryz.ntmps228
theorem qed{g:Nat} : q4m 228 229 qe7 (λx a=>#[.agg (Wn.lw x),.agg (Wn.lw a),pp g]) #[pp g] Wn0 :=
 q7c (⟨⟩:Tn 96 3 (λx=>(Wn.lw x)) (λx=>[ii x.part,ii x.start,ii x.len]) #[ii 0,ii 0,ii 0] Wn0) Tryz.func228 Tryz.ntmps228
theorem q8o{g:Nat} : q4m 220 221 q1f (λx a=>#[ii x,ii a,pp g]) #[pp g] 0:=by
 intro W w l p hl hw hp;(try dsimp only at hp ⊢);have hn:=hl.1.len_le;obtain⟨R,hR⟩:∃ R,R=okF p 0 l.l:=⟨_,rfl⟩
 rw[<- hR];have HR:=zhd hR;clear hR;obtain⟨wo,rfl⟩:∃ wo:World,wo=W:=⟨_,rfl⟩
 refine inC ?_;go_in;go_wp2_with fail;go_loopw [5,10] (λav i wr=>∃ (k:Nat) (a:Int),av = .int .i64 a/\i = .int .i64 k/\k<=l.l.length/\Hid (R=okF p a (l.l.drop k))/\bW wo wr) (λ_ i _=>l.l.length - (intOf i).toNat)
 case atStart=>exact⟨0,0,rfl,rfl,Nat.zero_le _,HR,hw⟩
 case round =>
  obtain⟨k,a,rfl,rfl,hkn,hR,h2⟩:=hrel;by_cases hk:k < l.l.length
  .obtain⟨sb,so,hA,hsb,s0⟩:=SlI.at_ (SlI.keep hl h2) hk;have h0:=hR.out;rw[qqg hk,okF]at h0
   have hm:at0 l.l k ∈ l.l:=by rw[q2v hk];exact List.getElem_mem hk
   generalize at0 l.l k=x at *;have hP:=λw' hb=>hp w' x a hm hb;have hw1:wrap64 ((k:Int) + 1)=((k + 1:Nat):Int):=by unfold wrap64;omega
   rw[hA];generalize p x a=b at *;cases b with
   | true =>
    have h1:=zhd ((Bool.true_and _).symm.trans h0.symm).symm;clear hR h0 HR hA hp hm;go_wp2_with (go_at_call 221;refine(up (W:=wo) (hP _ zv) zv).mono ?_;rintro _ w8 ⟨rfl,hb,hs,hc,hf,hl,hB⟩);exact⟨⟨k + 1,x,rfl,by go_num,hk,h1,hb⟩,by simp[intOf];omega⟩
   | false =>
    have h1:Hid (R=false):=h0;clear hR h0 HR hA hp hm;go_wp2_with (go_at_call 221;refine(up (W:=wo) (hP _ zv) zv).mono ?_;rintro _ w8 ⟨rfl,hb,hs,hc,hf,hl,hB⟩);go_ret;exact⟨⟨k,rfl,by rw[h1.out];simp⟩,hb⟩
  .have h0:Hid (R=true):=hR.out.trans (by rw[List.drop_eq_nil_of_le zo];rfl);obtain rfl:k=l.l.length:=zo;clear HR hR hp;go_wp2_with fail;go_ret;exact⟨⟨-1,rfl,by rw[h0.out];rfl⟩,h2⟩
def qqh{X:Type} {e:TypeId} (A K:FuncId) (rs:Rd Tryz.prog e (Hd X)) (v:X->Value) (z:X):Prop :=
 ∀ {w:World} {l:Hd X} {q:X->Bool} {n:Int},rs.ok w l->(∀ w' x,bW w w'->cP K #[v x] w' λe w''=>e = .returned (.bool (q x))/\bW w' w'') ->
  cP A #[.slice l.A l.l.length l.c,ii n,.func (.func K) #[] #[]] w λe w'=>e = .returned (.bool (decide ((l.l.length:Int)<=n) && okF (λx _=>q x) z l.l))/\bW w w'
def z0c{X:Type} (C K:FuncId) (t:TypeId) (v:X->Value):Prop :=
 ∀ {W w:World} {q:X->Bool} {g:Nat},Blk W g t #[.func (.func K) #[] #[]]->bW W w->(∀ w' x,bW W w'->cP K #[v x] w' λe w''=>e = .returned (.bool (q x))/\bW w' w'')->∀ x a:X,
  cP C #[v x,v a,pp g] w λe w'=>e = .returned (.bool (q x))/\bW w w'
structure Fk{X:Type} (F:FuncId) (t:TypeId) (z:X):Type where
abbrev Fk.f {X:Type} {F:FuncId} {t:TypeId} {z:X} (_:Fk F t z):FuncId:=F
abbrev Fk.t {X:Type} {F:FuncId} {t:TypeId} {z:X} (_:Fk F t z):TypeId:=t
abbrev Fk.z {X:Type} {F:FuncId} {t:TypeId} {z:X} (_:Fk F t z):X:=z
theorem qur{X:Type} {A C K N M e F:Nat} {fn fm:Func} {v:X->Value} {z:X} {rs:Rd Tryz.prog e (Hd X)} (t:Nat) (hF:Tryz.prog.funcs[A]?=some fn) (hN:fn.ntmps=N) (hG:Tryz.prog.funcs[C]?=some fm) (hM:fm.ntmps=M)
  (hf:∀ {g:Nat},q4m F C rs (λx a=>#[v x,v a,pp g]) #[pp g] z)
  (s1:Tryz.prog.funcs[C]?=some fm->fm.ntmps=M->z0c C K t v:=by
   intro hF hN W w q g kg hw hq x a;have c:=(kg.keep hw).cell 0;have lg:=(kg.keep hw).lt;have hQ:=λw' (hb:bW w w')=>hq w' x (bt hw hb);clear hq;generalize q x=b at *;(try dsimp only at hQ ⊢);go_enter hF,hN;clear hF hN;go_wp2_with (with_reducible refine(up (W:=w) (hQ _ zv) zv).mono ?_;rintro _ w1 ⟨rfl,hb,hs,hc,hf,hl,hB⟩);go_returns;exact⟨rfl,zv⟩)
  (s:(∀ {W w:World} {l:Hd X} {q:X->Bool} {g:Nat},rs.ok W l->bW W w->Blk W g t #[.func (.func K) #[] #[]]->(∀ w' x,bW W w'->cP K #[v x] w' λe w''=>e = .returned (.bool (q x))/\bW w' w'')->cP F #[.slice l.A l.l.length l.c,.func (.func C) #[] #[pp g]] w λe w'=>(∃ v:Int,e = .returned (ii v)/\decide (v < 0)=okF (λx _=>q x) z l.l)/\bW W w')->Fk K t z->Tryz.prog.funcs[A]?=some fn->fn.ntmps=N->qqh A K rs v z:=by
   intro hf i hF hN w l q n hl hq;have k1:=Blk.new w i.t #[.func (.func i.f) #[] #[]];have b1:=zA w (.cells #[.func (.func i.f) #[] #[]] i.t);have h0:=λw' hb=>hf (w:=w') (Rd.keep _ hl b1) hb k1 (λw3 x h3=>hq w3 x (bt b1 h3));dsimp only [Fk.t,Fk.f]at k1 b1 h0;clear hf;obtain⟨R,hR⟩:∃ R,R=okF (λx _=>q x) i.z l.l:=⟨_,rfl⟩
   rw[<- hR];simp only[Fk.z]at hR;simp only[<- hR]at h0;clear hR hq;by_cases hn:(l.l.length:Int)<=n
   .have q1:decide ((l.l.length:Int)<=n)=true:=decide_eq_true hn;go_enter hF,hN;clear hF hN;go_wp2_with fail;generalize w.alloc (.cells #[.func (.func i.f) #[] #[]] i.t)=w1 at *;refine(h0 _ bR).mono ?_;rintro _ w2 ⟨⟨v,rfl,hv⟩,h1⟩;go_wp2_with fail;go_returns;refine⟨q5k ?_,bt b1 h1⟩;rw[q1,Bool.true_and]
   .have q1:decide ((l.l.length:Int)<=n)=false:=decide_eq_false hn;clear hn;go_enter hF,hN;clear hF hN;go_wp2_with fail;go_returns;exact⟨by simp[q1],b1⟩):qqh A K rs v z:=s (λhl hb k hq=>hf hl hb (λ_ x a _ h=>s1 hG hM (k.keep h) bR (λw3 x h3=>hq w3 x (bt h h3)) x a)) ⟨⟩ hF hN
theorem qm6:qqh 170 171 qe8 (λx => .agg (Np.lw x)) Np0 :=
 qur 300 Tryz.func170 Tryz.ntmps170 Tryz.func223 Tryz.ntmps223 qgf
theorem qm7:qqh 161 162 q8y (λx => .agg (Pc.lw x)) Pc0 :=
 qur 292 Tryz.func161 Tryz.ntmps161 Tryz.func212 Tryz.ntmps212 qgh
theorem qm8:qqh 163 164 qb6 (λx => .agg (Po.lw x)) Po0 :=
 qur 294 Tryz.func163 Tryz.ntmps163 Tryz.func214 Tryz.ntmps214 qgi
theorem qm9:qqh 218 215 qb7 (λx => .agg (Sm.lw x)) Sm0 :=
 qur 384 Tryz.func218 Tryz.ntmps218 Tryz.func280 Tryz.ntmps280 qgj
theorem qma:qqh 219 216 qb8 (λx => .agg (Pl.lw x)) Pl0 :=
 qur 385 Tryz.func219 Tryz.ntmps219 Tryz.func282 Tryz.ntmps282 qgk
theorem qjf:qqh 166 167 q1f (λx=>ii x) 0 :=
 qur 296 Tryz.func166 Tryz.ntmps166 Tryz.func221 Tryz.ntmps221 q8o
theorem qgl:qqh 166 217 q1f (λx=>ii x) 0 :=
 qur 296 Tryz.func166 Tryz.ntmps166 Tryz.func221 Tryz.ntmps221 q8o
def inS(n a b:Int):Bool:=decide (a<=n) && decide (n<=b)
theorem q1b{n b:Int} : cP 104 #[ii n,ii a,ii b] w λe w'=>e = .returned (.bool (inS n a b))/\w=w':=by
 refine inC ?_;go_in;go_wp2
 all_goals (go_returns;exact⟨by unfold inS;first | rfl | (simp;omega) | (simp;intros;omega),rfl⟩)
def qus(x a:Lv):Bool:=inS x.freq (wrap64 (a.freq + 1)) 10000 && inS x.power 0 1000000 && decide (wrap64 (a.power * x.freq)<=wrap64 (x.power * a.freq))
theorem qmb{x a:Lv} : cP 169 #[.agg (Lv.lw x),.agg (Lv.lw a)] w λe w'=>e = .returned (.bool (qus x a))/\bW w w':=by
 refine inC ?_;go_in;go_wp2_with (go_at_call 104;refine q1b.mono ?_;rintro _ _ ⟨rfl,rfl⟩)
 all_goals (go_returns;exact⟨q5k (by simp[qus, *]),zv⟩)
def qts(x:Np):Bool:=inS x.power 0 1000000 && inS x.enter 0 100000000 && inS x.wake 0 100000000
theorem qxr{x:Np} : cP 171 #[.agg (Np.lw x)] w λe w'=>e = .returned (.bool (qts x))/\bW w w':=by
 refine inC ?_;go_in;go_wp2_with (go_at_call 104;refine q1b.mono ?_;rintro _ _ ⟨rfl,rfl⟩)
 all_goals (go_returns;exact⟨q5k (by simp[qts, *]),zv⟩)
def qgm(x:Pw):Bool:=inS x.levels.l.length 1 6 && okF qus Lv0 x.levels.l && (decide ((x.naps.l.length:Int)<=4) && okF (λx _=>qts x) Np0 x.naps.l) && inS x.sw 0 100000000 && inS x.idle 0 1000000 && inS x.change 0 1000000 && inS x.quant 1 1000000000 && inS x.slow 1 1000000 && inS x.ppm 0 100000
theorem q9w{x:Pw} (hx:q1y.ok w x):cP 108 #[.agg (Pw.lw x)] w λe w'=>(∃ e' k:Int,e = .returned (.tuple #[ii e',ii k])/\decide (e'=0)=qgm x)/\bW w w':=by
 have hF:=λw' hb=>qge (W:=w') (p:=qus) (qb9.keep (W':=w') hx.1 hb) bR (λ_ _ _ _ _=>qmb);have hA:=λw' hb=>qm6 (w:=w') (q:=qts) (n:=4) (qe8.keep (W':=w') hx.2.1 hb) (λ_ _ _=>qxr);have hE:qgm x=qgm x:=rfl
 conv at hE=>rhs;unfold qgm
 have HE:=zhd hE;clear hE;generalize qgm x=R at *;generalize okF qus Lv0 x.levels.l=b1 at *;generalize (decide ((x.naps.l.length:Int)<=4) && okF (λx _=>qts x) Np0 x.naps.l)=b2 at *;refine inC ?_;go_in;go_wp2_with (first | (go_at_call 104;refine q1b.mono ?_;rintro _ _ ⟨rfl,rfl⟩) | (go_at_call 168;refine(up (W:=w) (hF _ zv) zv).mono ?_;rintro _ w1 ⟨⟨v,rfl,hv⟩,hb,hs,hc,hf,hl,hB⟩) | (go_at_call 170;refine(up (W:=w) (hA _ zv) zv).mono ?_;rintro _ w1 ⟨rfl,hb,hs,hc,hf,hl,hB⟩))
 all_goals (go_returns;refine⟨⟨_,_,rfl,?_⟩,zv⟩;rw[HE.out];first | (simp_all;done) | (cases b1 <;> simp_all <;> omega))
def qxs(x a:Rg):Bool:=inS x.base 0 1048576 && inS x.size 1 256 && decide (x.base<=wrap64 (1048576 - x.size)) && decide (wrap64 (a.base + a.size)<=x.base)
theorem qut{x a:Rg} : cP 210 #[.agg (Rg.lw x),.agg (Rg.lw a)] w λe w'=>e = .returned (.bool (qxs x a))/\bW w w':=by
 refine inC ?_;go_in;go_wp2_with (go_at_call 104;refine q1b.mono ?_;rintro _ _ ⟨rfl,rfl⟩)
 all_goals (go_returns;exact⟨q5k (by simp[qxs, *] <;> (intros;omega)),zv⟩)
def qmc(l:List Rg):Bool:=decide ((l.length:Int)<=4) && okF qxs Rg0 l
theorem qgn{l:Hd Rg} (hl:q8x.ok w l):cP 160 #[l.hq] w λe w'=>e = .returned (.bool (qmc l.l))/\bW w w':=by
 have hF:=λw' hb=>qgg (w:=w') (p:=qxs) hl hb (λ_ _ _ _ _=>qut);unfold qmc;generalize okF qxs Rg0 l.l=b1 at *;refine inC ?_;go_in;go_wp2_with (go_at_call 209;refine(up (W:=w) (hF _ zv) zv).mono ?_;rintro _ w1 ⟨⟨v,rfl,hv⟩,hb,hs,hc,hf,hl,hB⟩)
 all_goals (go_returns;refine⟨q5k ?_,zv⟩;first | (simp_all;done) | (cases b1 <;> simp_all <;> omega))
def qx3(x:Pc):Bool:=inS x.prio 0 63 && inS x.per 0 1000 && inS x.cost 1 1000000000
theorem qqi{x:Pc} : cP 162 #[.agg (Pc.lw x)] w λe w'=>e = .returned (.bool (qx3 x))/\bW w w':=by
 refine inC ?_;go_in;go_wp2_with (go_at_call 104;refine q1b.mono ?_;rintro _ _ ⟨rfl,rfl⟩)
 all_goals (go_returns;exact⟨q5k (by simp[qx3, *]),zv⟩)
def quu(x:Po):Bool:=if x.q=true then inS x.size 1 64 && inS x.depth 1 16 else inS x.size 1 64 && (x.depth == 0)
theorem qqj{x:Po} : cP 164 #[.agg (Po.lw x)] w λe w'=>e = .returned (.bool (quu x))/\bW w w':=by
 refine inC ?_;go_in;go_wp2_with (go_at_call 104;refine q1b.mono ?_;rintro _ _ ⟨rfl,rfl⟩)
 all_goals (go_returns;exact⟨q5k (by simp[quu, *]),zv⟩)
def qxt(x:Sm):Bool:=inS x.most 1 1000 && inS x.first 0 x.most
theorem qxu{x:Sm} : cP 215 #[.agg (Sm.lw x)] w λe w'=>e = .returned (.bool (qxt x))/\bW w w':=by
 refine inC ?_;go_in;go_wp2_with (go_at_call 104;refine q1b.mono ?_;rintro _ _ ⟨rfl,rfl⟩)
 all_goals (go_returns;exact⟨q5k (by simp[qxt, *]),zv⟩)
def qx4(x:Pl):Bool:=inS x.size 1 64 && inS x.depth 1 16
theorem qxv{x:Pl} : cP 216 #[.agg (Pl.lw x)] w λe w'=>e = .returned (.bool (qx4 x))/\bW w w':=by
 refine inC ?_;go_in;go_wp2_with (go_at_call 104;refine q1b.mono ?_;rintro _ _ ⟨rfl,rfl⟩)
 all_goals (go_returns;exact⟨q5k (by simp[qx4, *]),zv⟩)
theorem quv{n:Int} : cP 217 #[ii n] w λe w'=>e = .returned (.bool (inS n 1 64))/\bW w w':=by
 refine inC ?_;go_in;go_wp2_with (go_at_call 104;refine q1b.mono ?_;rintro _ _ ⟨rfl,rfl⟩)
 all_goals (go_returns;exact⟨rfl,zv⟩)
theorem quw{n:Int} : cP 167 #[ii n] w λe w'=>e = .returned (.bool (inS n 0 4))/\bW w w':=by
 refine inC ?_;go_in;go_wp2_with (go_at_call 104;refine q1b.mono ?_;rintro _ _ ⟨rfl,rfl⟩)
 all_goals (go_returns;exact⟨rfl,zv⟩)
def qpz{α : Type} (l:List α) (n:Int) (d : α) (q : α->Bool):Bool:=decide ((l.length:Int)<=n) && okF (λx _=>q x) d l
def qx5(x:Pt):Bool:=qpz x.sems.l 4 Sm0 qxt && inS x.flags 0 8 && qpz x.pools.l 4 Pl0 qx4 && qpz x.slates.l 4 0 (λn=>inS n 1 64)
theorem qgo{x:Pt} (h1:qb7.ok w x.sems) (h2:qb8.ok w x.pools) (h3:q1f.ok w x.slates):cP 165 #[.agg (Pt.lw x)] w λe w'=>e = .returned (.bool (qx5 x))/\bW w w':=by
 have gA:=λw' hb=>qm9 (w:=w') (q:=qxt) (n:=4) (qb7.keep (W':=w') h1 hb) (λ_ _ _=>qxu);have gB:=λw' hb=>qma (w:=w') (q:=qx4) (n:=4) (qb8.keep (W':=w') h2 hb) (λ_ _ _=>qxv);have gC:=λw' hb=>qgl (w:=w') (q:=λn=>inS n 1 64) (n:=4) (q1f.keep (W':=w') h3 hb) (λ_ _ _=>quv);unfold qx5 qpz;generalize (decide ((x.sems.l.length:Int)<=4) && okF (λx _=>qxt x) Sm0 x.sems.l)=b1 at *;generalize (decide ((x.pools.l.length:Int)<=4) && okF (λx _=>qx4 x) Pl0 x.pools.l)=b2 at *;generalize (decide ((x.slates.l.length:Int)<=4) && okF (λx _=>inS x 1 64) 0 x.slates.l)=b3 at *;refine inC ?_;go_in;go_wp2_with (first | (go_at_call 104;refine q1b.mono ?_;rintro _ _ ⟨rfl,rfl⟩) | (go_at_call 218;refine(up (W:=w) (gA _ zv) zv).mono ?_;rintro _ w1 ⟨rfl,hb,hs,hc,hf,hl,hB⟩) | (go_at_call 219;refine(up (W:=w) (gB _ zv) zv).mono ?_;rintro _ w1 ⟨rfl,hb,hs,hc,hf,hl,hB⟩) | (go_at_call 166;refine(up (W:=w) (gC _ zv) zv).mono ?_;rintro _ w1 ⟨rfl,hb,hs,hc,hf,hl,hB⟩))
 all_goals (go_returns;refine⟨q5k ?_,zv⟩;simp_all)
def qgp(x:Pt):Bool:=qmc x.regs.l && decide (x.procs.l.length≠0) && qpz x.procs.l 8 Pc0 qx3 && qpz x.ports.l 8 Po0 quu && qx5 x && inS x.cap 1 1000000000 && inS x.bud 0 1125899906842624 && inS x.lad 0 4 && decide (x.acts.l.length=5) && qpz x.acts.l 5 0 (λn=>inS n 0 4)
theorem qqk{x:Pt} (hx:qcu.ok w x):cP 107 #[.agg (Pt.lw x)] w λe w'=>(∃ z:Int,e = .returned (ii z)/\decide (z=0)=qgp x)/\bW w w':=by
 obtain⟨i1,i2,i3,i4,_,i6,i7,_,_,_,h2⟩:=hx;have hR:=λw' hb=>qgn (w:=w') (q8x.keep (W':=w') i1 hb);have gA:=λw' hb=>qm7 (w:=w') (q:=qx3) (n:=8) (q8y.keep (W':=w') i2 hb) (λ_ _ _=>qqi);have gB:=λw' hb=>qm8 (w:=w') (q:=quu) (n:=8) (qb6.keep (W':=w') i3 hb) (λ_ _ _=>qqj);have gO:=λw' hb=>qgo (w:=w') (x:=x) (qb7.keep (W':=w') i4 hb) (qb8.keep (W':=w') i6 hb) (q1f.keep (W':=w') i7 hb);have gC:=λw' hb=>qjf (w:=w') (q:=λn=>inS n 0 4) (n:=5) (q1f.keep (W':=w') h2 hb) (λ_ _ _=>quw);have hE:qgp x=qgp x:=rfl
 conv at hE=>rhs;unfold qgp qpz
 have HE:=zhd hE;clear hE;generalize qgp x=R at *;generalize qmc x.regs.l=b1 at *;generalize (decide ((x.procs.l.length:Int)<=8) && okF (λx _=>qx3 x) Pc0 x.procs.l)=b2 at *;generalize (decide ((x.ports.l.length:Int)<=8) && okF (λx _=>quu x) Po0 x.ports.l)=b3 at *;generalize qx5 x=b4 at *;generalize (decide ((x.acts.l.length:Int)<=5) && okF (λx _=>inS x 0 4) 0 x.acts.l)=b5 at *;have b0:bW w (w.alloc (.cells (Pt.lw x) 51)):=zv;have kp:=Blk.new w 51 (Pt.lw x);refine inC ?_;go_in;go_upto_region 1 with fail;generalize w.alloc (.cells (Pt.lw x) 51)=w1 at *;obtain⟨gp,h1⟩:∃ gp,gp=w.heap.size:=⟨_,rfl⟩
 rw[<- h1]at kp ⊢
 clear h1;obtain⟨cp,lp⟩:=kp.cl;go_wp2_with (first
  | (go_at_call 104;refine q1b.mono ?_;rintro _ _ ⟨rfl,rfl⟩)
  | ((go_at_call 160;refine(hR _ b0).mono ?_;rintro _ w2 ⟨rfl,h0⟩);have b0:=bt b0 h0;have kp:=kp.keep h0;obtain⟨cp,lp⟩:=kp.cl)
  | ((go_at_call 161;refine(gA _ b0).mono ?_;rintro _ w2 ⟨rfl,h0⟩);have b0:=bt b0 h0;have kp:=kp.keep h0;obtain⟨cp,lp⟩:=kp.cl)
  | ((go_at_call 163;refine(gB _ b0).mono ?_;rintro _ w2 ⟨rfl,h0⟩);have b0:=bt b0 h0;have kp:=kp.keep h0;obtain⟨cp,lp⟩:=kp.cl)
  | ((go_at_call 165;refine(gO _ b0).mono ?_;rintro _ w2 ⟨rfl,h0⟩);have b0:=bt b0 h0;have kp:=kp.keep h0;obtain⟨cp,lp⟩:=kp.cl)
  | ((go_at_call 166;refine(gC _ b0).mono ?_;rintro _ w2 ⟨rfl,h0⟩);have b0:=bt b0 h0;have kp:=kp.keep h0;obtain⟨cp,lp⟩:=kp.cl))
 all_goals (go_returns;refine⟨⟨_,rfl,?_⟩,b0⟩;rw[HE.out];first | (simp_all;done) | (simp_all <;> omega))
def qee(q:Nat->Bool) (n:Nat):Bool:=(List.range n).all q
theorem q7d{q:Nat->Bool} : qee q n=true↔∀ j,j < n->q j=true:=by unfold qee;simp
theorem qmd{q:Nat->Bool} {k:Nat} (hk:k < n) (h:q k=false):qee q n=false:=by
 cases e:qee q n with
 | false=>rfl
 | true=>rw[q7d.1 e k hk]at h;cases h
theorem qux{z:Int} {b:Bool} (h:decide (z=0)=b) (hb:b=true):z=0:=by rw[hb]at h;simpa using h
theorem quy{z:Int} {b:Bool} (h:decide (z=0)=b) (hb:b=false):z≠0:=by rw[hb]at h;simpa using h
theorem q5q{f:FuncId} {g:Nat} {q:Nat->Bool} (hf:∀ a w,(callFunc f a).run Tryz.prog w = .ok (.enter f a) w) (hn:n<=1000000) (hw:bW W w)
  (h:∀ w' (k:Nat),k < n->bW W w'->cP f #[ii k,pp g] w' λe w''=>(∃ z:Int,e = .returned (ii z)/\decide (z=0)=q k)/\bW w' w'') :
  cP 105 #[ii n,.func (.func f) #[] #[pp g]] w λe w'=>(∃ z k:Int,e = .returned (.tuple #[ii z,ii k])/\decide (z=0)=qee q n)/\bW W w':=by
 obtain⟨wo,rfl⟩:∃ wo:World,wo=W:=⟨_,rfl⟩
 refine inC ?_;go_in;go_wp2_with fail;go_loopw [9] (λi wr=>∃ k:Nat,i = .int .i64 k/\k<=n/\Hid (∀ j,j < k->q j=true)/\bW wo wr) (λi _=>n - (intOf i).toNat)
 case atStart=>exact⟨0,rfl,Nat.zero_le _,λj hj=>absurd hj (Nat.not_lt_zero j),hw⟩
 case round =>
  obtain⟨k,rfl,hkn,HQ,h0⟩:=hrel;by_cases hk:k < n
  .have hw1:wrap64 ((k:Int) + 1)=((k + 1:Nat):Int):=by unfold wrap64;omega
   have HC:=zhd (h wr k hk h0);have HK:=zhd hk;clear h hw;go_upto_region 5 with (refine HC.out.mono ?_;rintro _ w2 ⟨⟨z,rfl,hz⟩,hB⟩)
   have B2:=zhd (bt h0 hB);cases hq:q k with
   | true =>
    obtain rfl:=qux hz hq;have h2:Hid (∀ j,j < k + 1->q j=true):=λj hj=>by
     by_cases e:j=k
     .rw[e];exact hq
     .exact HQ.out j zo
    clear hq hz HQ hB;go_wp2_with fail;exact⟨⟨k + 1,by go_num,hk,h2,B2.out⟩,by simp[intOf];omega⟩
   | false =>
    have h1:=quy hz hq;have HR:Hid (qee q n=false):=qmd HK.out hq;have HZ:=zhd hz;have b1:decide (z≠0)=true:=decide_eq_true h1;clear hq hz HQ hB;go_wp2_with fail;go_returns;exact⟨⟨z,_,rfl,by rw[HR.out];simpa using h1⟩,B2.out⟩
  .have HR:Hid (qee q n=true):=q7d.2 λj hj=>HQ.out j zo;obtain rfl:k=n:=zo;clear h HQ;go_wp2_with fail;go_returns;exact⟨⟨0,0,rfl,by rw[HR.out];rfl⟩,h0⟩
theorem qjg{cf:Cf} {g k:Nat} (hx:q53.ok w cf.parts) (kg:Blk w g 33 (Cf.lw cf)) (hk:k < cf.parts.l.length) :
  cP 106 #[ii k,pp g] w λe w'=>(∃ z:Int,e = .returned (ii z)/\decide (z=0)=qgp (atD Pt0 cf.parts.l k))/\bW w w':=by
 obtain⟨sb,so,hA,hsb,h0⟩:=hx.1.at_ Pt0 hk;rw[show qcu.sz=11 from rfl]at h0
 have hp:=hx.2 _ (q0h (d:=Pt0) hk);have hn:=hx.1.len;have lg:=kg.lt;generalize atD Pt0 cf.parts.l k=y at *;have s0:w.cell? ⟨sb,so + k * 11,none⟩=some (.slice y.regs.A y.regs.l.length y.regs.c):=h0 0 _ rfl;have s1:w.cell? ⟨sb,so + k * 11 + 1,none⟩=some (.slice y.procs.A y.procs.l.length y.procs.c):=h0 1 _ rfl;have s2:w.cell? ⟨sb,so + k * 11 + 2,none⟩=some (.slice y.ports.A y.ports.l.length y.ports.c):=h0 2 _ rfl;have s3:w.cell? ⟨sb,so + k * 11 + 3,none⟩=some (.slice y.sems.A y.sems.l.length y.sems.c):=h0 3 _ rfl;have s4:w.cell? ⟨sb,so + k * 11 + 4,none⟩=some (ii y.flags):=h0 4 _ rfl;have s5:w.cell? ⟨sb,so + k * 11 + 5,none⟩=some (.slice y.pools.A y.pools.l.length y.pools.c):=h0 5 _ rfl;have s6:w.cell? ⟨sb,so + k * 11 + 6,none⟩=some (.slice y.slates.A y.slates.l.length y.slates.c):=h0 6 _ rfl;have s7:w.cell? ⟨sb,so + k * 11 + 7,none⟩=some (ii y.cap):=h0 7 _ rfl;have s8:w.cell? ⟨sb,so + k * 11 + 8,none⟩=some (ii y.bud):=h0 8 _ rfl;have s9:w.cell? ⟨sb,so + k * 11 + 9,none⟩=some (ii y.lad):=h0 9 _ rfl;have s10:w.cell? ⟨sb,so + k * 11 + 10,none⟩=some (.slice y.acts.A y.acts.l.length y.acts.c):=h0 10 _ rfl;have HC:=λw' hb=>qqk (qcu.keep (W':=w') hp hb);have c0:w.cell? ⟨g,0,none⟩=some (.slice cf.parts.A cf.parts.l.length cf.parts.c):=kg.cell 0;rw[hA]at c0
 clear h0 hA hx hp kg;refine inC ?_;go_in;go_wp2_with (go_at_call 107;refine(HC _ zv).mono ?_;rintro _ w2 ⟨⟨z,rfl,hz⟩,hB⟩);go_returns;exact⟨⟨z,rfl,hz⟩,hB⟩
def qba(cf:Cf) (m:Md) (x a:Wn):Bool:=inS x.part 0 (wrap64 (cf.parts.l.length - 1)) && inS x.start (wrap64 (a.start + a.len)) m.frame && inS x.len 1 (wrap64 (m.frame - x.start))
def qx6(cf:Cf) (x _:Wn):Bool:=qm2 cf.pw (atD Pt0 cf.parts.l x.part.toNat).cap x.len
def qjh(cf:Cf) (m:Md):Bool:=inS m.frame 1 1000000000 && decide (m.wins.l.length<=16) && okF (qba cf m) Wn0 m.wins.l && okF (qx6 cf) Wn0 m.wins.l
theorem qme{cf:Cf} {m:Md} {x a:Wn} {g h:Nat} (kg:Blk w g 33 (Cf.lw cf)) (kh:Blk w h 94 (Md.lw m)) :
  cP 227 #[.agg (Wn.lw x),.agg (Wn.lw a),pp g,pp h] w λe w'=>e = .returned (.bool (qba cf m x a))/\bW w w':=by
 have lg:=kg.lt;have lh:=kh.lt;have c0:=kg.cell 0;have d0:=kh.cell 0;clear kg kh;refine inC ?_;go_in;go_wp2_with (go_at_call 104;refine q1b.mono ?_;rintro _ _ ⟨rfl,rfl⟩)
 all_goals (go_returns;exact⟨q5k (by simp[qba, *]),zv⟩)
theorem qmf{cf:Cf} {x a:Wn} {g:Nat} (hx:q1k.ok w cf) (hp:0<=x.part/\x.part < cf.parts.l.length) (kg:Blk w g 33 #[.slice cf.parts.A cf.parts.l.length cf.parts.c,.slice cf.chans.A cf.chans.l.length cf.chans.c,.slice cf.modes.A cf.modes.l.length cf.modes.c,.slice cf.pw.levels.A cf.pw.levels.l.length cf.pw.levels.c,.slice cf.pw.naps.A cf.pw.naps.l.length cf.pw.naps.c,ii cf.pw.sw,ii cf.pw.idle,ii cf.pw.change,ii cf.pw.quant,ii cf.pw.slow,ii cf.pw.ppm,.slice cf.shed.down.A cf.shed.down.l.length cf.shed.down.c,.slice cf.shed.up.A cf.shed.up.l.length cf.shed.up.c]) :
  cP 229 #[.agg #[ii x.part,ii x.start,ii x.len],.agg #[ii a.part,ii a.start,ii a.len],pp g] w λe w'=>e = .returned (.bool (qx6 cf x a))/\bW w w':=by
 obtain⟨k,hk⟩:=Int.eq_ofNat_of_zero_le hp.1;have h4:k < cf.parts.l.length:=zo;obtain⟨sb,so,hA,h1,h2⟩:=hx.1.1.at_ Pt0 h4;rw[show qcu.sz=11 from rfl]at h2
 have h3:i64 (atD Pt0 cf.parts.l k).cap:=by
  have:=hx.1.2 _ (q0h (d:=Pt0) h4);exact this.2.2.2.2.2.2.2.1
 have lg:=kg.lt;have s7:w.cell? ⟨sb,so + k * 11 + 7,none⟩=some (ii (atD Pt0 cf.parts.l k).cap):=h2 7 _ rfl;have hn:=hx.1.1.len;have hf:=λw' hb=>qqd (q1y.keep (W':=w') hx.2.2.2.1 hb) (l:=x.len) h3;have HE:Hid (qx6 cf x a=qm2 cf.pw (atD Pt0 cf.parts.l k).cap x.len):=by unfold qx6;rw[hk];rfl
 generalize (atD Pt0 cf.parts.l k).cap=y at *;rw[hk];rw[HE.out];generalize qm2 cf.pw y x.len=R at *;have B1:bW w ((w.alloc (.cells #[ii (k:Int),ii x.start,ii x.len] 96)).alloc (.cells #[ii a.part,ii a.start,ii a.len] 96)):=zv;have kx:=(Blk.new w 96 #[ii (k:Int),ii x.start,ii x.len]).alloc (.cells #[ii a.part,ii a.start,ii a.len] 96);have h0:=kg.keep B1;have s7:((w.alloc (.cells #[ii (k:Int),ii x.start,ii x.len] 96)).alloc (.cells #[ii a.part,ii a.start,ii a.len] 96)).cell? ⟨sb,so + k * 11 + 7,none⟩=some (ii y):=by rw[<- s7];exact(qcl B1).1 _ _ h1
 have h1:=Nat.lt_of_lt_of_le h1 B1.size;clear h2 hx h3 HE kg hp hk lg;refine inC ?_;go_in;go_upto_region 1 with fail;generalize (w.alloc (.cells #[ii (k:Int),ii x.start,ii x.len] 96)).alloc (.cells #[ii a.part,ii a.start,ii a.len] 96)=w1 at *;have c0:w1.cell? ⟨g,0,none⟩=some (.slice cf.parts.A cf.parts.l.length cf.parts.c):=h0.cell 0;have c3:w1.cell? ⟨g,3,none⟩=some (.slice cf.pw.levels.A cf.pw.levels.l.length cf.pw.levels.c):=h0.cell 3;have c4:w1.cell? ⟨g,4,none⟩=some (.slice cf.pw.naps.A cf.pw.naps.l.length cf.pw.naps.c):=h0.cell 4;have c5:w1.cell? ⟨g,5,none⟩=some (ii cf.pw.sw):=h0.cell 5;have c6:w1.cell? ⟨g,6,none⟩=some (ii cf.pw.idle):=h0.cell 6;have c7:w1.cell? ⟨g,7,none⟩=some (ii cf.pw.change):=h0.cell 7;have c8:w1.cell? ⟨g,8,none⟩=some (ii cf.pw.quant):=h0.cell 8;have c9:w1.cell? ⟨g,9,none⟩=some (ii cf.pw.slow):=h0.cell 9;have c10:w1.cell? ⟨g,10,none⟩=some (ii cf.pw.ppm):=h0.cell 10;rw[hA]at c0
 have lg:=h0.lt;obtain⟨kc,lx⟩:=kx.cl;clear h0 kx hA;go_wp2_with (refine zD 11 λK' hK'=>?_;go_wp2_with fail;go_at_call 230;refine(hf _ (bt B1 bR.drew)).mono ?_;rintro _ w2 ⟨rfl,hB⟩;refine zE ?_;clear hK' K');go_returns;exact⟨rfl,bt (bt B1 bR.drew) hB⟩
theorem qmg{k:Nat} (h:k < n) (hn:n<=1000000):inS k 0 (wrap64 (n - 1))=true:=by
 unfold inS wrap64;simp;omega
theorem q9x{cf:Cf} {m:Md} (hn:cf.parts.l.length<=1000000):∀ {l:List Wn} {a:Wn},okF (qba cf m) a l=true->∀ x ∈ l,0<=x.part/\x.part < cf.parts.l.length
 | [],_,_,x,hx=>absurd hx List.not_mem_nil
 | y :: l,a,h,x,hx=>by
  have h':(qba cf m y a && okF (qba cf m) y l)=true:=h;rw[Bool.and_eq_true]at h'
  rcases List.mem_cons.1 hx with rfl | hx
  .have h1:=h'.1;unfold qba inS at h1;simp only[Bool.and_eq_true,decide_eq_true_eq]at h1;have:=h1.1.1;unfold wrap64 at this;omega
  .exact q9x hn h'.2 x hx
theorem qql{cf:Cf} {k:Nat} (hx:q1k.ok w cf) (hk:k < cf.modes.l.length) (h4:cf.modes.l.length<=1000000) (hpn:cf.parts.l.length<=1000000) :
  cP 175 #[.agg (Cf.lw cf),ii k] w λe w'=>(∃ z:Int,e = .returned (ii z)/\decide (z=0)=qjh cf (atD Md0 cf.modes.l k))/\bW w w':=by
 obtain⟨m,h3⟩:∃ m,atD Md0 cf.modes.l k=m:=⟨_,rfl⟩
 rw[h3];have hE:qjh cf m=qjh cf m:=rfl
 conv at hE=>rhs;unfold qjh
 have HE:=zhd hE;clear hE;generalize qjh cf m=R at *;have b0:bW w (w.alloc (.cells (Cf.lw cf) 33)):=zv;have kp:=Blk.new w 33 (Cf.lw cf);refine inC ?_;go_in;go_upto_region 1 with fail;generalize w.alloc (.cells (Cf.lw cf) 33)=w1 at *;obtain⟨g,hg⟩:∃ g,g=w.heap.size:=⟨_,rfl⟩
 rw[<- hg]at kp ⊢
 clear hg;have h1:=q1k.keep hx b0;obtain⟨sb,so,hA,hj,h5⟩:=h1.2.2.1.1.at_ Md0 hk;have hm:=h1.2.2.1.2 _ (q0h (d:=Md0) hk);have s0:w1.cell? ⟨sb,so + k * 2,none⟩=some (ii (atD Md0 cf.modes.l k).frame):=h5 0 _ rfl;have s1:w1.cell? ⟨sb,so + k * 2 + 1,none⟩=some (.slice (atD Md0 cf.modes.l k).wins.A (atD Md0 cf.modes.l k).wins.l.length (atD Md0 cf.modes.l k).wins.c):=h5 1 _ rfl;rw[h3]at hm s0 s1
 clear h3;have h7:=zhd b0;have h8:=zhd h1;have HIN:=qmg hk h4;have cp:=kp.cell;have c2:w1.cell? ⟨g,2,none⟩=some (.slice cf.modes.A cf.modes.l.length cf.modes.c):=kp.cell 2;have lg:=kp.lt;rw[hA]at c2
 clear cp h5 hA b0 hx h1 h4;go_upto_region 4 with (go_at_call 104;refine q1b.mono ?_;rintro _ _ ⟨rfl,rfl⟩)
 have B3:bW w1 (w1.alloc (.cells (Md.lw m) 94)):=zv;have kh:=Blk.new w1 94 (Md.lw m);have kg:=kp.keep B3;have h2:=z09.keep hm B3;have h9:=q1k.keep h8.out B3;have h0:=zhd (bt h7.out B3);have h4:=hm.2.1.len;clear hm c2 lg s0 s1 kp hj;generalize w1.alloc (.cells (Md.lw m) 94)=w3 at *;obtain⟨h,hh⟩:∃ h,h=w1.heap.size:=⟨_,rfl⟩
 rw[<- hh]at kh ⊢
 clear hh B3 h8 h7;have HA:Hid (∀ w',bW w3 w'->cP 228 #[.slice m.wins.A m.wins.l.length m.wins.c,.func (.func 227) #[] #[pp g,pp h]] w' λe w2=>(∃ v:Int,e = .returned (ii v)/\decide (v < 0)=okF (qba cf m) Wn0 m.wins.l)/\bW w' w2):=zhd λw' hb=>qec (W:=w') (qe7.keep h2.2 hb) bR λw2 x a _ hb2=>qme ((kg.keep hb).keep hb2) ((kh.keep hb).keep hb2);have HB:Hid (∀ w',bW w3 w'->okF (qba cf m) Wn0 m.wins.l=true->cP 228 #[.slice m.wins.A m.wins.l.length m.wins.c,.func (.func 229) #[] #[pp g]] w' λe w2=>(∃ v:Int,e = .returned (ii v)/\decide (v < 0)=okF (qx6 cf) Wn0 m.wins.l)/\bW w' w2):=zhd λw' hb hf=>qed (W:=w') (qe7.keep h2.2 hb) bR λw2 x a hxm hb2=>qmf (q1k.keep (q1k.keep h9 hb) hb2) (q9x hpn hf x hxm) ((kg.keep hb).keep hb2);clear h2 h9;generalize hb1:okF (qba cf m) Wn0 m.wins.l=b1 at *;generalize okF (qx6 cf) Wn0 m.wins.l=b2 at *;clear hb1;have lh:=kh.lt;have lg:=kg.lt;have d0:w3.cell? ⟨h,0,none⟩=some (ii m.frame):=kh.cell 0;have d1:w3.cell? ⟨h,1,none⟩=some (.slice m.wins.A m.wins.l.length m.wins.c):=kh.cell 1;have HKH:=zhd kh;clear kh kg;have h6:=up (W:=w3) (HA.out w3 bR) bR;clear HA;cases b1 with
 | false =>
  clear HB;go_wp2_with (first
   | (go_at_call 104;refine q1b.mono ?_;rintro _ _ ⟨rfl,rfl⟩)
   | ((with_reducible refine Calls.mono h6 ?_);rintro _ w4 ⟨⟨v,rfl,hv⟩,hb,hs,hc,hf,hl,hB⟩))
  all_goals first | (exfalso;simp_all;done) | (exfalso;simp_all;omega) | (go_returns;refine⟨⟨_,rfl,by rw[HE.out];simp_all⟩,?_⟩;first | exact bt h0.out hb | exact h0.out)
 | true =>
  have hd:=λw' hb=>HB.out w' hb rfl;go_wp2_with (first
   | (go_at_call 104;refine q1b.mono ?_;rintro _ _ ⟨rfl,rfl⟩)
   | ((with_reducible refine Calls.mono h6 ?_);rintro _ w4 ⟨⟨v,rfl,hv⟩,hb,hs,hc,hf,hl,hB⟩;have ha:=up (W:=w3) (hd w4 hb) hb)
   | ((with_reducible refine Calls.mono ha ?_);rintro _ w5 ⟨⟨v2,rfl,rfl⟩,he,hs5,hc5,hf5,hl5,hB5⟩))
  all_goals first | (exfalso;simp_all;done) | (exfalso;simp_all;omega) | (go_returns;refine⟨⟨_,rfl,by rw[HE.out];first | (simp_all;done) | (simp_all;omega)⟩,?_⟩;first | exact bt h0.out he | exact bt h0.out hb | exact h0.out)
end Go.Proofs.YtncfcbohiodnnaaGreat
