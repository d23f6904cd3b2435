/- Parts of this seat's claims. -/
import Derived.Test.YtncfcbohiodnnaaGreatW17
import Derived.Deep.RegionLaw
import Derived.Laws.StructEq
set_option maxRecDepth 100000
set_option maxHeartbeats 6400000
namespace Go.Proofs.YtncfcbohiodnnaaGreat
open Go.RowKit
variable{w w' W wa wo W':World} {c n pt r B j b m mb q base cap id B0:Nat} {A:Option Addr} {a code what:Int} {cs:Array Value}
def z2i(w:World) (first:Int) (e:Ending) (w':World):Prop:=∃ fb nb,e = .returned (.func (.func 126) #[] #[pp fb,pp nb])/\w.heap.size<=fb/\w.heap.size<=nb/\nb≠fb/\bW w w'/\Blk w' fb 3 #[ii first]/\Blk w' nb 3 #[ii 0]
theorem qho(w:World) (first:Int):cP 62 #[ii first] w (z2i w first):=by
 have b1:=Blk.new w 3 #[ii first];have B1:bW w (w.alloc (.cells #[ii first] 3)):=zv;have b2:=Blk.new (w.alloc (.cells #[ii first] 3)) 3 #[ii 0];have B2:Below (w.alloc (.cells #[ii first] 3)).heap.size (w.alloc (.cells #[ii first] 3)) ((w.alloc (.cells #[ii first] 3)).alloc (.cells #[ii 0] 3)):=zv;have hs:(w.alloc (.cells #[ii first] 3)).heap.size=w.heap.size + 1:=zp;refine inC ?_;go_in;go_wp2_with fail;go_returns;exact⟨w.heap.size,w.heap.size + 1,rfl,nL,zo,zo,bt B1 B2,b1.keep B2,by rw[hs]at b2;exact b2⟩
theorem qpb(w:World) (f:Fm):cP 63 #[.agg (Fm.lw f)] w λe w'=>e = .returned (ii (q8s f.drift))/\bW w w':=by
 by_cases h1:f.drift <= -1000000
 .have b1:decide (f.drift <= -1000000)=true:=decide_eq_true h1;have HE:=zhd (show q8s f.drift=0 from if_pos (.inl h1));clear h1;refine inC ?_;go_in;go_wp2_with fail;go_returns;exact⟨q0w (by rw[HE.out]),zv⟩
 .have b1:decide (f.drift <= -1000000)=false:=decide_eq_false h1;by_cases h2:1000000<=f.drift
  .have b2:decide (1000000<=f.drift)=true:=decide_eq_true h2;have HE:=zhd (show q8s f.drift=0 from if_pos (.inr h2));clear h1 h2;refine inC ?_;go_in;go_wp2_with fail;go_returns;exact⟨q0w (by rw[HE.out]),zv⟩
  .have b2:decide (1000000<=f.drift)=false:=decide_eq_false h2;have HE:=zhd (show q8s f.drift=f.drift from if_neg zo);clear h1 h2;refine inC ?_;go_in;go_wp2_with fail;go_returns;exact⟨q0w (by rw[HE.out]),zv⟩
theorem qwj(w:World) (x y:Int):cP 67 #[ii x,ii y] w λe w'=>e = .returned (.bool (isR x y))/\w=w':=by
 by_cases h:0 < x
 .have h1:decide (0 < x)=true:=by simpa using h
  have HF:Hid (isR x y=decide (x<=y)):=by unfold isR Hid;rw[h1];simp
  refine inC ?_;go_in;go_wp2;go_ret;exact⟨by rw[HF.out];rfl,rfl⟩
 .have h1:decide (0 < x)=false:=by simpa using h
  have HF:Hid (isR x y=false):=by unfold isR Hid;rw[h1];simp
  refine inC ?_;go_in;go_wp2;go_ret;exact⟨by rw[HF.out];rfl,rfl⟩
theorem qpe{c:Pw} {k:Nat} (hk:k<=8):cP 57 #[.agg (Pw.lw c),ii k] w λe w'=>(∃ p g r,e = .returned (pp p)/\PnR w' p g r c ⟨0,0,0,wrap64 (c.levels.l.length - 1),⟨List.replicate k 0,0,0,0,0,0⟩⟩/\w.heap.size<=p/\w.heap.size<=g/\w.heap.size<=r)/\bW w w':=by
 have b0:bW w (w.alloc (.cells (Pw.lw c) 28)):=zv;have kc:=Blk.new w 28 (Pw.lw c);refine inC ?_;go_in;go_upto_region 1 with fail;generalize w.alloc (.cells (Pw.lw c) 28)=w1 at *;obtain⟨g0,h3⟩:∃ g0,g0=w.heap.size:=⟨_,rfl⟩
 rw[<- h3]at kc ⊢
 clear h3;obtain⟨cc,lc⟩:=kc.cl;refine zW [(7,0),(1,2)] λK' hK'=>?_;go_wp2_with fail;refine(qr7 (w:=w1.drew) hk).mono ?_;rintro _ w2 ⟨⟨g,r,rfl,M,hg,hr⟩,h4⟩;have B2:bW w1 w2:=bt bR.drew h4;refine hK' _ _ rfl (q01 (fO B2 _)) ?_;clear hK' K';(try simp only[tkO,dpO]);(repeat(go_big_quiet_step (fail)));refine qwB (λK' hK'=>?_);go_wp2_with fail;refine hK' _ _ rfl ?_;clear hK' K';(try simp only[q03,tkO,dpO]);(repeat(go_big_quiet_step (fail)));refine wpQuiet_nil ?_;go_wp2_with fail;go_returns;have h0:=b0.size;have h1:w1.drew.heap.size=w1.heap.size:=rfl;have h2:=B2.size;refine⟨⟨w2.heap.size,g,r,rfl,⟨Blk.new w2 183 _,⟨M.b.alloc _,M.c.alloc _,M.ne,M.n⟩,?_,?_⟩,zo,zo,zo⟩,bt b0 (B2.alloc B2.size _)⟩
 .have:=M.b.lt;intro e;omega
 .have:=M.c.lt;intro e;omega
theorem w64(h:i64 a):wrap64 a=a:=by unfold i64 at h;unfold wrap64;omega
theorem q2q{n b:Int} : inS n a b=true↔a<=n/\n<=b:=by unfold inS;simp
theorem qdr{α : Type} {p : α->α->Bool} {q : α->Prop} (hq:∀ x a,p x a=true->q x):∀ {l:List α} {a : α},okF p a l=true->∀ x ∈ l,q x
 | [],_,_,x,h=>absurd h List.not_mem_nil
 | y :: l,a,h,x,hx=>by
  have h':(p y a && okF p y l)=true:=h;rw[Bool.and_eq_true]at h'
  rcases List.mem_cons.1 hx with rfl | hx
  .exact hq _ _ h'.1
  .exact qdr hq h'.2 x hx
structure PwI(c:Pw):Prop where
 ln:1<=c.levels.l.length/\c.levels.l.length<=6
 lp:∀ j,j < c.levels.l.length->0<=(atD Lv0 c.levels.l j).power/\(atD Lv0 c.levels.l j).power<=1000000
 np:∀ j,j < c.naps.l.length->qts (atD Np0 c.naps.l j)=true
 sw:0<=c.sw/\c.sw<=100000000
 id:0<=c.idle/\c.idle<=1000000
 ch:0<=c.change/\c.change<=1000000
 qu:1<=c.quant
 sl:1<=c.slow/\c.slow<=1000000
 pp:0<=c.ppm/\c.ppm<=100000
theorem z1x{c:Pw} (h:qgm c=true):PwI c:=by
 unfold qgm at h;simp only[Bool.and_eq_true,q2q,decide_eq_true_eq]at h;obtain⟨⟨⟨⟨⟨⟨⟨⟨h1,h2⟩,h3,h4⟩,h5⟩,h6⟩,h7⟩,h8⟩,h9⟩,h0⟩:=h;refine⟨zo,λj hj=>?_,λj hj=>qdr (p:=λx _=>qts x) (q:=λx=>qts x=true) (λ_ _ h=>h) h4 _ (q9v Np0 hj),h5,h6,h7,h8.1,h9,h0⟩;refine qdr (p:=qus) (q:=λx=>0<=x.power/\x.power<=1000000) (λx a h=>?_) h2 _ (q9v Lv0 hj);unfold qus at h;simp only[Bool.and_eq_true,q2q]at h;exact h.1.2
section
open Go.ChangeShapes Go.WideShapes Go.ChangeAt Go.RowKit Go.Joins
section
variable{H:Type} {enc:TypeId×Value->H} {W:World} {r:Reach} {base:Nat} {v:Value} {d:DataW H} {p:List MemPlace}
theorem qpx(hv:Value.okWide Tryz.prog W r base 33 v) (h:DataW.Trod enc Tryz.prog W 0 (λ_=>true) true 33 v d p):∃ x:Cf,v = .agg (Cf.lw x)/\q1k.ok W x:=by
 obtain⟨x,e,h⟩:=qtm q1k qx1 zk hv h;exact⟨x,e,h⟩
theorem qug(hv:Value.okWide Tryz.prog W r base 37 v) (h:DataW.Trod enc Tryz.prog W 0 (λ_=>true) true 37 v d p):∃ x:Sc,v = .agg #[x.progs.hq,x.frames.hq]/\q73.ok W x:=by
 obtain⟨x,e,h⟩:=qtm q73 z0r zk hv h;exact⟨x,e,h⟩
end
end
def z0m(a b:En):Bool:=(a.part == b.part) && (a.port == b.port)
def qx9(a:Po) (x y:Ch):Bool:=z0m y.to x.to || (a.q && z0m y.fr x.fr)
theorem qvm(a b c d:Int) (w:World):(Op.equalIn 10000 139 (.agg #[ii a,ii b]) (.agg #[ii c,ii d])).run Tryz.prog w = .ok ((a == c) && (b == d)) w:=by
 have hS:Tryz.prog.underlying 139=some (.struct (Tryz.prog.fieldsOf 139)):=zk;have hp:Tryz.prog.stoodInHeld 139=false:=zk;rw[show(10000:Nat)=9999 + 1 from rfl,run_equalIn_agg w 9999 139 _ _ hS hp];simp only[Program.fieldsOf,Tryz.underlying139];have ui:=q79;have ai:=Tryz.isAgg3;have zi:=Tryz.sizeOf3;clear hS hp;go_simp
 by_cases h0:a=c <;> by_cases h1:b=d <;> simp[h0,h1]
theorem qni{x y:Ch} {a:Po} {g h:Nat} (kg:Blk w g 141 #[ii x.fr.part,ii x.fr.port,ii x.to.part,ii x.to.port]) (kh:Blk w h 199 (Po.lw a)) :
  cP 226 #[.agg #[ii y.fr.part,ii y.fr.port,ii y.to.part,ii y.to.port],pp g,pp h] w λe w'=>e = .returned (.bool (qx9 a x y))/\bW w w':=by
 have hm:Tryz.prog.eqGuardType Tryz.prog.depth 139=false:=zk;have hq:=qvm;have kc:=kg.cell;have hc:=kh.cell;have lg:=kg.lt;have lh:=kh.lt;clear kg kh;obtain⟨⟨f1,f2⟩,⟨t1,t2⟩⟩:=y;obtain⟨⟨x1,x2⟩,⟨x3,x4⟩⟩:=x;refine inC ?_;go_in;go_wp2_with fail
 all_goals (go_returns;exact⟨q5k (by unfold qx9 z0m;by_cases e1:t1=x3 <;> by_cases e2:t2=x4 <;> simp_all),zv⟩)
theorem qnj{α : Type} {d : α} {l:List α} {q : α->Bool} (h:∀ j,j < l.length->q (atD d l j)=false):l.any q=false:=by
 rw[List.any_eq_false];intro x hx;obtain⟨j,hj,rfl⟩:=List.getElem_of_mem hx;have:=h j hj;rw[q0s hj]at this
 simp[this]
theorem qh4{α : Type} {d : α} {l:List α} {q : α->Bool} {k:Nat} (hk:k < l.length) (h:q (atD d l k)=true):l.any q=true:=List.any_eq_true.2 ⟨_,q9v d hk,h⟩
theorem qnk{l:List Ch} {q:Ch->Bool} {g h:Nat} (hl:SlG W A l.length c 4 Ch.f l) (hw:bW W w)
  (hp:∀ w' x,bW W w'->cP 226 #[.agg #[ii x.fr.part,ii x.fr.port,ii x.to.part,ii x.to.port],pp g,pp h] w' λe w''=>e = .returned (.bool (q x))/\bW w' w'') :
  cP 283 #[.slice A l.length c,.func (.func 226) #[] #[pp g,pp h]] w λe w'=>(∃ v:Int,e = .returned (ii v)/\decide (0<=v)=l.any q)/\bW W w':=by
 have hn:=hl.len;obtain⟨R,hR⟩:∃ R,R=l.any q:=⟨_,rfl⟩
 rw[<- hR];have HR:=zhd hR;clear hR;obtain⟨wo,rfl⟩:∃ wo:World,wo=W:=⟨_,rfl⟩
 refine inC ?_;go_in;go_wp2_with fail;go_loopw [8] (λi wr=>∃ k:Nat,i = .int .i64 k/\k<=l.length/\Hid (∀ j,j < k->q (atD Ch0 l j)=false)/\bW wo wr) (λi _=>l.length - (intOf i).toNat)
 case atStart=>exact⟨0,rfl,Nat.zero_le _,λj hj=>absurd hj (Nat.not_lt_zero j),hw⟩
 case round =>
  obtain⟨k,rfl,hkn,HQ,h0⟩:=hrel;by_cases hk:k < l.length
  .obtain⟨sb,so,hA,hsb,h1⟩:=(hl.keep h0).at_ Ch0 hk;have s0:wr.cell? ⟨sb,so + k * 4,none⟩=some (ii (atD Ch0 l k).fr.part):=h1 0 _ rfl;have s1:=h1 1 _ rfl;have s2:=h1 2 _ rfl;have s3:=h1 3 _ rfl;clear h1;have HN:Hid (q (atD Ch0 l k)=false->∀ j,j < k + 1->q (atD Ch0 l j)=false):=λh j hj=>by
    by_cases e:j=k
    .rw[e];exact h
    .exact HQ.out j zo
   have HY:Hid (q (atD Ch0 l k)=true->R=true):=λh=>HR.out.trans (qh4 hk h);generalize atD Ch0 l k=x at *;have hP:=λw' hb=>hp w' x hb;have hw1:wrap64 ((k:Int) + 1)=((k + 1:Nat):Int):=by unfold wrap64;omega
   rw[hA];generalize q x=b at *;clear HQ HR hp hw hl hA;cases b with
   | true =>
    have h4:=zhd (HY.out rfl);clear HN HY;go_wp2_with (go_at_call 226;refine(up (W:=wo) (hP _ h0) h0).mono ?_;rintro _ w8 ⟨rfl,hb,hs,hc,hf,hl,hB⟩);go_returns;exact⟨⟨k,rfl,by rw[h4.out];simp⟩,hb⟩
   | false =>
    have h2:=zhd (HN.out rfl);clear HN HY;go_wp2_with (go_at_call 226;refine(up (W:=wo) (hP _ h0) h0).mono ?_;rintro _ w8 ⟨rfl,hb,hs,hc,hf,hl,hB⟩);exact⟨⟨k + 1,by go_num,hk,h2,hb⟩,by simp[intOf];omega⟩
  .have h3:Hid (R=false):=HR.out.trans (qnj (d:=Ch0) λj hj=>HQ.out j zo);obtain rfl:k=l.length:=zo;clear HR HQ hp;go_wp2_with fail;go_returns;exact⟨⟨-1,rfl,by rw[h3.out];rfl⟩,h0⟩
theorem qnl{l:List Ch} {q:Ch->Bool} {g h:Nat} (hl:SlG w A l.length c 4 Ch.f l)
  (hp:∀ w' x,bW w w'->cP 226 #[.agg #[ii x.fr.part,ii x.fr.port,ii x.to.part,ii x.to.port],pp g,pp h] w' λe w''=>e = .returned (.bool (q x))/\bW w' w'') :
  cP 225 #[.slice A l.length c,.func (.func 226) #[] #[pp g,pp h]] w λe w'=>e = .returned (.bool (l.any q))/\bW w w':=by
 have hF:=qnk hl bR hp;generalize l.any q=R at *;clear hp hl;refine inC ?_;go_in;go_wp2_with (go_at_call 283;refine(hF).mono ?_;rintro _ w2 ⟨⟨v,rfl,hv⟩,hB⟩);go_returns;exact⟨by rw[<- hv];rfl,hB⟩
def qvn(x:Ch) (a b:Po) (i j:Bool):Bool:=!i || !j || decide (x.fr.part=x.to.part) || a.inn || !b.inn || (a.q != b.q) || decide (b.size < a.size)
def qnn(cf:Cf) (k:Nat):Bool :=
 let x:=atD Ch0 cf.chans.l k
 !(qvn x (qef cf x.fr).1 (qef cf x.to).1 (qef cf x.fr).2 (qef cf x.to).2) && !((cf.chans.l.take k).any (qx9 (qef cf x.fr).1 x))
theorem qri{cf:Cf} {k:Nat} (hx:q1k.ok w cf) (hk:k < cf.chans.l.length) (hcn:cf.chans.l.length<=1000000) :
  cP 173 #[.agg (Cf.lw cf),ii k] w λe w'=>e = .returned (.bool (qnn cf k))/\bW w w':=by
 obtain⟨x,hz⟩:∃ x,atD Ch0 cf.chans.l k=x:=⟨_,rfl⟩
 obtain⟨⟨a,ia⟩,hu⟩:∃ y,qef cf x.fr=y:=⟨_,rfl⟩
 obtain⟨⟨b,ib⟩,hv⟩:∃ y,qef cf x.to=y:=⟨_,rfl⟩
 have HE:Hid (qnn cf k=(!(qvn x a b ia ib) && !((cf.chans.l.take k).any (qx9 a x)))):=by show qnn cf k=_;unfold qnn;simp only[hz,hu,hv]
 generalize qnn cf k=R at *;have b0:bW w (w.alloc (.cells (Cf.lw cf) 33)):=zv;have kp:=Blk.new w 33 (Cf.lw cf);have H3:=zhd λ(w':World) (hb:bW w w')=>qeg (q53.keep hx.1 hb) hu;have H4:=zhd λ(w':World) (hb:bW w w')=>qeg (q53.keep hx.1 hb) hv;refine inC ?_;go_in;go_upto_region 1 with fail;generalize w.alloc (.cells (Cf.lw cf) 33)=w1 at *;obtain⟨g,hg⟩:∃ g,g=w.heap.size:=⟨_,rfl⟩
 rw[<- hg]at kp ⊢
 have hn:=q1k.keep hx b0;obtain⟨sb,so,hA,Hg,h8⟩:=hn.2.1.1.at_ Ch0 hk;rw[hz]at h8
 have s0:w1.cell? ⟨sb,so + k * 4,none⟩=some (ii x.fr.part):=h8 0 _ rfl;have s1:w1.cell? ⟨sb,so + k * 4 + 1,none⟩=some (ii x.fr.port):=h8 1 _ rfl;have s2:w1.cell? ⟨sb,so + k * 4 + 2,none⟩=some (ii x.to.part):=h8 2 _ rfl;have s3:w1.cell? ⟨sb,so + k * 4 + 3,none⟩=some (ii x.to.port):=h8 3 _ rfl;have H1:=zhd b0;have H6:=zhd hn;have Hc:=qmg hk hcn;have kc:=kp.cell;have c1:w1.cell? ⟨g,1,none⟩=some (.slice cf.chans.A cf.chans.l.length cf.chans.c):=kp.cell 1;have lg:=kp.lt;have H5:=zhd kp;have HA:=zhd hA;rw[hA]at c1
 have Hf:k<=cf.chans.c:=by have:=hn.2.1.1.1.2.1;omega
 have hd:=zhd (λw=>q4p qyo qng w cf.chans.A cf.chans.l.length cf.chans.c k Hf);clear kc h8 hA b0 hx hn hcn hg hu hv hz;go_upto_region 4 with (go_at_call 104;refine q1b.mono ?_;rintro _ _ ⟨rfl,rfl⟩)
 have B2:bW w1 (w1.alloc (.cells #[ii x.fr.part,ii x.fr.port,ii x.to.part,ii x.to.port] 141)):=zv;have kh:=Blk.new w1 141 #[ii x.fr.part,ii x.fr.port,ii x.to.part,ii x.to.port];have hp:=H5.out.keep B2;have hq:=zhd (bt H1.out B2);generalize w1.alloc (.cells #[ii x.fr.part,ii x.fr.port,ii x.to.part,ii x.to.port] 141)=w2 at *;obtain⟨h,hh⟩:∃ h,h=w1.heap.size:=⟨_,rfl⟩
 rw[<- hh]at kh ⊢
 have H7:=zhd (q1k.keep H6.out B2);have hj:=zhd hp;have hm:=zhd kh;obtain⟨kc,lg⟩:=hp.cl;obtain⟨hc,lh⟩:=kh.cl;clear s0 s1 s2 s3 c1 Hg kh hp B2 hh H6 H1;go_upto_region 5 with ((go_at_call 224;refine(H3.out _ hq.out).mono ?_;rintro _ w3 ⟨rfl,h3⟩);obtain⟨kc,lg⟩:=(hj.out.keep h3).cl;obtain⟨hc,lh⟩:=(hm.out.keep h3).cl)
 have B4:bW w3 (w3.alloc (.cells (Po.lw a) 199)):=zv;have ka:=Blk.new w3 199 (Po.lw a);have ha:=bt h3 B4;have Hh:=h3.size;generalize w3.alloc (.cells (Po.lw a) 199)=w4 at *;obtain⟨ga,Ha⟩:∃ ga,ga=w3.heap.size:=⟨_,rfl⟩
 rw[<- Ha]at ka ⊢
 have hr:=zhd (bt hq.out ha);have H8:=zhd (q1k.keep H7.out ha);have h6:=zhd (hj.out.keep ha);have h7:=zhd (hm.out.keep ha);have hf:=zhd ka;obtain⟨kc,lg⟩:=h6.out.cl;obtain⟨hc,lh⟩:=h7.out.cl;obtain⟨ac,la⟩:=ka.cl;clear ka B4 ha h3 Ha Hh hj hm H7 hq;go_upto_region 6 with ((go_at_call 224;refine(H4.out _ hr.out).mono ?_;rintro _ w5 ⟨rfl,h1⟩);obtain⟨kc,lg⟩:=(h6.out.keep h1).cl;obtain⟨hc,lh⟩:=(h7.out.keep h1).cl;obtain⟨ac,la⟩:=(hf.out.keep h1).cl)
 have B6:bW w5 (w5.alloc (.cells (Po.lw b) 199)):=zv;have kb:=Blk.new w5 199 (Po.lw b);have h5:=bt h1 B6;generalize w5.alloc (.cells (Po.lw b) 199)=w6 at *;obtain⟨gb,Hb⟩:∃ gb,gb=w5.heap.size:=⟨_,rfl⟩
 rw[<- Hb]at kb ⊢
 have H2:=zhd (bt hr.out h5);have H9:=zhd (q1k.keep H8.out h5);have H0:=h6.out.keep h5;have he:=h7.out.keep h5;have h9:=hf.out.keep h5;have h0:w6.cell? ⟨h,0,none⟩=some (ii x.fr.part):=he.cell 0;have h2:w6.cell? ⟨h,2,none⟩=some (ii x.to.part):=he.cell 2;have lh:=he.lt;have a0:w6.cell? ⟨ga,0,none⟩=some (.bool a.q):=h9.cell 0;have a1:w6.cell? ⟨ga,1,none⟩=some (.bool a.inn):=h9.cell 1;have a2:w6.cell? ⟨ga,2,none⟩=some (ii a.size):=h9.cell 2;have la:=h9.lt;have b0:w6.cell? ⟨gb,0,none⟩=some (.bool b.q):=kb.cell 0;have b1:w6.cell? ⟨gb,1,none⟩=some (.bool b.inn):=kb.cell 1;have b2:w6.cell? ⟨gb,2,none⟩=some (ii b.size):=kb.cell 2;have lb:=kb.lt;have c1:w6.cell? ⟨g,1,none⟩=some (.slice cf.chans.A cf.chans.l.length cf.chans.c):=H0.cell 1;have lg:=H0.lt;have hy:(cf.chans.l.take k).length=k:=by rw[List.length_take];omega
 have h4:=qnl (w:=w6) (l:=cf.chans.l.take k) (q:=qx9 a x) (g:=h) (h:=ga) (by rw[hy];exact SlG.take H9.out.2.1.1 (Nat.le_of_lt hk)) (λw' y hb=>qni (he.keep hb) (h9.keep hb));rw[hy]at h4
 have hs:=zhd h4;have hcut:=hd.out;clear kc hc ac kb H0 he h9 B6 h5 h1 Hb h6 h7 hf H8 H9 hr h4 hy H3 H4 Hc HA H5 hd hk;generalize (cf.chans.l.take k).any (qx9 a x)=r3 at *;have ht:=hs.out;go_wp2_with (go_at_call 225;refine(ht).mono ?_;rintro _ w7 ⟨rfl,He⟩)
 all_goals (go_returns;refine⟨q5k ?_,?_⟩;rotate_left;first | exact bt H2.out He | exact H2.out)
 all_goals (rw[HE.out];unfold qvn;first | (simp_all;done) | (cases r3 <;> simp_all <;> omega) | (simp_all;omega))
theorem qrj{cf:Cf} {g k:Nat} (hx:q1k.ok w cf) (kg:Blk w g 33 (Cf.lw cf)) (hk:k < cf.chans.l.length) (hcn:cf.chans.l.length<=1000000) :
  cP 172 #[ii k,pp g] w λe w'=>(∃ z:Int,e = .returned (ii z)/\decide (z=0)=qnn cf k)/\bW w w':=by
 have hc:=qri hx hk hcn;obtain⟨kc,lg⟩:=kg.cl;generalize qnn cf k=b at *;clear kg hx hcn hk;cases b with
 | true =>
  refine inC ?_;go_in;go_wp2_with (go_at_call 173;refine(hc).mono ?_;rintro _ w2 ⟨rfl,hB⟩);go_returns;exact⟨⟨0,rfl,rfl⟩,hB⟩
 | false =>
  refine inC ?_;go_in;go_wp2_with (go_at_call 173;refine(hc).mono ?_;rintro _ w2 ⟨rfl,hB⟩);go_returns;exact⟨⟨25,rfl,rfl⟩,hB⟩
theorem qrk{cf:Cf} {g k:Nat} (hx:q1k.ok w cf) (kg:Blk w g 33 (Cf.lw cf)) (hk:k < cf.modes.l.length) (hmn:cf.modes.l.length<=1000000) (hpn:cf.parts.l.length<=1000000) :
  cP 174 #[ii k,pp g] w λe w'=>(∃ z:Int,e = .returned (ii z)/\decide (z=0)=qjh cf (atD Md0 cf.modes.l k))/\bW w w':=by
 have hc:=qql hx hk hmn hpn;obtain⟨kc,lg⟩:=kg.cl;generalize qjh cf (atD Md0 cf.modes.l k)=b at *;clear kg hx hmn hk hpn;refine inC ?_;go_in;go_wp2_with (go_at_call 175;refine(hc).mono ?_;rintro _ w2 ⟨⟨z,rfl,hz⟩,hB⟩);go_returns;exact⟨⟨z,rfl,hz⟩,hB⟩
def qbh(cf:Cf):Bool:=decide (cf.chans.l.length<=16) && qee (qnn cf) cf.chans.l.length
def qbi(cf:Cf):Bool:=inS cf.modes.l.length 1 4 && qee (λk=>qjh cf (atD Md0 cf.modes.l k)) cf.modes.l.length
theorem qvo{cf:Cf} (hx:q1k.ok w cf) :
  cP 109 #[.agg (Cf.lw cf)] w λe w'=>(∃ z k:Int,e = .returned (.tuple #[ii z,ii k])/\decide (z=0)=qbh cf)/\bW w w':=by
 have b0:bW w (w.alloc (.cells (Cf.lw cf) 33)):=zv;have kp:=Blk.new w 33 (Cf.lw cf);have hn:=hx.2.1.1.len;refine inC ?_;go_in;go_upto_region 1 with fail;generalize w.alloc (.cells (Cf.lw cf) 33)=w1 at *;obtain⟨g,hg⟩:∃ g,g=w.heap.size:=⟨_,rfl⟩
 rw[<- hg]at kp ⊢
 clear hg;have c1:=kp.cell 1;have lg:=kp.lt;by_cases q:cf.chans.l.length<=16
 .have hN:=q5q (W:=w1) (w:=w1) (f:=172) (n:=cf.chans.l.length) (g:=g) (q:=qnn cf) (λa w=>by kernel_rfl) zo bR (λw' k hk hb=>qrj (q1k.keep (q1k.keep hx b0) hb) (kp.keep hb) hk zo);have HE:Hid (qbh cf=qee (qnn cf) cf.chans.l.length):=by show qbh cf=_;unfold qbh;rw[decide_eq_true q];rfl
  have d1:decide (16 < cf.chans.l.length)=false:=decide_eq_false zo;generalize qee (qnn cf) cf.chans.l.length=R at *;clear kp hx;go_wp2_with (go_at_call 105;refine(hN).mono ?_;rintro _ w2 ⟨⟨z,k,rfl,hz⟩,hB⟩)
  all_goals first | (exfalso;omega) | (go_returns;exact⟨⟨z,k,rfl,by rw[HE.out];exact hz⟩,bt b0 hB⟩)
 .have HE:Hid (qbh cf=false):=by show qbh cf=_;unfold qbh;rw[decide_eq_false q];rfl
  have d1:decide (16 < cf.chans.l.length)=true:=decide_eq_true zo;clear kp hx;go_wp2_with fail
  all_goals first | (exfalso;omega) | (go_returns;exact⟨⟨25,0,rfl,by rw[HE.out];rfl⟩,b0⟩)
theorem qvp{cf:Cf} (hx:q1k.ok w cf) (hpn:cf.parts.l.length<=1000000) :
  cP 110 #[.agg (Cf.lw cf)] w λe w'=>(∃ z k:Int,e = .returned (.tuple #[ii z,ii k])/\decide (z=0)=qbi cf)/\bW w w':=by
 have b0:bW w (w.alloc (.cells (Cf.lw cf) 33)):=zv;have kp:=Blk.new w 33 (Cf.lw cf);have hn:=hx.2.2.1.1.len;refine inC ?_;go_in;go_upto_region 1 with fail;generalize w.alloc (.cells (Cf.lw cf) 33)=w1 at *;obtain⟨g,hg⟩:∃ g,g=w.heap.size:=⟨_,rfl⟩
 rw[<- hg]at kp ⊢
 clear hg;have c2:=kp.cell 2;have lg:=kp.lt;cases q:inS cf.modes.l.length 1 4 with
 | true =>
  have hN:=q5q (W:=w1) (w:=w1) (f:=174) (n:=cf.modes.l.length) (g:=g) (q:=λk=>qjh cf (atD Md0 cf.modes.l k)) (λa w=>by kernel_rfl) (by unfold inS at q;simp at q;omega) bR (λw' k hk hb=>qrk (q1k.keep (q1k.keep hx b0) hb) (kp.keep hb) hk (by unfold inS at q;simp at q;omega) hpn);have HE:Hid (qbi cf=qee (λk=>qjh cf (atD Md0 cf.modes.l k)) cf.modes.l.length):=by show qbi cf=_;unfold qbi;rw[q];rfl
  generalize qee (λk=>qjh cf (atD Md0 cf.modes.l k)) cf.modes.l.length=R at *;clear kp hx;go_wp2_with (first | (go_at_call 104;refine q1b.mono ?_;rintro _ _ ⟨rfl,rfl⟩) | (go_at_call 105;refine(hN).mono ?_;rintro _ w2 ⟨⟨z,k,rfl,hz⟩,hB⟩))
  all_goals (go_returns;exact⟨⟨z,k,rfl,by rw[HE.out];exact hz⟩,bt b0 hB⟩)
 | false =>
  have HE:Hid (qbi cf=false):=by show qbi cf=_;unfold qbi;rw[q];rfl
  clear kp hx;go_wp2_with (go_at_call 104;refine q1b.mono ?_;rintro _ _ ⟨rfl,rfl⟩)
  all_goals (go_returns;exact⟨⟨26,0,rfl,by rw[HE.out];rfl⟩,b0⟩)
def qrl(cf:Cf):Bool:=inS cf.parts.l.length 1 8 && qee (λk=>qgp (atD Pt0 cf.parts.l k)) cf.parts.l.length && qgm cf.pw && qbh cf && qbi cf && qu0 cf.shed
theorem q32(w:World) (g:Nat):∀ (i:Nat) (vs:List Value),w.setCells g i vs=setRow w g i vs
 | _,[]=>rfl
 | i,v :: vs=>by rw[World.setCells,setRow];exact q32 _ g _ vs
theorem qu1:Tryz.prog.underlying 357=some (.slice (Tryz.prog.elem 357)):=zk
theorem qk7(w:World):(zeroValue (Tryz.prog.elem 357)).run Tryz.prog w = .ok (.slice none 0 0) w:=zk
theorem Own.cur{e:TypeId} {sz:Nat} {g:Nat} {xs:List Value} (h:Own w e sz (some ⟨g,0,none⟩) n c xs):∃ cur,Blk w g e cur/\n<=c/\c<=maxLen/\cur.size=c * sz/\cur.toList.take (n * sz)=xs:=by
 rcases h.2 with ⟨h,_⟩ | ⟨g',cap,cur,e1,_,h3,h4,h5,h6,h7⟩
 .cases h
 .cases e1;exact⟨cur,h3,h4,h5,h6,h7⟩
theorem Own.mk'{e:TypeId} {sz:Nat} {g:Nat} {xs:List Value} {cur:Array Value} (h1:Blk w g e cur) (h2:n<=c) (h3:c<=maxLen) (h4:cur.size=c * sz) (h5:cur.toList.take (n * sz)=xs):Own w e sz (some ⟨g,0,none⟩) n c xs :=
 ⟨by rw[<- h5,List.length_take];simp only[Array.length_toList,h4];exact Nat.min_eq_left (Nat.mul_le_mul_right _ h2),.inr ⟨g,c,cur,rfl,Nat.zero_le _,h1,h2,h3,h4,h5⟩⟩
theorem qbv{g:Nat} {v:Value} {xs:List Value} (h:Own w 38 1 (some ⟨g,0,none⟩) n c (v :: xs)) (hl:xs.length=m) (h1:∀ u ∈ xs,u.oneCell'=true) (hm:m<=1000000) :
  cP 392 #[.slice (some ⟨g,0,none⟩) n c,ii 0,ii 1] w λe w'=>e = .returned (.slice (some ⟨g,0,none⟩) m c)/\Own w' 38 1 (some ⟨g,0,none⟩) m c xs/\Fr (λk=>k=g) w w':=by
 have hn:n=m + 1:=by have:=h.1;rw[List.length_cons,hl,Nat.mul_one]at this;exact this.symm
 obtain⟨h0,hb,hc1,h8,hc3,h7⟩:=h.cur;obtain⟨i0,h9,hz0,ha,hz2⟩:=info_parts (show(Tryz.prog.info? 38).map (λi=>(i.zero,i.size,i.bytes))=some (some (.slice none 0 0),1,24) by kernel_rfl);have h6:∀ j u,xs[j]?=some u->w.cell? ⟨g,j + 1,none⟩=some u:=λj u hu=>by
  have hj:=(List.getElem?_eq_some_iff.1 hu).1;have:(h0.toList.take (n * 1))[j + 1]?=some u:=by rw[h7];simpa using hu
  rw[List.getElem?_take,if_pos zo]at this
  rw[hb.cell,<- Array.getElem?_toList];exact this
 have hlu:h0.size=c:=zo;obtain⟨A,hA,h4⟩:∃ A:Addr,(if c=1 then (some ⟨g,0,none⟩:Option Addr) else some ⟨g,1,none⟩)=some A/\Hid (∀ t u,xs[t]?=some u->w.drew.cell? (A.add t)=some u):=by
  by_cases q:c=1
  .rw[if_pos q];exact⟨_,rfl,λt u hu=>by rw[List.length_eq_zero_iff.1 (by omega:xs.length=0)]at hu;cases hu⟩
  .rw[if_neg q];refine⟨⟨g,1,none⟩,rfl,λt u hu=>?_⟩;rw[q11,Nat.add_comm];exact h6 t u hu
 have s1:Hid (xs.length=m * 1):=by rw[Nat.mul_one];exact hl
 have s2:Hid (∀ u ∈ xs,u.oneCell'=true):=h1;have s3:Hid (∀ j,j < xs.length->(w.drew.cell? ⟨g,0 + 0 * 1 + j,none⟩).isSome=true/\w.drew.frozen? ⟨g,0 + 0 * 1 + j,none⟩=false):=by
  intro j hj;rw[Nat.zero_mul,Nat.add_zero,Nat.zero_add];exact⟨by show(w.cell? _).isSome=true;rw[hb.cell j,Array.getElem?_eq_getElem zo];rfl,hb.frozen j⟩
 obtain⟨W1,h2⟩:∃ W1,W1=w.drew.setCells g (0 + 0 * 1) xs:=⟨_,rfl⟩
 have h3:Blk W1 g 38 (xs ++ h0.toList.drop m).toArray:=by
  have:=hb.drew.rowFrom xs 0 w.drew h0 zo;rw[h2,q32];simpa [hl] using this
 have h5:Fr (λk=>k=g) w W1:=by rw[h2,q32];exact Fr.row _ _ ((Fr.refl _ w).drew) λ_=>rfl
 have hcl:∀ ty,(Builtin.clear_ #[357] ty #[.slice (some ⟨g,m,none⟩) 1 (c - m)]).run Tryz.prog W1 = .ok (.tuple #[]) (W1.setCells g m (List.replicate 1 (.slice none 0 0))):=λty =>
  Lib.run_clear_slice W1 _ _ ty _ qu1 (λw=>qk7 w) rfl rfl g m 1 _ zd (λj hj=>by rw[h3.cell,List.getElem?_toArray,List.getElem?_append_right zo,List.getElem?_drop,Array.getElem?_toList,Array.getElem?_eq_getElem zo];rfl) (λj hj=>h3.frozen _)
 have hW:Hid (W1=w.drew.setCells g (0 + 0 * 1) xs):=h2;have X:=zhd (And.intro h3 h5);have hle:(1:Int)<=(m:Int) + 1:=zo;clear h2 h3 h5 h6 hb h7 h;refine inC ?_;go_in;go_wp2_with fail;go_region_law (refine step_append_room rfl (.tmp 22) (.tmp 25) 357 rfl 38 i0 1 qu1 h9 ha g 0 0 c (by simp[Act.eval,Act.put]) A m (c - 1) xs (by simp[Act.eval,Act.put]) s1.out h4.out s2.out zo s3.out ?_;rw[<- hW.out])
 go_wp2_with fail;go_returns;obtain⟨kb,fW⟩:=X.out;have hc:=kb.rowFrom [.slice none 0 0] m W1 _ (by simp;omega);refine⟨rfl,Own.mk' (by rw[q32];exact hc) zo h8 (by simp;omega) ?_,by rw[q32];exact Fr.row _ _ fW λ_=>rfl⟩;rw[Nat.mul_one];simp only[List.append_assoc];rw[List.take_append_of_le_length (by simp;omega),List.take_take,Nat.min_self,List.take_append_of_le_length zo,List.take_of_length_le zo]
theorem qno(hs:List (Hd UInt8)):∀ u ∈ hs.map Hd.v,u.oneCell'=true:=by
 intro u hu;obtain⟨x,_,rfl⟩:=List.mem_map.1 hu;rfl
theorem qnp{o:Gh} {lb:Lb} {hs:List (Hd UInt8)} {m:List (List UInt8)} {d:Int} (kq:q1t w o lb q 399 #[.slice A m.length c,ii d]) (ka:q4q w o lb 38 1 A m.length c (hs.map Hd.v)) (hm:hs.map Hd.l=m) (hd:∀ h ∈ hs,Dat w o h) (hn:m.length<=1000) (hld:lb ≠ .data) :
  cP 395 #[pp q] w λe w'=>(∃ (hA:Option Addr) (hc:Nat),e = .returned (.tuple #[.slice hA (q3a (.que m d)).1.length hc,.bool (q3a (.que m d)).2.1])/\Dat w' o ⟨hA,hc,(q3a (.que m d)).1⟩)/\Mv (λy=>y=lb) o w o w'/\BxR w' o lb (.iface 397 (pp q)) (q3a (.que m d)).2.2:=by
 have kc:=kq.1.cell;cases m with
 | nil =>
  have hH:BxR w o lb (.iface 397 (pp q)) (.que [] d):=⟨q,A,c,hs,rfl,kq,ka,hm,hd⟩
  refine inC ?_;go_in;go_wp2;go_returns;exact⟨⟨none,0,rfl,Dat.nil⟩,Mv.refl _ _ _,hH⟩
 | cons b r =>
  cases hs with
  | nil=>cases hm
  | cons h t =>
   obtain⟨rfl,rfl⟩:=List.cons.inj hm;obtain⟨g,rfl⟩:=ka.1.head zp;obtain⟨b',o',e',hb',h3⟩:=ka.1.sl.at_ zp;cases e';have c0:w.cell? ⟨g,0,none⟩=some h.v:=by simpa using h3 0 h.v rfl
   have h2:g≠q:=λe=>ka.1.ne kq.1 zd (by rw[e];rfl);have hD:=qbv (v:=h.v) (xs:=t.map Hd.v) (m:=(t.map Hd.l).length) ka.1 zp (qno t) (by simp at hn ⊢;omega);have h5:=hd h (List.mem_cons_self ..);obtain⟨hA,h4,hl⟩:=h;simp only[Hd.v]at c0;simp only[List.length_cons,List.length_map]at *;refine inC ?_;go_in;go_wp2_with (go_at_call 392;refine hD.mono ?_;rintro _ w1 ⟨rfl,h1,f1⟩;have h0:=kq.1.fr f1 (λe=>h2 e.symm);have kf1:=h0.frozen;have kc1:=h0.cell);go_returns;have h6:∀ k,q02 (some ⟨g,0,none⟩) k->k=g:=λk h=>by cases h;rfl
   have m1:Mv (λy=>y=lb) o w o w1:=Mv.of f1 λk hk=>by rw[hk];exact ka.2 g rfl
   have m2:Mv (λy=>y=lb) o w o (w1.setCell ⟨q,0,none⟩ (.slice (some ⟨g,0,none⟩) t.length c)):=⟨m1.f.setCell (p:=⟨q,0,none⟩) (λ_=>kq.2) _,m1.a⟩
   refine⟨⟨hA,h4,rfl,h5.go m2 (λe=>hld e.symm)⟩,m2,q,some ⟨g,0,none⟩,c,t,rfl,⟨?_,kq.2⟩,⟨?_,ka.2⟩,rfl,λy hy=>(hd y (List.mem_cons_of_mem _ hy)).go m2 (λe=>hld e.symm)⟩
   .have:=h0.set_ 0 (.slice (some ⟨g,0,none⟩) t.length c);simpa using this
   .have:=h1.fr ((Fr.refl (λk=>k=q) w1).setCell (p:=⟨q,0,none⟩) (λ_=>rfl) (.slice (some ⟨g,0,none⟩) t.length c)) (λk hk=>by rw[h6 k hk];exact h2);simpa using this
theorem qif{w9:World} {o:Gh} {lb:Lb} {g:Nat} {hs:List (Hd UInt8)} {e:TypeId} {h:Hd UInt8} (ka:q4q w o lb e 1 A n c (hs.map Hd.v)) (hd:∀ h ∈ hs,Dat w o h) (hld:lb ≠ .data)
  (own9:Own w9 e 1 (some ⟨g,0,none⟩) (n + 1) cap (hs.map Hd.v ++ [h.v])) (hv:SlB w9 h.A h.l.length h.c h.l) (hvg:∀ b f,0 < h.l.length->h.A=some ⟨b,f,none⟩->w.heap.size<=b/\b≠g) (f9:Fr (q02 A) w w9) (hg:q02 A g\/w.heap.size<=g) :
  ∃ o',Mv (λy=>y=lb) o w o' w9/\q4q w9 o' lb e 1 (some ⟨g,0,none⟩) (n + 1) cap ((hs ++ [h]).map Hd.v)/\∀ x ∈ hs ++ [h],Dat w9 o' x:=by
 have m:Mv (λy=>y=lb) o w (λk=>if k=g then lb else lay w o .data k) w9:=⟨f9.mono λk _ hk=>ka.2 k hk,λk hk=>by
  by_cases q:k=g
  .subst q;rw[if_pos rfl];exact(ka.2 k (hg.resolve_right zo)).symm
  .rw[if_neg q,q0l hk]⟩
 refine⟨_,m,⟨by rw[List.map_append];exact own9,λk hk=>?_⟩,λx hx=>?_⟩
 .unfold q02 at hk;injection hk with hk
  injection hk with hk
  exact if_pos hk.symm
 .rcases List.mem_append.1 hx with hx | hx
  .exact(hd x hx).go m (λe=>hld e.symm)
  .obtain rfl:=List.mem_singleton.1 hx;refine⟨hv,λb f hl e=>?_⟩;obtain⟨h1,h2⟩:=hvg b f hl e;show(if b=g then lb else lay w o .data b) = .data;rw[if_neg h2,q07 h1]
theorem qrm{o:Gh} {lb:Lb} {hs:List (Hd UInt8)} {m:List (List UInt8)} {d:Int} (kq:q1t w o lb q 399 #[.slice A m.length c,ii d]) (ka:q4q w o lb 38 1 A m.length c (hs.map Hd.v)) (hm:hs.map Hd.l=m) (hd:∀ h ∈ hs,Dat w o h) (hn:m.length<=1000) (hld:lb ≠ .data)
  {bA:Option Addr} {bn bc:Nat} {b:List UInt8} (hb:SlB w bA bn bc b) (hbn:b.length<=1000) :
  cP 427 #[pp q,.slice bA bn bc] w λe w'=>e = .returned (.bool (q39 (.que m d) b).2)/\∃ o',Mv (λy=>y=lb) o w o' w'/\BxR w' o' lb (.iface 397 (pp q)) (q39 (.que m d) b).1:=by
 obtain⟨kc,lt⟩:=kq.1.cl;by_cases a1:d<=m.length
 .have hH:BxR w o lb (.iface 397 (pp q)) (.que m d):=⟨q,A,c,hs,rfl,kq,ka,hm,hd⟩
  have HE:=zhd (show q39 (.que m d) b=((.que m d,false):Bx×Bool) from if_pos a1);have b1:decide (d<=(m.length:Int))=true:=decide_eq_true a1;refine inC ?_;go_in;go_wp2_with fail;go_quiet (fail)
  go_wp2_with fail;go_returns;have hq:=q0a w.heap.size w nq;exact⟨q5k (by rw[HE.out]),o,Mv.below hq,by rw[HE.out];exact hH.go (L:=λ_=>False) (Mv.below hq) id id⟩
 .have HE:=zhd (show q39 (.que m d) b=((.que (m ++ [b]) d,true):Bx×Bool) from if_neg a1);have b1:decide (d<=(m.length:Int))=false:=decide_eq_false a1;refine inC ?_;go_in;go_wp2_with fail;go_quiet (fail)
  have hq:=q0a w.heap.size w nq;replace kq:=kq.go (L:=λ_=>False) (Mv.below hq) id;replace ka:=ka.go (L:=λ_=>False) (Mv.below hq) id;replace hd:=λh hh=>(hd h hh).go (L:=λ_=>False) (Mv.below hq) id;replace hb:=hb.keep hq;have mq:Mv (λy=>y=lb) o w o (w.drewN nq):=Mv.below hq;generalize w.drewN nq=w2 at *;clear kc lt hq a1;obtain⟨kc,lt⟩:=kq.1.cl;have hc:¬ q02 A q:=ka.1.ne kq.1 zd;go_wp2_with fail;refine q88 (q02 A) [(6,0),(0,0),(0,0),(2,2)] ?_;simp only[q03,tkO,dpO]
  repeat(go_big_quiet_step (fail))
  refine qwW (λK' hK'=>?_);go_wp2_with fail;have h5:=(Below.refl w2.heap.size w2).drew;refine(q7g (hb.keep h5) (by have:=hb.2;omega)).mono ?_;rintro _ w3 ⟨v,rfl,hv,h0⟩;replace h0:bW w2 w3:=h5.trans h0;obtain⟨vA,vc,rfl,h1,h4⟩:=SlB.of_own hv;refine zGW (fO h0 _) ?_;clear hK' K';intro K' hK';go_wp2_with fail;have h3:bW w2 (w3.alloc (.cells #[.slice vA bn vc] 38)):=h0.alloc h0.size _;have kx:=Blk.new w3 38 #[.slice vA bn vc];replace h1:=h1.keep (zA w3 (.cells #[.slice vA bn vc] 38));refine zG (fO h3 _) ?_;clear hK' K';have hg:=ka.1.keep h3;refine qwW (λK' hK'=>?_);refine q8a qmx _ _ _ zr zr hg w3.heap.size #[.slice vA bn vc] rfl (by simp[Value.oneCell']) kx zr zo ?_;intro g cap w9 hown9 hf9 hat9;have f9:=(fO h3 (q02 A)).trans hf9;have hf:∀ b0 o0,vA=some ⟨b0,o0,none⟩->w2.heap.size<=b0:=h4;have he:SlB w9 vA bn vc b:=h1.fr hf9 (λb0 o0 _ e hk=>by have:=ka.1.lt hk;have:=hf b0 o0 e;omega);have h2:=kq.1.fr f9 hc;have kq9c:=h2.cell;have kq9f:=h2.frozen;have kq9l:=h2.lt;refine hK' _ _ rfl (q01 f9) ?_;clear hK' K';refine zN ?_;refine qwB (λK' hK'=>?_);go_wp2_with fail;refine zE ?_;clear hK' K';go_wp2_with fail;go_returns;have h8:=h1.2;subst h8;obtain⟨o',m',h6,h9⟩:=qif (h:=⟨vA,vc,b⟩) ka hd hld hown9 he (λb0 f0 hl e=>⟨h4 b0 f0 e,λq=>by
   have l0:=h1.lt_ hl e;rcases hat9 with hk | hk
   .have:=ka.1.lt hk;have:=h4 b0 f0 e;simp only[World.size_drew]at *;omega
   .omega⟩) f9 (hat9.imp id (λe=>by have:=h3.size;omega))
  have h7:q1t w9 o' lb q 399 #[.slice A m.length c,ii d]:=⟨h2,(m'.a q kq.1.lt).trans kq.2⟩
  have m9:Mv (λy=>y=lb) o' w9 o' (w9.setCell ⟨q,0,none⟩ (.slice (some ⟨g,0,none⟩) (m.length + 1) cap)):=(Mv.refl _ o' w9).setC (λ_=>h7.2) 0 _;have ha:∀ k,q02 (some ⟨g,0,none⟩) k->k≠q:=λk hk e=>hown9.ne h2 zd (by rw[<- e];exact hk);have hl:(m ++ [b]).length=m.length + 1:=zp;refine⟨q5k (by rw[HE.out]),o',mq.trans (m'.trans m9),by rw[HE.out];exact⟨q,_,cap,_,rfl,by rw[hl];exact h7.set 0 _,by rw[hl];exact⟨h6.1.fr ((Fr.refl (λk=>k=q) w9).setCell (p:=⟨q,0,none⟩) (λ_=>rfl) _) ha,h6.2⟩,by simp[hm],λx hx=>(h9 x hx).go m9 (λe=>hld e.symm)⟩⟩
section
variable{w:World} {o:Gh} {pt p cap:Nat} {A:Option Addr} {qs:List Nat} {l:List Ps} (H:PsR w o pt p A cap qs l)
include H
theorem q7o{k:Int} : cP 312 #[pp p,ii k] w λe w'=>e = .returned (.pointer (if q2r l k=true then some ⟨atN qs k.toNat,0,none⟩ else none))/\w=w':=by
 have kc:=H.k.1.cell;by_cases q:q2r l k=true
 .rw[if_pos q];obtain⟨j,rfl,hj⟩:=q0o q;obtain⟨a,ha,hal,hac⟩:=H.at_ hj;rw[ha]at kc
  have b1:decide ((j:Int) < 0)=false:=decide_eq_false zo;have b2:decide (l.length<=j)=false:=decide_eq_false zo;rw[Int.toNat_natCast];refine inC ?_;go_in;go_wp2;go_returns;exact⟨rfl,rfl⟩
 .rw[if_neg q];by_cases q0:k < 0
  .have b1:decide (k < 0)=true:=decide_eq_true q0;clear q;refine inC ?_;go_in;go_wp2;go_returns;exact⟨rfl,rfl⟩
  .have b1:decide (k < 0)=false:=decide_eq_false q0;have b2:decide ((l.length:Int)<=k)=true:=decide_eq_true (by simp[q2r]at q;omega);clear q q0;refine inC ?_;go_in;go_wp2;go_returns;exact⟨rfl,rfl⟩
theorem qdb{k:Int} {q inn:Bool} : cP 346 #[pp p,ii k,.bool q,.bool inn] w λe w'=>e = .returned (.bool (qa8 l k q inn))/\w=w':=by
 have hF:=q7o H (k:=k);by_cases h:q2r l k=true
 .rw[if_pos h]at hF
  obtain⟨j,rfl,hj⟩:=q0o h;obtain⟨v,R⟩:=H.q j hj;have kc:=R.k.1.cell;rw[Int.toNat_natCast]at hF
  have hE:qa8 l j q inn=((atD Ps0 l j).c.q == q && (atD Ps0 l j).c.inn == inn):=by unfold qa8;rw[h];simp
  have HE:=zhd hE;refine inC ?_;go_in;go_wp2_with (go_at_call 312;refine(hF).mono ?_;rintro _ _ ⟨rfl,rfl⟩)
  all_goals (go_returns;refine⟨q5k ?_,rfl⟩;rw[HE.out];simp_all)
 .rw[if_neg h]at hF
  have hE:qa8 l k q inn=false:=by unfold qa8;simp[h]
  have HE:=zhd hE;refine inC ?_;go_in;go_wp2_with (go_at_call 312;refine(hF).mono ?_;rintro _ _ ⟨rfl,rfl⟩)
  all_goals (go_returns;exact⟨q5k HE.out.symm,rfl⟩)
theorem qnq{k:Int} : cP 345 #[pp p,ii k] w λe w'=>e = .returned (ii (q1m l k))/\w=w':=by
 have hF:=q7o H (k:=k);by_cases h:q2r l k=true
 .rw[if_pos h]at hF
  obtain⟨j,rfl,hj⟩:=q0o h;obtain⟨v,R⟩:=H.q j hj;have kc:=R.k.1.cell;rw[Int.toNat_natCast]at hF
  have HE:=zhd (show q1m l j=(atD Ps0 l j).c.size by unfold q1m;rw[if_pos h];rfl);refine inC ?_;go_in;go_wp2_with (go_at_call 312;refine(hF).mono ?_;rintro _ _ ⟨rfl,rfl⟩)
  all_goals (go_returns;exact⟨q0w HE.out.symm,rfl⟩)
 .rw[if_neg h]at hF
  have HE:=zhd (show q1m l k=0 by unfold q1m;rw[if_neg h]);refine inC ?_;go_in;go_wp2_with (go_at_call 312;refine(hF).mono ?_;rintro _ _ ⟨rfl,rfl⟩)
  all_goals (go_returns;exact⟨q0w HE.out.symm,rfl⟩)
end
end Go.Proofs.YtncfcbohiodnnaaGreat
