/- Parts of this seat's claims. -/
import Derived.Test.YtncfcbohiodnnaaGreatW4
import Derived.Deep.OwnRows
set_option maxRecDepth 100000
set_option maxHeartbeats 6400000
namespace Go.Proofs.YtncfcbohiodnnaaGreat
open Go.RowKit
variable{w w' W wa wo W':World} {c n pt r B j b m mb q base cap id B0:Nat} {A:Option Addr} {a code what:Int} {cs:Array Value}
namespace Me
def QS(PQ:List (Nat×Nat)) (n j:Nat):Prop:=∃ i,i < n/\j=(atD (0,0) PQ i).2
theorem qjs{l b:List UInt8} {f:Nat} (h:f + b.length<=l.length):(splice l f b).length=l.length:=length_splice l f b h
theorem qjt(l b:List UInt8) (f:Nat):splice (l.map bv) f (b.map bv)=(splice l f b).map bv:=by
 simp[splice,List.map_take,List.map_drop]
theorem store_any{g:Nat} {PQ:List (Nat×Nat)} {Ss:List Sg} {Bs:List (List UInt8)} (h:MemX w g B A c PQ Ss Bs) {a:Int} (ha:i64 a) {D:Option Addr} {n d:Nat} {b:List UInt8} (hb:SlB w D n d b) :
  cP 333 #[pp g,ii a,.slice D n d] w λe w'=>e = .returned (.bool (storeR Ss Bs a b).2)/\MemX w' g B A c PQ Ss (storeR Ss Bs a b).1/\Fr (QS PQ Ss.length) w w':=by
 have h5:=hb.2;have hn:=hb.len;have HL:Hid (storeR Ss Bs a b=match fdF Ss Bs a n true with
  | none=>(Bs,false)
  | some k=>(Bs.set k (splice (atD [] Bs k) (a - (atD sg0 Ss k).ba).toNat b),true)):=by unfold Hid storeR;rw[h5];rfl
 generalize storeR Ss Bs a b=R at HL ⊢;have ht:i64 (n:Int):=by unfold i64;omega
 refine inC ?_;go_in;go_wp2_with fail;refine(of_any h ha ht).mono ?_;rintro e w2 ⟨rfl,hd⟩;have h2:=h.keep hd;cases hF:fdF Ss Bs a n true with
 | none =>
  have HR:Hid (R=(Bs,false)):=by unfold Hid;rw[HL.out,hF]
  clear HL hF;simp only[ptF];go_wp2_with fail;go_ret;rw[HR.out];exact⟨rfl,h2,fO hd _⟩
 | some k =>
  obtain⟨hk,f,m,hf,hv,h0⟩:=qd6 hF;obtain rfl:n=m:=zo;clear hv;have HR:Hid (R=(Bs.set k (splice (atD [] Bs k) f b),true)):=by
   unfold Hid;rw[HL.out,hF];simp only[hf,Int.toNat_natCast]
  clear HL hF;have hX:=h2;obtain⟨-,-,-,-,-,-,-,h8,h9⟩:=h2;obtain⟨r1,r2,r3⟩:=h8 k hk;obtain⟨q1,q2,q3,q4⟩:=h9 k hk;have hp:=(q4 k hk).1;have hQ:QS PQ Ss.length (atD (0,0) PQ k).2:=⟨k,hk,rfl⟩
  have h4:=λ(l:List UInt8) (w':World) (h1:l.length=(atD [] Bs k).length) h2 h3=>MemX.upd (w':=w') hX hk h1 h2 h3;have he:=hb.keep hd;simp only[ptF];generalize atD sg0 Ss k=s at hf r1;generalize atD (0,0) PQ k=x at r1 r2 q1 hp hQ h4 ⊢;generalize atD [] Bs k=l at h0 HR r1 r2 r3 h4;clear h8 h9 q2 q3 q4 hX;have hg:=λw=>qen qa7 qy9 w (some ⟨x.2,0,none⟩) l.length l.length f zo;obtain⟨h7,hq,hr,h6⟩:∃ h7,slA (some ⟨x.2,0,none⟩) f l.length 1=some ⟨x.2,h7,none⟩/\splice l h7 b=splice l f b/\h7 + n<=l.length:=by
   by_cases hm:l.length=f
   .have hs:b = []:=List.eq_nil_of_length_eq_zero zo;refine⟨0,by unfold slA;rw[if_pos hm],?_,zo⟩;subst hs;simp[splice]
   .refine⟨f,?_,rfl,h0⟩;unfold slA;rw[if_neg hm];show some ((⟨x.2,0,none⟩:Addr).add (f * 1))=_;rw[q11,Nat.zero_add,Nat.mul_one]
  rw[hq]at hg
  rw[<- hr]at HR
  clear hq hr;have c0:=r1.cell 0;have c3:=r1.cell 3;have hw:IntKind.i64.wrap (a - s.ba)=(f:Int):=by rw[hf];exact IntWalk.i64_in _ zo
  have hp1:=r1.lt;have hnS:¬ x.1=x.2:=λe=>hp e.symm;go_wp2_with fail;refine q88 (λj=>j=x.2) [(13,0)] ?_;simp only[q03,tkO,dpO]
  repeat(go_big_quiet_step (fail))
  refine qwW (λK' hK'=>?_);have hy:Blk w2.drew x.2 5 (l.map bv).toArray:=r2;have hh:(b.map bv).length=Nat.min n (l.length - f):=by
   rw[List.length_map,h5];show n=min n (l.length - f);omega
  refine qgx _ _ 38 38 zr (Tryz.prog.elem 38) qa7 zk x.2 h7 (l.length - f) (l.length - f) n d D zr zr (l.map bv) 5 hy (b.map bv) hh ?_ (by rw[List.length_map,List.length_map,h5];exact h6) (bv_cell b) ?_
  .intro hpos;rw[List.length_map,h5]at hpos
   obtain⟨db,o,e,_,hc⟩:=he.1.at_ hpos;exact⟨⟨db,o,none⟩,e,λj u hu=>by rw[q11];exact hc j u hu⟩
  .intro w3 b3 f3;replace f3:Fr (λk=>k=x.2) w2 w3:=((Fr.refl (λk=>k=x.2) w2).drew).trans f3;rw[qjt]at b3
   have hx:=h4 _ w3 (qjs (by rw[h5];exact h6)) f3 b3;refine zGZ f3 ?_;clear hK' K';go_wp2_with fail;go_ret;rw[HR.out];exact⟨rfl,hx,(fO hd _).trans' f3 (λj _ hj=>by have hj:j=x.2:=hj;rw[hj];exact hQ)⟩
def zl(l:List UInt8):List UInt8:=List.replicate l.length 0
def qlh(Bs:List (List UInt8)) (k:Nat):List (List UInt8):=(Bs.take k).map zl ++ Bs.drop k
theorem qya(l:List UInt8):(zl l).map bv=List.replicate l.length (.int .u8 0):=by simp[zl,bv]
theorem qmw(Bs:List (List UInt8)) (k:Nat) (hk:k < Bs.length):(qlh Bs k).set k (zl (atD [] (qlh Bs k) k))=qlh Bs (k + 1)/\(atD [] (qlh Bs k) k)=atD [] Bs k:=by
 have h1:atD [] (qlh Bs k) k=atD [] Bs k:=by
  unfold atD qlh;rw[List.getD_eq_getElem?_getD,List.getD_eq_getElem?_getD,List.getElem?_append_right (by simp;omega)];simp[Nat.min_eq_left (show k<=Bs.length by omega)]
 refine⟨?_,h1⟩;rw[h1,q0s hk];unfold qlh;rw[List.set_append_right _ _ (by simp;omega),List.take_succ_eq_append_getElem hk,List.map_append,List.append_assoc];congr 1
 rw[List.length_map,List.length_take,Nat.min_eq_left zo,Nat.sub_self,List.drop_eq_getElem_cons hk];rfl
theorem qvd(w:World):(zeroValue (Tryz.prog.elem 38)).run Tryz.prog w = .ok (.int .u8 0) w:=zk
theorem clear_any{g:Nat} {PQ:List (Nat×Nat)} {Ss:List Sg} {Bs:List (List UInt8)} (h:MemX w g B A c PQ Ss Bs) :
  cP 377 #[pp g] w λe w'=>e = .returned (.tuple #[])/\MemX w' g B A c PQ Ss (Bs.map zl)/\Fr (QS PQ Ss.length) w w':=by
 have hd:=h.2.2.1;have g0:=h.1.cell 0;refine inC ?_;go_in;go_wp2_with fail;obtain⟨wo,rfl⟩:∃ wo:World,wo=w:=⟨_,rfl⟩
 go_loopw [11] (λi wr=>∃ k:Nat,k<=Ss.length/\i = .int .i64 (k:Int)/\MemX wr g B A c PQ Ss (qlh Bs k)/\Fr (QS PQ Ss.length) wo wr) (λi _=>Ss.length - (intOf i).toNat)
 case atStart=>exact⟨0,zo,rfl,h,Fr.refl _ _⟩
 case round =>
  obtain⟨k,hk,rfl,hx,hf⟩:=hrel;clear g0;by_cases h4:k < Ss.length
  .have hlt':(k:Int) < (Ss.length:Int):=zo;have hX:=hx;obtain⟨-,hS,-,-,-,h6,-,h8,h9⟩:=hx;obtain⟨b,o,rfl,hb,hc⟩:=hS.at_ (0,0) h4;have e0:wr.cell? ⟨b,o + k,none⟩=some (.pointer (some ⟨(atD (0,0) PQ k).1,0,none⟩)):=by have:=hc 0 _ rfl;simpa using this
   obtain⟨r1,r2,r3⟩:=h8 k h4;obtain⟨q1,q2,q3,q4⟩:=h9 k h4;obtain⟨ha,hg⟩:=qmw Bs k zo;have h0:=λ(w':World) h1 h2 h3=>MemX.upd (w':=w') (l:=zl (atD [] (qlh Bs k) k)) hX h4 h1 h2 h3;rw[ha]at h0
   have hQ:QS PQ Ss.length (atD (0,0) PQ k).2:=⟨k,h4,rfl⟩
   generalize atD (0,0) PQ k=x at e0 r1 r2 q1 hQ h0;generalize atD [] (qlh Bs k) k=l at r1 r2 r3 h0;have c3:=r1.cell 3;clear h8 h9 q2 q3 q4 hX hc hg ha hS;by_cases hh:l.length=0
   .have hl:l = []:=List.eq_nil_of_length_eq_zero hh;subst hl;have h7:=λty=>qbd (P:=Tryz.prog) wr 38 _ ty qa7 (some ⟨x.2,0,none⟩) 0;have hm:=h0 wr rfl (Fr.refl _ _) r2;go_wp2_with fail;exact⟨⟨k + 1,zo,by go_num,hm,hf⟩,by simp[intOf];omega⟩
   .have h7:=λty=>qd4 (P:=Tryz.prog) wr 38 _ ty _ qa7 qvd rfl rfl x.2 l.length l.length zo _ _ r2 zp;have h5:Blk (wr.setRow x.2 (List.replicate l.length (.int .u8 0)).toArray) x.2 5 ((zl l).map bv).toArray:=by
     rw[qya];exact setRow_heap wr x.2 _ _ _ (0,0) r2
    have f2:=qer wr x.2 (List.replicate l.length (.int .u8 0)).toArray;rw[List.toArray_replicate]at h5 f2
    go_wp2_with fail;generalize wr.setRow x.2 (Array.replicate l.length (.int .u8 0))=w2 at h5 f2 ⊢;exact⟨⟨k + 1,zo,by go_num,h0 w2 (by simp[zl]) f2 h5,hf.trans' f2 (λj _ hj=>by have hj:j=x.2:=hj;rw[hj];exact hQ)⟩,by simp[intOf];omega⟩
  .obtain rfl:k=Ss.length:=zo;have he:qlh Bs Ss.length=Bs.map zl:=by
    unfold qlh;rw[<- hd,List.take_length,List.drop_length,List.append_nil]
   rw[he]at hx
   go_wp2_with fail;go_end0;exact⟨rfl,hx,hf⟩
end Me
namespace Me
def val4:List UInt8->Int
 | [a,b,c,d]=>(a.toNat:Int) + 256 * b.toNat + 65536 * c.toNat + 16777216 * d.toNat
 | _=>0
theorem qju(Ss:List Sg) (Bs:List (List UInt8)) (a:Int):((loadR Ss Bs a 4).2=false/\(loadR Ss Bs a 4).1 = [])\/((loadR Ss Bs a 4).2=true/\∃ x0 x1 x2 x3,(loadR Ss Bs a 4).1 = [x0,x1,x2,x3]):=by
 unfold loadR;cases hF:fdF Ss Bs a 4 false with
 | none=>exact .inl ⟨rfl,rfl⟩
 | some k =>
  obtain⟨hk,f,m,hf,hm,hroom⟩:=qd6 hF;refine .inr ⟨rfl,?_⟩;simp only[hf,Int.toNat_natCast];have hl:(((atD [] Bs k).drop f).take (4:Int).toNat).length=4:=by
   rw[List.length_take,List.length_drop];show min 4 _=4;omega
  match ((atD [] Bs k).drop f).take (4:Int).toNat,hl with
  | [x0,x1,x2,x3],_=>exact⟨x0,x1,x2,x3,rfl⟩
theorem qjv(a b:Nat) (ha:a < 4611686018427387904) (hb:b < 4611686018427387904):bits .or .i64 (a:Int) (b:Int)=((a ||| b:Nat):Int):=by
 have hx:a ||| b < 2 ^ 62:=Nat.or_lt_two_pow zo zo
 show IntKind.i64.wrap ((BitVec.ofInt 64 (a:Int) ||| BitVec.ofInt 64 (b:Int)).toNat:Int)=_;rw[BitVec.toNat_or,ofInt_u64 a zo,ofInt_u64 b zo,IntKind.wrap_i64];omega
theorem qd7(a b i:Nat) (ha:a < 2 ^ i) (hb:b % 2 ^ i=0) (hi:2 ^ i<=4294967296) (hb2:b < 4611686018427387904):bits .or .i64 (a:Int) (b:Int)=((a + b:Nat):Int):=by
 rw[qjv a b zo hb2,Nat.or_comm,nat_join i b a hb ha,Nat.add_comm]
theorem qve{a d:Nat} (ha:a < 256) (hb:b < 256) (hc:c < 256) (hd:d < 256) :
  bits .or .i64 (bits .or .i64 (bits .or .i64 (bits .or .i64 0 (a:Int)) ((b:Int) * 256)) ((c:Int) * 65536)) ((d:Int) * 16777216)=(a:Int) + 256 * b + 65536 * c + 16777216 * d:=by
 have e0:bits .or .i64 0 (a:Int)=((0 + a:Nat):Int):=qd7 0 a 0 zd zo zd zo;have e1:bits .or .i64 ((0 + a:Nat):Int) ((b * 256:Nat):Int)=((0 + a + b * 256:Nat):Int):=qd7 _ _ 8 zo zo zd zo;have e2:bits .or .i64 ((0 + a + b * 256:Nat):Int) ((c * 65536:Nat):Int)=((0 + a + b * 256 + c * 65536:Nat):Int):=qd7 _ _ 16 zo zo zd zo;have e3:bits .or .i64 ((0 + a + b * 256 + c * 65536:Nat):Int) ((d * 16777216:Nat):Int)=((0 + a + b * 256 + c * 65536 + d * 16777216:Nat):Int):=qd7 _ _ 24 zo zo zd zo;rw[show((b:Int) * 256)=((b * 256:Nat):Int) by simp,show((c:Int) * 65536)=((c * 65536:Nat):Int) by simp,show((d:Int) * 16777216)=((d * 16777216:Nat):Int) by simp,e0,e1,e2,e3];omega
theorem word_any{g:Nat} {PQ:List (Nat×Nat)} {Ss:List Sg} {Bs:List (List UInt8)} (h:MemX w g B A c PQ Ss Bs) {a:Int} (ha:i64 a) :
  cP 366 #[pp g,ii a] w λe w'=>e = .returned (.tuple #[ii (val4 (loadR Ss Bs a 4).1),.bool (loadR Ss Bs a 4).2])/\bW w w':=by
 have hR:=qju Ss Bs a;obtain⟨R,h1⟩:∃ R,R=loadR Ss Bs a 4:=⟨_,rfl⟩
 rw[<- h1]at hR ⊢
 have h2:=zhd h1;clear h1;obtain⟨l,is⟩:=R;simp only at hR ⊢;refine inC ?_;go_in;go_wp2_with fail;refine(load_any h (n:=4) ha (by unfold i64;decide)).mono ?_;rintro e w2 ⟨v2,rfl,h0,h3⟩;rw[<- h2.out]at h0 ⊢
 simp only at h0 ⊢;clear h2;rcases hR with ⟨rfl,rfl⟩ | ⟨rfl,x0,x1,x2,x3,rfl⟩
 .obtain⟨V,vc,rfl,hs,-⟩:=SlB.of_own h0;go_wp2_with fail;refine wp_loop_rounds 1 ?_;rw[rounds_succ];go_wp2_with fail;go_ret2
  exact⟨rfl,h3⟩
 .obtain⟨V,vc,rfl,hs,-⟩:=SlB.of_own h0;simp only[List.length_cons,List.length_nil,Nat.zero_add,Nat.reduceAdd]at hs ⊢;obtain⟨b,o,rfl,hbl,-⟩:=hs.at_ (k:=0) zd;have e0:w2.cell? ⟨b,o,none⟩=some (.int .u8 (x0.toNat:Int)):=by obtain⟨b',o',e,_,hc⟩:=hs.at_ (k:=0) zd;cases e;simpa [atB] using hc
  have e1:w2.cell? ⟨b,o + 1,none⟩=some (.int .u8 (x1.toNat:Int)):=by obtain⟨b',o',e,_,hc⟩:=hs.at_ (k:=1) zd;cases e;simpa [atB] using hc
  have e2:w2.cell? ⟨b,o + 2,none⟩=some (.int .u8 (x2.toNat:Int)):=by obtain⟨b',o',e,_,hc⟩:=hs.at_ (k:=2) zd;cases e;simpa [atB] using hc
  have e3:w2.cell? ⟨b,o + 3,none⟩=some (.int .u8 (x3.toNat:Int)):=by obtain⟨b',o',e,_,hc⟩:=hs.at_ (k:=3) zd;cases e;simpa [atB] using hc
  have HV:Hid (val4 [x0,x1,x2,x3]=(x0.toNat:Int) + 256 * x1.toNat + 65536 * x2.toNat + 16777216 * x3.toNat):=rfl;have z0:=qq1 x0;have z1:=qq1 x1;have z2:=qq1 x2;have z3:=qq1 x3;generalize x0.toNat=n0 at *;generalize x1.toNat=n1 at *;generalize x2.toNat=n2 at *;generalize x3.toNat=n3 at *;go_wp2_with fail;refine wp_loop_rounds 5 ?_;rw[rounds_succ];go_wp2_with fail;rw[rounds_succ];go_wp2_with fail;rw[rounds_succ];go_wp2_with fail;rw[rounds_succ];go_wp2_with fail;rw[rounds_succ];go_wp2_with fail;rw[qve z0 z1 z2 z3];go_ret2
  exact⟨by rw[HV.out];rfl,h3⟩
theorem _root_.Go.Proofs.YtncfcbohiodnnaaGreat.Blk.set4{g:Nat} {t:TypeId} {a b c d:Value} (h:Blk w g t #[a,b,c,d]) (x0 x1 x2 x3:Value):Blk ((((w.setCell ⟨g,0,none⟩ x0).setCell ⟨g,1,none⟩ x1).setCell ⟨g,2,none⟩ x2).setCell ⟨g,3,none⟩ x3) g t #[x0,x1,x2,x3] :=
 (((h.set_ 0 x0).set_ 1 x1).set_ 2 x2).set_ 3 x3
theorem qjw{g:Nat} (h:Below B w w') (hg:B<=g) (x0 x1 x2 x3:Value):Below B w ((((w'.setCell ⟨g,0,none⟩ x0).setCell ⟨g,1,none⟩ x1).setCell ⟨g,2,none⟩ x2).setCell ⟨g,3,none⟩ x3) :=
 (((h.setCell hg _).setCell hg _).setCell hg _).setCell hg _
def putB(n:Int):List UInt8:=[ob (n % 256).toNat,ob (n / 256 % 256).toNat,ob (n / 65536 % 256).toNat,ob (n / 16777216 % 256).toNat]
theorem qvf(n:Int):(putB n).map bv = [.int .u8 (n % 256),.int .u8 (n / 256 % 256),.int .u8 (n / 65536 % 256),.int .u8 (n / 16777216 % 256)]:=by
 have h:∀ m:Int,bv (ob (m % 256).toNat) = .int .u8 (m % 256):=λm=>by
  unfold bv;rw[qd5 zo];congr 1
  omega
 simp[putB,h]
theorem qvg(w:World):(Instr.makeSlice 38 (ii 4) (ii 4)).run Tryz.prog w = .ok (.slice (some ⟨w.heap.size,0,none⟩) 4 4) (w.alloc (.cells #[.int .u8 0,.int .u8 0,.int .u8 0,.int .u8 0] 5)):=zk
theorem put_any{g:Nat} {PQ:List (Nat×Nat)} {Ss:List Sg} {Bs:List (List UInt8)} (h:MemX w g B A c PQ Ss Bs) {a n:Int} (ha:i64 a) (_hn:i64 n) :
  cP 367 #[pp g,ii a,ii n] w λe w'=>e = .returned (.bool (storeR Ss Bs a (putB n)).2)/\MemX w' g B A c PQ Ss (storeR Ss Bs a (putB n)).1/\Fr (QS PQ Ss.length) w w':=by
 have h2:=qvg;have h1:=zA w (.cells #[.int .u8 0,.int .u8 0,.int .u8 0,.int .u8 0] 5);have b1:=Blk.new w 5 #[.int .u8 0,.int .u8 0,.int .u8 0,.int .u8 0];refine inC ?_;go_in;go_upto_region 2 with fail;generalize w.alloc (.cells #[.int .u8 0,.int .u8 0,.int .u8 0,.int .u8 0] 5)=w1 at h1 b1 ⊢;clear h2;have e0:=b1.cell 0;have e1:=b1.cell 1;have e2:=b1.cell 2;have e3:=b1.cell 3;have hf:∀ i,w1.frozen? ⟨w.heap.size,i,none⟩=false:=b1.frozen;have hl1:=b1.lt;go_wp2_with fail;refine wp_loop_rounds 5 ?_;rw[rounds_succ];go_wp2_with fail;rw[rounds_succ];go_wp2_with fail;rw[rounds_succ];go_wp2_with fail;rw[rounds_succ];go_wp2_with fail;rw[rounds_succ];go_wp2_with fail;have b2:=Blk.set4 b1 (.int .u8 (n % 256)) (.int .u8 (n / 256 % 256)) (.int .u8 (n / 65536 % 256)) (.int .u8 (n / 16777216 % 256));have h0:=qjw (g:=w.heap.size) h1 nL (.int .u8 (n % 256)) (.int .u8 (n / 256 % 256)) (.int .u8 (n / 65536 % 256)) (.int .u8 (n / 16777216 % 256));generalize (((w1.setCell ⟨w.heap.size,0,none⟩ (.int .u8 (n % 256))).setCell ⟨w.heap.size,1,none⟩ (.int .u8 (n / 256 % 256))).setCell ⟨w.heap.size,2,none⟩ (.int .u8 (n / 65536 % 256))).setCell ⟨w.heap.size,3,none⟩ (.int .u8 (n / 16777216 % 256))=w2 at b2 h0 ⊢;have h3:SlB w2 (some ⟨w.heap.size,0,none⟩) 4 4 (putB n):=SlB.of_blk b2 (putB n) (by rw[qvf]) (by show 4<=1000000;decide);refine(store_any (h.keep h0) ha h3).mono ?_;rintro e w3 ⟨rfl,hx,f3⟩;go_wp2_with fail;go_ret;exact⟨rfl,hx,(fO h0 _).trans f3⟩
end Me
namespace Me
def sgC(s:Sg):List Value:=[ii s.ba,ii s.sz,.bool s.wr]
def z0(s:Sg):List UInt8:=List.replicate (max 0 (min s.sz 256)).toNat 0
theorem qyb(s:Sg):(z0 s).length=(max 0 (min s.sz 256)).toNat:=by simp[z0]
theorem z0h(s:Sg):(z0 s).length<=256:=by rw[qyb];omega
theorem qyc{e:TypeId} {sz:Nat} {v:Value} {xs:List Value} (h:w.ownsRow base e sz v n xs) (k:Nat) (hk:v.ownBlock=some k):base<=k:=by
 rcases Nat.lt_or_ge k base with hlt | hge
 .exact absurd hk (qe0 h hlt).symm
 .exact hge
def qq0(w:World) (g B:Nat) (v:Value) (k:Nat) (PQ:List (Nat×Nat)) (L:List Sg):Prop :=
 Blk w g 312 #[v,.bool true]/\w.ownsRow B 313 1 v k (PQ.flatMap ptC)/\PQ.length=k/\(∀ i,i < k->qqw w (atD sg0 L i) (atD (0,0) PQ i) (z0 (atD sg0 L i))) /\
 (∀ i,i < k->(atD (0,0) PQ i).1≠g/\v.ownBlock≠some (atD (0,0) PQ i).1/\B<=(atD (0,0) PQ i).2/\(atD (0,0) PQ i).2≠g/\v.ownBlock≠some (atD (0,0) PQ i).2/\∀ j,j < k->(atD (0,0) PQ i).2≠(atD (0,0) PQ j).1/\(i≠j->(atD (0,0) PQ i).2≠(atD (0,0) PQ j).2))/\v.ownBlock≠some g/\B<=g/\∀ i,i < k->B<=(atD (0,0) PQ i).1
theorem atD_app{α : Type} (d : α) (l:List α) (x : α) (i:Nat):atD d (l ++ [x]) i=if i < l.length then atD d l i else if i=l.length then x else d:=by
 unfold atD;rw[List.getD_eq_getElem?_getD,List.getD_eq_getElem?_getD,List.getElem?_append];split
 .rfl
 .split
  .rename_i h1 h2;subst h2;simp
  .rename_i h1 h2;rw[List.getElem?_eq_none (by simp;omega)];rfl
theorem qq0.step{g:Nat} {v v':Value} {k:Nat} {PQ:List (Nat×Nat)} {L:List Sg} (h:qq0 w g B v k PQ L) {p q:Nat} (hf:Fr (λj=>j=g\/v.ownBlock=some j) w w') (hp:w.heap.size<=p) (hq:w.heap.size<=q) (hpq:q≠p)
  (hr:qqw w' (atD sg0 L k) (p,q) (z0 (atD sg0 L k))) (ho:w'.ownsRow B 313 1 v' (k + 1) ((PQ ++ [(p,q)]).flatMap ptC)) (hv:v'.ownBlock=v.ownBlock\/∃ r,v'.ownBlock=some r/\w.heap.size<=r/\r≠p/\r≠q) (hg:Blk w' g 312 #[v',.bool true]) :
  qq0 w' g B v' (k + 1) (PQ ++ [(p,q)]) L:=by
 obtain⟨h1,h2,h3,h4,h5,h6,h7,h8⟩:=h;have hk:=h1.lt;have ha:∀ b,b < w.heap.size->v.ownBlock≠some b->v'.ownBlock≠some b:=λb hb hn=>by
  rcases hv with hv | ⟨r,hv,hr,_⟩
  .rw[hv];exact hn
  .rw[hv];intro e;cases e;omega
 have hlt:∀ {x t cs},Blk w x t cs->x < w.heap.size:=λhb=>hb.lt;have he:∀ b,v.ownBlock=some b->b < w.heap.size:=λb hb=>by
  obtain⟨_,⟨rfl,_⟩ | ⟨o,cap,cur,rfl,ho,hh,_⟩⟩:=h2
  .cases hb
  .cases hb;exact(Array.getElem?_eq_some_iff.1 hh).1
 have hc:∀ b,w.heap.size<=b->(b=p\/b=q)->v'.ownBlock≠some b:=λb hb hbb=>by
  rcases hv with hv | ⟨r,hv,hr,hrp,hrq⟩
  .rw[hv];intro e;have:=he b e;omega
  .rw[hv];intro e;cases e;rcases hbb with rfl | rfl
   .exact hrp rfl
   .exact hrq rfl
 have hd:∀ i,atD (0,0) (PQ ++ [(p,q)]) i=if i < k then atD (0,0) PQ i else if i=k then (p,q) else (0,0):=λi=>by rw[atD_app,h3]
 refine⟨hg,ho,by rw[List.length_append,h3];rfl,λi hi=>?_,λi hi=>?_,ha g hk h6,h7,λi hi=>?_⟩
 .rw[hd];by_cases h0:i < k
  .rw[if_pos h0];obtain⟨r1,r2,r3⟩:=h4 i h0;obtain⟨n1,n2,n3,n4,n5,_⟩:=h5 i h0;exact⟨r1.fr hf (λe=>by rcases e with e | e;exact n1 e;exact n2 e),r2.fr hf (λe=>by rcases e with e | e;exact n4 e;exact n5 e),r3⟩
  .obtain rfl:i=k:=zo;rw[if_neg h0,if_pos rfl];exact hr
 .simp only[hd];by_cases h0:i < k
  .rw[if_pos h0];obtain⟨n1,n2,n3,n4,n5,n6⟩:=h5 i h0;obtain⟨r1,r2,r3⟩:=h4 i h0;have l1:=r1.lt;have l2:=r2.lt;refine⟨n1,ha _ l1 n2,n3,n4,ha _ l2 n5,λj hj=>?_⟩;by_cases h9:j < k
   .rw[if_pos h9];exact n6 j h9
   .obtain rfl:j=k:=zo;rw[if_neg h9,if_pos rfl];exact⟨by show _≠p;omega,λ_=>by show _≠q;omega⟩
  .obtain rfl:i=k:=zo;rw[if_neg h0,if_pos rfl];have hBw:B<=w.heap.size:=zo;refine⟨by show p≠g;omega,hc p hp (.inl rfl),by show B<=q;omega,by show q≠g;omega,hc q hq (.inr rfl),λj hj=>?_⟩;by_cases h9:j < i
   .rw[if_pos h9];obtain⟨r1,r2,r3⟩:=h4 j h9;have l1:=r1.lt;have l2:=r2.lt;exact⟨by show q≠_;omega,λ_=>by show q≠_;omega⟩
   .obtain rfl:j=i:=zo;rw[if_neg h9,if_pos rfl];exact⟨hpq,λh=>absurd rfl h⟩
 .rw[hd];by_cases h0:i < k
  .rw[if_pos h0];exact h8 i h0
  .obtain rfl:i=k:=zo;rw[if_neg h0,if_pos rfl];show B<=p;omega
theorem qq0.keep{g:Nat} {v:Value} {k:Nat} {PQ:List (Nat×Nat)} {L:List Sg} (h:qq0 w g B v k PQ L) (hb:bW w w'):qq0 w' g B v k PQ L:=by
 obtain⟨h1,h2,h3,h4,h5,h6,h7⟩:=h;exact⟨h1.keep hb,q74 h2 hb,h3,λi hi=>(h4 i hi).keep hb,h5,h6,h7⟩
theorem qtv{e:TypeId} {sz:Nat} {v:Value} {xs:List Value} (h:w.ownsRow base e sz v n xs) (k:Nat) (hk:v.ownBlock=some k):k < w.heap.size:=by
 obtain⟨_,⟨rfl,_⟩ | ⟨o,cap,cur,rfl,ho,hh,_⟩⟩:=h
 .cases hk
 .cases hk;exact(Array.getElem?_eq_some_iff.1 hh).1
theorem made_one(z:Value) (n:Nat):madeCells #[z] n=Array.replicate n z:=by
 unfold madeCells;apply Array.ext
 .simp
 .intro i h1 h2;simp[Nat.mod_one]
theorem z27(w:World) (c1 c2:Array Value) (t1 t2:TypeId):Blk ((w.alloc (.cells c1 t1)).alloc (.cells c2 t2)) w.heap.size t1 c1/\Blk ((w.alloc (.cells c1 t1)).alloc (.cells c2 t2)) (w.heap.size + 1) t2 c2/\bW w ((w.alloc (.cells c1 t1)).alloc (.cells c2 t2))/\((w.alloc (.cells c1 t1)).alloc (.cells c2 t2)).heap.size=w.heap.size + 2:=by
 have b1:=Blk.new w t1 c1;have s1:=q3l w (.cells c1 t1);have h0:=zA w (.cells c1 t1);generalize w.alloc (.cells c1 t1)=w1 at b1 s1 h0 ⊢;have b2:=Blk.new w1 t2 c2;have s2:=q3l w1 (.cells c2 t2);have h1:=zA w1 (.cells c2 t2);generalize w1.alloc (.cells c2 t2)=w2 at b2 s2 h1 ⊢;rw[s1]at b2
 exact⟨b1.keep h1,b2,h0.trans (h1.mono h0.size),zo⟩
theorem qvh:(Tryz.prog.info? 313).map (λi=>(i.zero,i.size,i.bytes))=some (some (.pointer none),1,8):=zk
theorem z28:Tryz.prog.underlying 45=some (.slice (Tryz.prog.elem 45)):=zk
theorem z0i(w:World):(sizeOf (Tryz.prog.elem 45)).run Tryz.prog w = .ok 3 w:=zk
theorem z29:Tryz.prog.underlying 310=some (.slice 313):=zk
theorem z2a:Tryz.prog.underlying 38=some (.slice 5):=zk
def qyd(w:World) (g:Nat) (Ss:List Sg) (Bs:List (List UInt8)):Prop:=∃ A c PQ,MemX w g g A c PQ Ss Bs/\(∀ b f,A=some ⟨b,f,none⟩->g<=b)/\∀ i,i < Ss.length->g<=(atD (0,0) PQ i).1/\g<=(atD (0,0) PQ i).2
theorem qq0.done{g:Nat} {v:Value} {PQ:List (Nat×Nat)} {G:List Sg} (h:qq0 w g g v G.length PQ G) (h4:G.length<=4) (hok:∀ s ∈ G,s.ok):qyd w g G (G.map z0):=by
 obtain⟨h1,h2,h3,h5,h6,h7,h8,h9⟩:=h;obtain⟨A,c,rfl,hs,ha⟩:=SlG.of_own h2 (λ_ _=>rfl) h3;have h0:∀ i,i < G.length->atD [] (G.map z0) i=z0 (atD sg0 G i):=λi hi=>by
  rw[q0s (by simpa using hi),q0s hi,List.getElem_map]
 refine⟨A,c,PQ,⟨h1,hs,zp,nL,Nat.le_of_lt h1.lt,h4,hok,λi hi=>by rw[h0 i hi];exact h5 i hi,λi hi=>?_⟩,ha,λi hi=>⟨h9 i hi,?_⟩⟩
 .obtain⟨n1,n2,n3,n4,n5,n6⟩:=h6 i hi;exact⟨n3,n4,λb o e e2=>n5 (by rw[e,e2];rfl),n6⟩
 .exact(h6 i hi).2.2.1
theorem newM_any'{w:World} {A:Option Addr} {n c:Nat} {L:List Sg} (h:SlG w A n c 3 sgC L) (hok:∀ s ∈ L,s.ok) :
  Calls Tryz.prog 115 #[.slice A n c] w λe w'=>e = .returned (.pointer (some ⟨w.heap.size,0,none⟩))/\qyd w' w.heap.size (L.take 4) ((L.take 4).map z0)/\Below w.heap.size w w':=by
 have hnc:=h.1.2.1;have hln:=h.2.1;have hn63:=h.len;obtain⟨i0,hi0,hz0,hz1,hz2⟩:=info_parts qvh;have hq:∃ q A',q<=n/\q<=4/\(L.take 4).length=q/\SlG w A' q c 3 sgC (L.take 4)/\(n<=4/\q=n/\A'=A\/¬ n<=4/\q=4/\A'=slA A 0 c 3):=by
  by_cases h4:n<=4
  .refine⟨n,A,Nat.le_refl _,h4,by rw[List.length_take];omega,?_,.inl ⟨h4,rfl,rfl⟩⟩;rw[List.take_of_length_le (by omega)];exact h
  .refine⟨4,slA A 0 c 3,by omega,Nat.le_refl _,by rw[List.length_take];omega,?_,.inr ⟨h4,rfl,rfl⟩⟩;have:=h.cut (lo:=0) (hi:=4) (by omega) (by omega);simpa using this
 obtain⟨q,A',hqn,hq4,hlt,hcut,hcase⟩:=hq;have hsl:=λw (h4:4<=c)=>q4p z28 z0i w A n c 4 h4;have hokG:∀ s ∈ L.take 4,s.ok:=λs hs=>hok s (List.mem_of_mem_take hs);generalize L.take 4=G at hlt hcut hokG;clear hok;have b1:=Blk.new w 312 #[.slice none 0 0,.bool true];have hb1:=(Below.refl w.heap.size w).alloc (Nat.le_refl _) (.cells #[.slice none 0 0,.bool true] 312);go_enter Tryz.func115,Tryz.ntmps115;go_upto_region 2 with fail;generalize w.alloc (.cells #[.slice none 0 0,.bool true] 312)=w1 at b1 hb1 ⊢;have hcut1:=hcut.keep hb1;have hN0:qq0 w1 w.heap.size w.heap.size (.slice none 0 0) 0 [] G:=⟨b1,World.ownsRow_nil _ _ _ _,rfl,(λi hi=>by omega),(λi hi=>by omega),(λe=>by cases e),Nat.le_refl _,λi hi=>by omega⟩
 clear hcut1 b1;rcases hcase with ⟨h4,rfl,rfl⟩ | ⟨h4,rfl,rfl⟩
 case' inr =>
  have hsl2:∀ w,(Instr.sliceAt 45 (.slice A n c) none (some (.int .i64 4)) none).run Tryz.prog w = .ok (.slice (slA A 0 c 3) 4 c) w:=λw=>hsl w (by omega)
 case' inl =>
  have hsl2:True:=trivial
 all_goals
  clear hsl;go_upto_region 3 with fail;go_wp2_with fail;go_loopw [14] (λi wr=>∃ (k:Nat) (v:Value) (PQ:List (Nat×Nat)),k<=G.length/\i = .int .i64 (k:Int)/\qq0 wr w.heap.size w.heap.size v k PQ G/\Below w.heap.size w wr) (λi _=>G.length - (intOf i).toNat)
  case atStart=>exact⟨0,_,[],by omega,rfl,hN0,hb1⟩
  case round =>
   obtain⟨k,v,PQ,hk,rfl,hN,hbw⟩:=hrel;by_cases hgo:k < G.length
   .have hgo':=hgo;rw[hlt]at hgo'
    obtain⟨lb,lo,e0,hlb,hlc⟩:=(hcut.keep hbw).at_ sg0 (k:=k) (by omega);have s0:wr.cell? ⟨lb,lo + k * 3,none⟩=some (.int .i64 (atD sg0 G k).ba):=hlc 0 _ rfl;have s1:wr.cell? ⟨lb,lo + k * 3 + 1,none⟩=some (.int .i64 (atD sg0 G k).sz):=hlc 1 _ rfl;have s2:wr.cell? ⟨lb,lo + k * 3 + 2,none⟩=some (.bool (atD sg0 G k).wr):=hlc 2 _ rfl;clear hlc;rw[e0];have b5:=Blk.new wr 125 #[.int .i64 (atD sg0 G k).ba,.int .i64 (atD sg0 G k).sz,.bool (atD sg0 G k).wr];have hb5:=(Below.refl wr.heap.size wr).alloc (Nat.le_refl _) (.cells #[.int .i64 (atD sg0 G k).ba,.int .i64 (atD sg0 G k).sz,.bool (atD sg0 G k).wr] 125);go_upto_region 5 with fail;generalize wr.alloc (.cells #[.int .i64 (atD sg0 G k).ba,.int .i64 (atD sg0 G k).sz,.bool (atD sg0 G k).wr] 125)=w5 at b5 hb5 ⊢;have hB5:=hbw.trans (hb5.mono hbw.size);have hN5:=hN.keep hb5;have hoL:=qtv hN.2.1;have hv5:¬ v.ownBlock=some wr.heap.size:=λe=>by have:=hoL _ e;omega
    have hgl:w.heap.size < wr.heap.size:=hN.1.lt;clear hN hb5 s0 s1 s2 hoL;generalize wr.heap.size=g5 at b5 hv5 hgl ⊢;clear hcut hlb;have g0:w5.cell? ⟨w.heap.size,0,none⟩=some v:=hN5.1.cell 0;have gf:=hN5.1.frozen;have hvg:¬ v.ownBlock=some w.heap.size:=hN5.2.2.2.2.2.1;have y0:w5.cell? ⟨g5,0,none⟩=some (.int .i64 (atD sg0 G k).ba):=b5.cell 0;have y1:w5.cell? ⟨g5,1,none⟩=some (.int .i64 (atD sg0 G k).sz):=b5.cell 1;have y2:w5.cell? ⟨g5,2,none⟩=some (.bool (atD sg0 G k).wr):=b5.cell 2;have hg5:=b5.lt;have hgl5:w.heap.size < w5.heap.size:=by omega
    generalize hsg:atD sg0 G k=s at b5 y0 y1 y2 ⊢;have HS:=Lib.hid hsg;clear hsg;obtain⟨ba,sz,wb⟩:=s;simp only at b5 y0 y1 y2 ⊢;obtain⟨m,hm⟩:∃ m:Nat,m=(max 0 (min sz 256)).toNat:=⟨_,rfl⟩
    have HZ:Hid (z0 ⟨ba,sz,wb⟩=List.replicate m 0):=by unfold Hid z0;rw[hm]
    have hmk:=run_make_row' (P:=Tryz.prog) 38 5 (.int .u8 0) 1 z2a byte_info rfl .i64 .i64 m (by omega) (by omega);obtain⟨cs,hcs⟩:∃ cs,cs=madeCells #[.int .u8 0] m:=⟨_,rfl⟩
    rw[<- hcs]at hmk
    have HC:Hid (cs=((z0 ⟨ba,sz,wb⟩).map bv).toArray):=by
     unfold Hid;rw[hcs,HZ.out];rw[made_one,List.map_replicate];simp[bv]
    have HL:Hid ((z0 ⟨ba,sz,wb⟩).length=m):=by unfold Hid;rw[HZ.out,List.length_replicate]
    clear hcs HZ;have hmc:(sz < 0/\m=0)\/(sz=0/\m=0)\/(0 < sz/\sz < 256/\sz=(m:Int))\/(sz=256/\m=256)\/(256 < sz/\m=256):=by omega
    clear hm;rcases hmc with ⟨h1,rfl⟩ | ⟨rfl,rfl⟩ | ⟨h1,h2,rfl⟩ | ⟨rfl,rfl⟩ | ⟨h1,rfl⟩
    case' inl=>rw[show((0:Nat):Int)=0 from rfl]at hmk
    case' inr.inl=>rw[show((0:Nat):Int)=0 from rfl]at hmk
    case' inr.inr.inr.inl=>rw[show((256:Nat):Int)=256 from rfl]at hmk
    case' inr.inr.inr.inr=>rw[show((256:Nat):Int)=256 from rfl]at hmk
    all_goals
     refine q77 (λj=>v.ownBlock=some j) [(10,0),(1,0),(0,0),(0,0),(2,2)] (by kernel_rfl) (by kernel_rfl) ?_;simp only[q25,List.take,List.drop]
     repeat(go_big_quiet_step (fail))
     refine wpQuiet_nil (q04 rfl (λK' hK'=>?_));go_wp2_with fail;refine hK' _ _ rfl (q01 (((Fr.refl (λj=>v.ownBlock=some j) w5).alloc _).drew)) ?_;clear hK' K' hmk;have bq:Blk (w5.alloc (.cells cs 5)).drew w5.heap.size 5 cs:=Blk.new w5 _ _;have hbq:Below w5.heap.size w5 (w5.alloc (.cells cs 5)).drew:=((Below.refl _ w5).alloc (Nat.le_refl _) _).drew;have hzq:(w5.alloc (.cells cs 5)).drew.heap.size=w5.heap.size + 1:=q3l w5 _;generalize (w5.alloc (.cells cs 5)).drew=wq at bq hbq hzq ⊢
     try simp only[List.take,List.drop]
     repeat(go_big_quiet_step (fail))
     refine wpQuiet_nil (q04 rfl (λK' hK'=>?_));go_wp2_with fail;have kb:=λcs4=>z27 wq cs4 #[.pointer (some ⟨w5.heap.size + 1,0,none⟩)] 315 313;simp only[hzq]at kb;have hoL:=qtv hN5.2.1;have hBq:∀ cs4,w.heap.size<=((wq.alloc (.cells cs4 315)).alloc (.cells #[.pointer (some ⟨w5.heap.size + 1,0,none⟩)] 313)).heap.size:=λcs4=>by have:=(kb cs4).2.2.2;omega
     have key:∀ cs4 w9 gr,(v.ownBlock=some gr\/gr=((wq.alloc (.cells cs4 315)).alloc (.cells #[.pointer (some ⟨w5.heap.size + 1,0,none⟩)] 313)).heap.size)->Fr (λj=>v.ownBlock=some j) ((wq.alloc (.cells cs4 315)).alloc (.cells #[.pointer (some ⟨w5.heap.size + 1,0,none⟩)] 313)) w9 ->
       Blk w9 (w5.heap.size + 1) 315 cs4/\Blk w9 w5.heap.size 5 cs/\Fr (λj=>v.ownBlock=some j) w5 w9/\(v.ownBlock=some gr\/gr=w5.heap.size + 3):=λcs4 w9 gr h1 h2=>by
      obtain⟨bp,bs,hbx,hsx⟩:=kb cs4;refine⟨bp.fr h2 (λe=>by have:=hoL _ e;omega),((bq.keep (hbx.mono (by omega))).fr h2 (λe=>by have:=hoL _ e;omega)),(Fr.of_below (hbq.trans (hbx.mono (by omega))) _).trans h2,?_⟩;rcases h1 with h1 | h1
      .exact .inl h1
      .exact .inr (by omega)
     refine hK' _ _ rfl (q01 ((Fr.of_below hbq _).alloc _)) ?_;clear hK' K'
     try simp only[List.take,List.drop]
     refine wpQuiet_nil (q04 rfl (λK' hK'=>?_));go_wp2_with fail;refine hK' _ _ rfl (q01 (((Fr.of_below hbq _).alloc _).alloc _)) ?_;clear hK' K'
     try simp only[List.take,List.drop]
     refine wpQuiet_nil (q04 rfl (λK' hK'=>?_));refine qbn _ _ _ 310 (by rfl) w.heap.size 313 i0 _ 1 8 z29 hi0 hz0 hz1 hz2 rfl (by decide) (by decide) v k (PQ.flatMap ptC) (by rfl) (q74 hN5.2.1 (hbq.trans ((kb _).2.2.1.mono (by omega)))) (w5.heap.size + 1 + 1) #[.pointer (some ⟨w5.heap.size + 1,0,none⟩)] rfl (by simp[Value.oneCell']) (kb _).2.1 ?_ (by omega) ?_ ?_
     .rfl
     .exact hBq _
     .intro gr cap w9 hown9 hf9 hat9;refine hK' _ _ rfl (q01 ((((Fr.of_below hbq _).alloc _).alloc _).trans hf9)) ?_;clear hK' K';obtain⟨bp,bq9,f9,hat⟩:=key _ w9 gr hat9 hf9;clear key kb hf9 hat9 bq;have bg9:Blk w9 w.heap.size 312 #[v,.bool true]:=hN5.1.fr f9 hvg;have gc9:w9.cell? ⟨w.heap.size,0,none⟩=some v:=bg9.cell 0;have gf9:∀ i,w9.frozen? ⟨w.heap.size,i,none⟩=false:=bg9.frozen;have gl9:=bg9.lt;simp only[Act.put,List.setIfInBounds_toArray,List.set_cons_succ,List.set_cons_zero,List.take,List.drop]
      repeat(go_big_quiet_step (fail))
      refine wpQuiet_nil (q9r rfl (λK' hK'=>?_));go_wp2_with fail;refine hK' _ _ (λ_=>False) rfl ?_;clear hK' K'
      try simp only[q25]
      repeat(go_big_quiet_step (fail))
      refine wpQuiet_nil ?_;go_wp2_with fail;have hgr:gr≠w.heap.size:=λe=>by
       rcases hat with h | h
       .exact hvg (by rw[h,e])
       .omega
      have bg':Blk (w9.setCell ⟨w.heap.size,0,none⟩ (.slice (some ⟨gr,0,none⟩) (k + 1) cap)) w.heap.size 312 #[.slice (some ⟨gr,0,none⟩) (k + 1) cap,.bool true]:=bg9.set_ 0 _;have fs:Fr (λj=>j=w.heap.size) w9 (w9.setCell ⟨w.heap.size,0,none⟩ (.slice (some ⟨gr,0,none⟩) (k + 1) cap)):=Fr.setCell (S:=λj=>j=w.heap.size) (Fr.refl _ w9) (p:=⟨w.heap.size,0,none⟩) (λ_=>rfl) _;generalize w9.setCell ⟨w.heap.size,0,none⟩ (.slice (some ⟨gr,0,none⟩) (k + 1) cap)=w' at bg' fs ⊢;have f':Fr (λj=>j=w.heap.size\/v.ownBlock=some j) w5 w':=(f9.mono (λj _ hj => .inr hj)).trans (fs.mono (λj _ hj => .inl hj));have ho:w'.ownsRow w.heap.size 313 1 (.slice (some ⟨gr,0,none⟩) (k + 1) cap) (k + 1) ((PQ ++ [(w5.heap.size + 1,w5.heap.size)]).flatMap ptC):=by
       rw[List.flatMap_append];exact q5d (S:=λj=>j=w.heap.size) hown9 fs (λj _ e hj=>by cases e;exact hgr hj)
      have hr:qqw w' (atD sg0 G k) (w5.heap.size + 1,w5.heap.size) (z0 (atD sg0 G k)):=by
       rw[HS.out];refine⟨?_,?_,z0h _⟩
       .rw[HL.out];exact bp.fr fs (by show ¬ _=_;omega)
       .rw[<- HC.out];exact bq9.fr fs (by show ¬ _=_;omega)
      have hN':=hN5.step (p:=w5.heap.size + 1) (q:=w5.heap.size) f' (by omega) (Nat.le_refl _) (by omega) hr ho (by
       rcases hat with h | h
       .exact .inl h.symm
       .exact .inr ⟨gr,rfl,by omega,by omega,by omega⟩) bg'
      have hle:=qyc hN5.2.1;exact⟨⟨k + 1,_,_,by omega,by go_num,hN',hB5.trans (f'.below (B:=w.heap.size) (λj hj h=>by rcases h with h | h;omega;have:=hle j h;omega) (by omega))⟩,by simp[intOf];omega⟩
   .obtain rfl:k=G.length:=by omega
    clear hgo hk;go_wp2_with fail;go_ret;exact⟨rfl,hN.done (by omega) hokG,hbw⟩
end Me
end Go.Proofs.YtncfcbohiodnnaaGreat
