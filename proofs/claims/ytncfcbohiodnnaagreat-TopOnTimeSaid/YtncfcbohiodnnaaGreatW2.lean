/- Parts of this seat's claims. -/
import Derived.Test.YtncfcbohiodnnaaGreatW1
import Derived.ChangeOld
import Derived.Deep.Slices
import Derived.Lib.SliceRun
import Derived.Lib.SmallJoins
import Derived.OpenShut
import Derived.ProofKit
import Derived.ShutString
import Derived.StillTailTactics
import Derived.Test.YtncfcbohiodnnaaGreatProg
import Derived.Test.YtncfcbohiodnnaaGreatRows
set_option maxRecDepth 100000
set_option maxHeartbeats 6400000
namespace Go.Proofs.YtncfcbohiodnnaaGreat
open Go.RowKit
variable{w w' W wa wo W':World}{c n pt r B j b m mb q base cap id B0:Nat}{A:Option Addr}{a code what:Int}{cs:Array Value}
namespace Ca
structure Mach(w:World)(b:Nat)(A:Option Addr)(n c:Nat)(ds:List Int)(B:Option Addr)(m d:Nat)(us:List Int)(lv:Int):Prop where
 blk:Blk w b 427 #[.slice A n c,.slice B m d,ii lv]
 dn:zI w A n c ds
 up:zI w B m d us
 rng:i64 lv
theorem qaz{ds:List Int}{B:Option Addr}{d:Nat}{us:List Int}{lv:Int}(h:Mach w b A n c ds B m d us lv)(rd:Int) :
  cP 285 #[pp b,ii rd] w λe w'=>e=.returned (.bool (q_ ds lv rd))/\∃k,w'=w.drewN k:=by obtain⟨hb,hd,-,-⟩:=h;have h0:=hb.cell 0;have h2:=hb.cell 2;have hn:=hd.len;have hl:=hd.2.1;by_cases h1:0<=lv;{by_cases h3:lv<n;{obtain⟨k,rfl⟩:=Zf h1;obtain⟨bs,o,rfl,hbs,hck⟩:=hd.at_ (k:=k) zo;have HF:Hid (q_ ds k rd=decide (rd<z7 ds k)):=by{unfold q_ Hid;simp;omega};clear hd hb hl;refine zi ?_;go_wp2;go_quiet (fail);go_wp2;go_ret;exact⟨by rw[HF.out];rfl,_,rfl⟩};{have HF:Hid (q_ ds lv rd=false):=by{unfold q_ Hid;simp;omega};have h3':decide (lv<n)=false:=by{simpa using h3};clear hd hb hl;refine zi ?_;go_wp2;go_quiet (fail);go_wp2;go_ret;exact⟨by rw[HF.out];rfl,_,rfl⟩}};{have HF:Hid (q_ ds lv rd=false):=by{unfold q_ Hid;simp;omega};have h1':decide (0<=lv)=false:=by{simpa using h1};clear hd hb hl;refine zi ?_;go_wp2;go_quiet (fail);go_wp2;go_ret;exact⟨by rw[HF.out];rfl,_,rfl⟩}
theorem qg3{ds:List Int}{B:Option Addr}{d:Nat}{us:List Int}{lv:Int}(h:Mach w b A n c ds B m d us lv)(rd:Int) :
  cP 286 #[pp b,ii rd] w λe w'=>e=.returned (.bool (qn9 us lv rd))/\∃k,w'=w.drewN k:=by obtain⟨hb,-,hd,hr⟩:=h;have h0:=hb.cell 1;have h2:=hb.cell 2;have hn:=hd.len;have hl:=hd.2.1;unfold i64 at hr;by_cases h1:1<=lv;{by_cases h3:lv<=m;{obtain⟨bs,o,rfl,hbs,hck⟩:=hd.at_ (k:=lv.toNat-1) zo;have HF:Hid (qn9 us lv rd=decide (z7 us (lv.toNat-1)<=rd)):=by{unfold qn9 Hid;simp;omega};have hs0:0<=lv-1:=zo;have hs1:lv-1<m:=zo;have hs2:IntKind.i64.wrap (lv-1)=lv-1:=Q4 _ zo;clear hd hb hl;refine zi ?_;go_wp2;go_quiet (fail);go_wp2;go_ret;exact⟨by rw[HF.out];rfl,_,rfl⟩};{have HF:Hid (qn9 us lv rd=false):=by{unfold qn9 Hid;simp;omega};have h3':decide (lv<=m)=false:=by{simpa using h3};clear hd hb hl;refine zi ?_;go_wp2;go_quiet (fail);go_wp2;go_ret;exact⟨by rw[HF.out];rfl,_,rfl⟩}};{have HF:Hid (qn9 us lv rd=false):=by{unfold qn9 Hid;simp;omega};have h1':decide (1<=lv)=false:=by{simpa using h1};clear hd hb hl;refine zi ?_;go_wp2;go_quiet (fail);go_wp2;go_ret;exact⟨by rw[HF.out];rfl,_,rfl⟩}
theorem Mach.drewN{ds:List Int}{B:Option Addr}{d:Nat}{us:List Int}{lv:Int}(h:Mach w b A n c ds B m d us lv)(k:Nat):Mach (w.drewN k) b A n c ds B m d us lv :=
 ⟨h.blk.drewN k,h.dn.keep (q0a _ _ _),h.up.keep (q0a _ _ _),h.rng⟩
theorem Mach.fr{ds:List Int}{B:Option Addr}{d:Nat}{us:List Int}{lv:Int}(h:Mach w b A n c ds B m d us lv){S:Nat->Prop}(hf:Fr S w w')(hb:¬S b)
 (hA:∀g o,0<n->A=some ⟨g,o,none⟩->¬S g)(hB:∀g o,0<m->B=some ⟨g,o,none⟩->¬S g):Mach w' b A n c ds B m d us lv :=
 ⟨h.blk.fr hf hb,⟨h.dn.1.fr hf hA,h.dn.2⟩,⟨h.up.1.fr hf hB,h.up.2⟩,h.rng⟩
theorem Mach.set_{ds:List Int}{B:Option Addr}{d:Nat}{us:List Int}{lv:Int}(h:Mach w b A n c ds B m d us lv)
 (hA:∀g o,0<n->A=some ⟨g,o,none⟩->g≠b)(hB:∀g o,0<m->B=some ⟨g,o,none⟩->g≠b){lv':Int}(hr:i64 lv'):Mach (w.setCell ⟨b,2,none⟩ (ii lv')) b A n c ds B m d us lv':=by have hf:Fr (· = b) w (w.setCell ⟨b,2,none⟩ (ii lv')):=(Fr.refl (· = b) w).setCell (p:=⟨b,2,none⟩) (λ_=>rfl) _;exact⟨by simpa using h.blk.set_ 2 (ii lv'),⟨h.dn.1.fr hf λg o hn e=>hA g o hn e,h.dn.2⟩,⟨h.up.1.fr hf λg o hn e=>hB g o hn e,h.up.2⟩,hr⟩
theorem step_any{ds:List Int}{B:Option Addr}{d:Nat}{us:List Int}{lv:Int}(h:Mach w b A n c ds B m d us lv)
 (hA:∀g o,0<n->A=some ⟨g,o,none⟩->g≠b)(hB:∀g o,0<m->B=some ⟨g,o,none⟩->g≠b)(rd:Int) :
  cP 242 #[pp b,ii rd] w λe w'=>e=.returned (ii (q46 ds us lv rd))/\Mach w' b A n c ds B m d us (q46 ds us lv rd)/\Fr (· = b) w w':=by have h2:=h.blk.cell 2;have hz:w.frozen? ⟨b,2,none⟩=false:=h.blk.frozen 2;have h0:=qez ds us lv rd (by rw[h.dn.2.1];exact h.dn.len) h.rng;cases hlo:q_ ds lv rd;{cases hhi:qn9 us lv rd;{have HF:Hid (q46 ds us lv rd=lv):=by{unfold q46 Hid;simp[hlo,hhi]};have HL:=zhd hlo;have HH:=zhd hhi;clear hlo hhi h0;refine zi ?_;go_wp2_with fail;refine(qaz h rd).mono ?_;rintro e w'⟨rfl,k,rfl⟩;rw[HL.out];go_wp2_with fail;refine(qg3 (h.drewN k) rd).mono ?_;rintro e w'⟨rfl,j,rfl⟩;rw[HH.out];go_wp2;go_ret;rw[HF.out];exact⟨rfl,h.drewN _,(Fr.refl _ _).drewN _⟩};{have HF:Hid (q46 ds us lv rd=lv-1):=by{unfold q46 Hid;simp[hlo,hhi]};have HL:=zhd hlo;have HH:=zhd hhi;have hb:1<=lv/\lv<=9223372036854775807:=by{have:=h.up.len;have:=h.up.2.1;unfold qn9 at hhi;simp at hhi;omega};rw[HF.out]at h0;clear hlo hhi;refine zi ?_;go_wp2_with fail;refine(qaz h rd).mono ?_;rintro e w'⟨rfl,k,rfl⟩;rw[HL.out];go_wp2_with fail;refine(qg3 (h.drewN k) rd).mono ?_;rintro e w'⟨rfl,j,rfl⟩;rw[HH.out];go_wp2;go_ret;rw[HF.out];refine⟨rfl,?_,?_⟩;{exact(h.drewN _).set_ hA hB h0};{exact((Fr.refl _ _).drewN _).setCell zp _}}};{have HF:Hid (q46 ds us lv rd=lv+1):=by{unfold q46 Hid;simp[hlo]};have HL:=zhd hlo;have hb:0<=lv/\lv+1<=9223372036854775807:=by{have:=h.dn.len;have:=h.dn.2.1;unfold q_ at hlo;simp at hlo;omega};rw[HF.out]at h0;clear hlo;refine zi ?_;go_wp2_with fail;refine(qaz h rd).mono ?_;rintro e w'⟨rfl,k,rfl⟩;rw[HL.out];go_wp2;go_ret;rw[HF.out];refine⟨rfl,?_,?_⟩;{exact(h.drewN _).set_ hA hB h0};{exact((Fr.refl _ _).drewN _).setCell zp _}}
theorem next_any{ds:List Int}{B:Option Addr}{d:Nat}{us:List Int}(hd:zI w A n c ds)(hu:zI w B m d us)(lv rd:Int)(hlv:i64 lv) :
  cR 184 #[.agg #[.slice A n c,.slice B m d],ii lv,ii rd] w (ii (q46 ds us lv rd)):=by refine zi ?_;go_wp2_with fail;have h0:=(zA w (.cells #[.slice A n c,.slice B m d] 31)).alloc zp (.cells #[.slice A n c,.slice B m d,ii lv] 427);refine(step_any (b:=w.heap.size+1) ⟨by have:=Blk.new (w.alloc (.cells #[.slice A n c,.slice B m d] 31)) 427 #[.slice A n c,.slice B m d,ii lv];simpa using this,hd.keep h0,hu.keep h0,hlv⟩ ?_ ?_ rd).mono ?_;{exact λg o hn e=>hd.ne_ zo hn g o e};{exact λg o hn e=>hu.ne_ zo hn g o e};rintro e w1⟨rfl,hm,hf⟩;go_wp2;go_ret;exact⟨rfl,h0.trans (hf.below (by intro k hk;omega) aO)⟩
end Ca
theorem byte_info:(Tryz.prog.info? 5).map (λi=>(i.zero,i.size,i.bytes))=some (some (.int .u8 0),1,1):=zk
theorem z0f(hq:q<18446744073709551616):q ^^^ 18446744073709551615=18446744073709551615-q:=by have h:=BitVec.toNat_not (x:=BitVec.ofNat 64 q);rw[<- BitVec.xor_allOnes,BitVec.toNat_xor]at h;simp[Nat.mod_eq_of_lt hq]at h;rw[h]
theorem qr0{n:Int}(h:n<0)(h2 : -9223372036854775808<=n):bits .xor .u64 (IntKind.u64.wrap (IntKind.u64.wrap n*2)) (IntKind.u64.wrap (n / 9223372036854775808))=((xh n:Nat):Int):=by have h1:n / 9223372036854775808 = -1:=zo;rw[h1,ZP,ZP,ZP];have h3:n%18446744073709551616*2%18446744073709551616=(((n*2+18446744073709551616).toNat:Nat):Int):=zo;have h4:(-1:Int)%18446744073709551616=((18446744073709551615:Nat):Int):=zd;rw[h3,h4,u64_xor_nat _ _ zo zd,z0f zo];unfold xh;rw[Z1 h];omega
theorem qr1{n:Int}(h:0<=n)(h2:n<=9223372036854775807):bits .xor .u64 (n*2) (n / 9223372036854775808)=((xh n:Nat):Int):=by have h1:n / 9223372036854775808=((0:Nat):Int):=zo;have h3:n*2=(((n*2).toNat:Nat):Int):=zo;rw[h1,h3,u64_xor_nat _ _ zo zd,Nat.xor_zero];unfold xh;rw[Z0 zo]
theorem qjr{n:Int}(hn:i64 n) :
  cP 147 #[ii n] w λe w'=>e=.returned (.int .u64 ((xh n:Nat):Int))/\w=w':=by unfold i64 at hn;by_cases h:n<0;{have HT:=zhd (qr0 h hn.1);refine zi ?_;go_wp2;go_ret;exact⟨by rw[<- HT.out];rfl,rfl⟩};{have HT:=zhd (qr1 zo hn.2);refine zi ?_;go_wp2;go_ret;exact⟨by rw[<- HT.out];rfl,rfl⟩}
theorem qvb(x:Nat):bv (ob (x%128+128))=Value.int .u8 ((x:Int)%128+128):=by unfold bv;rw[qd5 zo];simp
theorem qy8(x:Nat)(hx:x<256):([ob x].map bv) = [Value.int .u8 (x:Int)]:=by simp[bv,qd5 hx]
def xZ(w:World)(g base:Nat)(l:List UInt8):Prop:=∃v,Blk w g 132 #[v]/\g<base/\base<=w.heap.size/\w.ownsRow base 5 1 v l.length (l.map bv)
theorem xZ.new(w:World):xZ (w.alloc (.cells #[nS] 132)) w.heap.size (w.heap.size+1) [] :=
 ⟨_,Blk.new w _ _,XQ _,zp,Qk _ _ _ _⟩
theorem xZ.keep{g:Nat}{l:List UInt8}(h:xZ w g base l)(hb:bW w w'):xZ w' g base l:=by obtain⟨v,h1,h2,h3,h4⟩:=h;exact⟨v,h1.keep hb,h2,Zb h3 hb.size,q74 h4 hb⟩
theorem qmv:∀x:Fin 256,x.val ||| 128=x.val%128+128:=by decide+kernel
theorem z0g(u:Nat):Value.int .u8 (bits .or .u8 ((u:Int)%256) 128)=bv (ob (u%128+128)):=by have h:=u8_or_nat (u%256) 128 (Xj _ zd) zd;rw[qmv ⟨u%256,Xj _ zd⟩]at h;rw[show((u%256:Nat):Int)=(u:Int)%256 from by simp]at h;rw[qvb];congr 1;rw[show((128:Nat):Int)=128 from rfl]at h;rw[h];simp only[Nat.mod_mod_of_dvd _ (show 128 ∣ 256 by decide)];simp
theorem qvc(w:World)(e:TypeId)(size:Nat):(w.alloc (.cells #[] e)).ownsRow w.heap.size e size (.slice (some ⟨w.heap.size,0,none⟩) 0 0) 0 [] :=
 ⟨zp,.inr ⟨w.heap.size,0,#[],rfl,nL,Qj w _,nL,by unfold maxLen;omega,zp,zp⟩⟩
theorem bv_cell(l:List UInt8):∀u∈l.map bv,u.oneCell'=true:=by intro u hu;obtain⟨x,_,rfl⟩:=Zz.1 hu;rfl
theorem q7g{l:List UInt8}(h:SlB w A n c l)(hn:n<=90000000) :
  cP 98 #[.slice A n c] w λe w'=>∃v,e=.returned v/\w'.ownsRow w.heap.size 5 1 v n (l.map bv)/\bW w w':=by obtain⟨i0,h4,h7,h8,h9⟩:=Xv byte_info;cases A with|none=>{have hc:c=0:=h.1.2.2.2.1 rfl;have h6:n=0:=by{have:=h.1.2.1;omega};subst hc h6;obtain rfl:l = []:=ZI h.2;have h2:=λw=>Lib.run_eql_slice_nil (P:=Tryz.prog) w 38 5 none 0 0 0 0 Tryz.underlying38;refine zi ?_;go_wp2;go_ret;exact⟨_,rfl,Qk _ _ _ _,bR⟩}|some ad=>{have h3:=zA w (.cells #[] 5);have h1:=qvc w 5 1;have h5:=h.keep h3;have h0:∀(j:Nat) (u:Value),(l.map bv)[j]?=some u->(w.alloc (.cells #[] 5)).cell? (ad.add j)=some u:=by{intro j u hu;have hlt:j<n:=by{have:=(ZL.1 hu).1;rw[Zh,h.2]at this;exact this};obtain⟨b,o,e,_,hc⟩:=h5.1.at_ zo;cases e;rw[q11];exact hc j u hu};have hlen:=h.2;have h2:=λw=>Lib.run_eql_slice_nil (P:=Tryz.prog) w 38 5 (some ad) n c 0 0 Tryz.underlying38;refine zi ?_;go_wp2_with(at_builtin;refine wpList_append_own_at _ zr _ _ 38 zr w.heap.size 5 i0 _ 1 1 Tryz.underlying38 h4 h7 h8 h9 rfl zd _ 0 _ zr h1 ad n c (l.map bv) zr aO h0 (bv_cell l) (by unfold maxLen;omega) zo zp ?_;intro v' w1 hown1 hg1 hnil1 hat1);go_ret;exact⟨v',rfl,by rw[Zp,Q6]at hown1;exact hown1,h3.grown hg1 zp (λk e=>by cases e;exact nL)⟩}
namespace Mo
theorem is_any{n:Int}:cP 179 #[ii n] w λe w'=>e=.returned (.bool (qY n))/\w=w':=by by_cases h:0<=n;{by_cases h2:n<5;{have hb:=zhd (qmy h h2);refine zi ?_;go_wp2;go_ret;exact⟨by rw[hb.out];rfl,rfl⟩};{have hb:=zhd (qi5 (n:=n) zo);have h0:decide (n<5)=false:=by{simpa using h2};refine zi ?_;go_wp2;go_ret;exact⟨by rw[hb.out];rfl,rfl⟩}};{have hb:=zhd (qi5 (n:=n) zo);have h0:decide (0<=n)=false:=by{simpa using h};refine zi ?_;go_wp2;go_ret;exact⟨by rw[hb.out];rfl,rfl⟩}
def z0s(w:World)(g:Nat)(l:List Int)(L:List Flt):Prop:=Blk w g 342 (mc (q9b l) (qzu L) (z0j L) (z0k L))
theorem z0s.keep{g:Nat}{l:List Int}{L:List Flt}(h:z0s w g l L)(hb:bW w w'):z0s w' g l L:=Blk.keep h hb
theorem z0s.fr{S:Nat->Prop}{g:Nat}{l:List Int}{L:List Flt}(h:z0s w g l L)(hb:Fr S w w')(hg:¬S g):z0s w' g l L:=Blk.fr h hb hg
theorem new_any{l:List Int}(hl:zI w A n c l) :
  cP 118 #[.slice A n c] w λe w'=>e=.returned (pp w.heap.size)/\z0s w' w.heap.size l []/\bW w w':=by have hn:=hl.len;have hll:=hl.2.1;have h2:=zA w (.cells #[ii 0,ii 0,ii 0,ii 0,ii 0,ii 0,ii 0,ii 0,ii 0,ii 0,ii (-1),ii (-1),.bool true] 342);have h3:Blk (w.alloc (.cells #[ii 0,ii 0,ii 0,ii 0,ii 0,ii 0,ii 0,ii 0,ii 0,ii 0,ii (-1),ii (-1),.bool true] 342)) w.heap.size 342 (mc (qtw (q9b l) 0) (qzu []) (-1) (-1)):=Blk.new w 342 #[ii 0,ii 0,ii 0,ii 0,ii 0,ii 0,ii 0,ii 0,ii 0,ii 0,ii (-1),ii (-1),.bool true];refine zi ?_;go_wp2_with fail;generalize w.alloc (.cells #[ii 0,ii 0,ii 0,ii 0,ii 0,ii 0,ii 0,ii 0,ii 0,ii 0,ii (-1),ii (-1),.bool true] 342)=w0 at h2 h3⊢;go_loopw[7] (λi wr=>∃k:Nat,k<=5/\i=.int .i64 k/\Blk wr w.heap.size 342 (mc (qtw (q9b l) k) (qzu []) (-1) (-1))/\bW w wr) (λi _=>5-(intOf i).toNat);(case atStart=>exact⟨0,zo,rfl,h3,h2⟩);case round=>obtain⟨k,hk,rfl,hm,h0⟩:=hrel;by_cases h5:k<5;{by_cases h1:k<n;{obtain⟨b,o,rfl,hb,hck⟩:=(hl.keep h0).at_ h1;by_cases hi:qY (z7 l k)=true;{have HA:Hid (q9b l k=z7 l k):=by{unfold Hid q9b;rw[Z1 ⟨zo,hi⟩]};have hfz:=hm.frozen (k*2);have hcc:wr.cell? ⟨w.heap.size,k*2,none⟩=some (ii (qtw (q9b l) k k)):=(hm.cell (k*2)).trans (qn0 _ _ _ _ h5);have hgs:=hm.lt;have hkb:(k:Int)<5:=zo;go_wp2_with fail;refine is_any.mono ?_;rintro e w2⟨rfl,rfl⟩;go_wp2_with fail;go_still_tail 10,zk;go_wp2_with fail;refine⟨⟨k+1,zo,by go_num,?_,?_⟩,by simp[intOf];omega⟩;{have he:=qjx (q9b l) (qzu []) (-1) (-1) h5;rw[HA.out]at he;rw[<- he];exact hm.set_ _ _};{exact(h0.setCell nL _).drew}};{have hi':qY (z7 l k)=false:=by{simpa using hi};have HA:Hid (q9b l k=0):=by{unfold Hid q9b;rw[Z0 (λh=>hi h.2)]};clear hi;go_wp2_with fail;refine is_any.mono ?_;rintro e w2⟨rfl,rfl⟩;go_wp2_with fail;refine⟨⟨k+1,zo,by go_num,?_,?_⟩,by simp[intOf];omega⟩;{rw[<- qn1 _ _ _ _ h5 HA.out];exact hm};{exact h0}}};{have hkn':decide ((k:Int)<n)=false:=by{simpa using h1};have HA:Hid (q9b l k=0):=by{unfold Hid q9b;rw[Z0 (λh=>h1 zo)]};go_wp2_with fail;refine⟨⟨k+1,zo,by go_num,?_,?_⟩,by simp[intOf];omega⟩;{rw[<- qn1 _ _ _ _ h5 HA.out];exact hm};{exact h0}}};{obtain rfl:k=5:=zo;go_wp2;go_ret;exact⟨rfl,hm,h0⟩}
end Mo
section
open Go.ChangeShapes Go.WideShapes Go.ChangeAt Go.RowKit Go.Joins
open Go.ChangeMaps (open_string shut_string)
theorem Tryz.own:ownKnob Tryz.prog.godebug=none:=by kernel_rfl
theorem Tryz.laidOut:laidOutB Tryz.prog=true:=by kernel_rfl
theorem Tryz.u_bool:Tryz.prog.underlying 4=some .bool:=by kernel_rfl
theorem q78{P:Program}(hlo:laidOutB P=true){H:Type}{enc:TypeId×Value->H}{W W':World}(hb:Below W.heap.size W W'):∀ {ts:List TypeId} {vs:List Value} {ds:List (DataW H)} {ps:List MemPlace},
  (ts.all λt=>P.readableRec t&&decide (t<P.types.size))=true->DataW.TrodAll enc P W 0 (λ_=>true) true ts vs ds ps->DataW.TrodAll enc P W' 0 (λb=>decide (b<W.heap.size)) true ts vs ds ps
 |[],vs,ds,ps,_,h=>by obtain⟨rfl,rfl,rfl⟩:=trodAll_nil h;exact trodAll_mk0
 |t::ts,vs,ds,ps,ht,h=>by obtain⟨v,vs',d,ds',p,q,rfl,rfl,rfl,h0,h1⟩:=trodAll_cons h;rw[List.all_cons,Bool.and_eq_true,Bool.and_eq_true,decide_eq_true_eq]at ht;have lt0:∀x∈p,x.block<W.heap.size:=by{obtain⟨m,hm⟩:=h0;exact DataW.trod_lt m _ _ _ hm};exact trodAll_cons_mk (Below.trod hlo ht.1.1 ht.1.2 h0 hb lt0) (q78 hlo hb ht.2 h1)
theorem q9t{P:Program}{H:Type}{enc:TypeId×Value->H}{W:World}:∀ {ts:List TypeId} {vs:List Value} {ds:List (DataW H)} {ps:List MemPlace},DataW.TrodAll enc P W 0 (λ_=>true) true ts vs ds ps->ds.length=ts.length
 |[],vs,ds,ps,h=>by obtain⟨rfl,rfl,rfl⟩:=trodAll_nil h;rfl
 |t::ts,vs,ds,ps,h=>by obtain⟨v,vs',d,ds',p,q,rfl,rfl,rfl,h0,h1⟩:=trodAll_cons h;rw[List.length_cons,List.length_cons,q9t h1]
theorem qbp(f:FuncId)(fn:Func)(s:ChangeSpec)(os:Os)(started:os.Started)(H:Type)(enc:TypeId×Value->H)(hvars:s.vars = [])
 (hfn:Tryz.checked.prog.funcs[f]?=some fn)(hini:Tryz.checked.prog.inits.idxOf? f=none)(hres:fn.resultTypes.toList = [4])(hrn:fn.resultTypes.size=1)
 (hpar:(fn.params.toList.all λt=>Tryz.prog.readableRec t&&decide (t<Tryz.prog.types.size))=true)
 (hspec:∀ds:List (DataW H),ds.length=fn.params.toList.length->s.fn H ds={results:=[.lit (.bool true)],args:=ds})
 (witness:∃(w:World) (tape:Tape) (i:Input),w.os=os/\(w.forCall tape i).Shaped Tryz.checked.prog/\i.vars = []/\Input.okWide Tryz.checked.prog (w.forCall tape i) .any w.heap.size f i /\
   s.pre6 enc Tryz.checked.prog fn [] false (w.forCall tape i).memory i.args/\({}:Assume).holds Tryz.checked.prog (lone (Frame.enter Tryz.checked.prog f i.args .normal) [] (w.forCall tape i)))
 (contract:∀(W:World) (base:Nat) (args:Array Value) (ds:List (DataW H)) (ps:List MemPlace),
   (∀(j:Nat) t v,fn.params[j]?=some t->args[j]?=some v->Value.okWide Tryz.prog W .any base t v)->DataW.TrodAll enc Tryz.prog W 0 (λ_=>true) true fn.params.toList args.toList ds ps ->
   Calls Tryz.prog f args W λe W'=>e=.returned (.bool true)/\Below W.heap.size W W') :
  ReturnsInHanded {} Tryz.checked os f .any (s.pre6 enc Tryz.prog fn [] false) (s.post enc Tryz.prog fn false true false false):=by refine returnsInHanded_of_change (C:=Tryz.checked) Tryz.own started hini hfn witness ?_;intro W base args ds gs before hval hW _ _;have hW':=hW;obtain⟨p,q,hA,hV,rfl,hfz,hnd⟩:=hW;rw[hvars]at hV;obtain⟨rfl,rfl⟩:=trodVars_none hV;refine(contract W base args ds p hval hA).mono λe W' ⟨he,bel⟩=>?_;subst he;have hlen:ds.length=fn.params.toList.length:=q9t hA;have hsp:=hspec ds hlen;refine⟨_,rfl,ds,[],_,[],p,[],hW',?_,?_,?_,bel.frame _,λh=>by cases h⟩;{rw[List.append_nil,hsp,hres,hrn];exact trodAll_mk1 (shut_bool Tryz.u_bool _)};{rw[List.append_nil,hsp];exact q78 Tryz.laidOut bel hpar hA};{rw[List.append_nil,hsp,hvars];rfl}
section
variable{H:Type}{enc:TypeId×Value->H}{P:Program}{W:World}
theorem qe5{n:Int}(h:(Lit.int .i64 n).wf=true):i64 n:=by have h1:IntKind.i64.min = -9223372036854775808:=rfl;have h2:IntKind.i64.max=9223372036854775807:=rfl;simp only[Lit.wf,Bool.and_eq_true,decide_eq_true_eq,h1,h2]at h;exact h
theorem qq4{t e:TypeId}(ht:P.underlying t=some (.slice e))(he:P.underlying e=some (.int .i64))(hC:P.cellsOf e=1){fuel:Nat}{v:Value}{x:DataW H×List MemPlace}
 (h:DataW.trod enc P W 0 (λ_=>true) true fuel t [v]=some x):∃A n c l,v=.slice A n c/\zI W A n c l:=by rcases open_ints ht he hC h with⟨hcs,_⟩|⟨a,len,cap,zs,hcs,_,hl,hm,hz,_,hcell,hwz⟩;{cases hcs;exact⟨none,0,0,[],rfl,zI.nil W⟩};{cases hcs;refine⟨some a,len,cap,zs.take len,rfl,⟨⟨by rw[List.length_map,List.length_take];simp at hz;omega,hl,hm,(λe=>by cases e),λhn=>?_⟩,by rw[List.length_take];simp at hz;omega,λn hn=>qe5 (hwz n (List.mem_of_mem_take hn))⟩⟩;have hz':zs.length=cap:=by{simpa using hz};have h0:=hcell 0 (by omega);obtain⟨b,o,spot⟩:=a;have hspot:spot=none:=by{simpa[Addr.add] using World.cell?_spot h0};subst hspot;refine⟨b,o,rfl,?_,λj u hu=>?_⟩;{have:=World.block_lt_of_cell? W _ h0;simpa[Addr.add] using this};{have hj:j<len:=by{have:=(List.getElem?_eq_some_iff.1 hu).1;rw[List.length_map,List.length_take]at this;omega};have hc:=hcell j (by omega);have hadd:(⟨b,o,none⟩:Addr).add j=⟨b,o+j,none⟩:=q11 b o j;rw[hadd]at hc;rw[hc,<- hu];simp[hj,List.getD,List.getElem?_eq_getElem (show j<zs.length by omega)]}}
theorem qtl{p:Nat->List Value->Prop}{size:Nat}:∀(len:Nat),(∀i,i<len->∃c,p i c/\c.length=size)->∃xs:List Value,xs.length=len*size/\∀i,i<len->p i ((xs.drop (i*size)).take size)
 |0,_=>⟨[],by simp,λi hi=>by omega⟩
 |len+1,h=>by obtain⟨xs,hl,hx⟩:=qtl len (λi hi=>h i (by omega));obtain⟨c,hp,hc⟩:=h len (by omega);refine⟨xs++c,by rw[List.length_append,hl,hc,Nat.add_mul,Nat.one_mul],λi hi=>?_⟩;rcases Nat.lt_or_ge i len with hlt|hge;{have h1:(i+1)*size<=len*size:=Nat.mul_le_mul_right _ hlt;rw[Nat.add_mul,Nat.one_mul]at h1;have:((xs++c).drop (i*size)).take size=(xs.drop (i*size)).take size:=by{rw[List.drop_append_of_le_length (by omega),List.take_append_of_le_length (by rw[List.length_drop];omega)]};rw[this];exact hx i hlt};{obtain rfl:i=len:=by{omega};rw[<- hl,List.drop_left,List.take_of_length_le (by omega)];exact hp}
theorem quj{t e size:TypeId}(ht:P.underlying t=some (.slice e))(hC:P.cellsOf e=size)(hs:0<size){fuel:Nat}{v:Value}{x:DataW H×List MemPlace}
 (h:DataW.trod enc P W 0 (λ_=>true) true fuel t [v]=some x):∃A n c cs,v=.slice A n c/\Sl W A n c size cs/\∀i,i<n->∃fuel' y,DataW.trod enc P W 0 (λ_=>true) true fuel' e ((cs.drop (i*size)).take size)=some y:=by rcases Go.Deep.open_slice ht h with⟨hcs,_⟩|⟨a,len,cap,m,n,D,Pl,hcs,_,hl,hm,hmm,_,hx⟩;{cases hcs;exact⟨none,0,0,[],rfl,Sl.nil W size,λi hi=>by omega⟩};{cases hcs;rw[hC]at hx;have hm':m=cap:=by{simpa using hmm};subst hm';obtain⟨xs,hxl,hxp⟩:=qtl (p:=λi c=>W.cells? 0 (a.add (i*size)) size=some c/\DataW.trod enc P W 0 (λ_=>true) true n e c=some (D i,Pl i)) (size:=size) len (λi hi=>by obtain⟨c,h1,h2⟩:=hx i (by omega);exact⟨c,⟨h1,h2⟩,(World.cells?_some h1).2.1⟩);refine⟨some a,len,m,xs,rfl,⟨hxl,hl,hm,(λe=>by cases e),λhn=>?_⟩,λi hi=>⟨n,_,(hxp i hi).2⟩⟩;have hat:∀j u,xs[j]?=some u->W.cell? (a.add j)=some u:=λj u hu=>by{have hj:j<len*size:=by{rw[<- hxl];exact(List.getElem?_eq_some_iff.1 hu).1};have hi:j / size<len:=Nat.div_lt_of_lt_mul (by rw[Nat.mul_comm];exact hj);have hr:j%size<size:=Nat.mod_lt _ hs;have hdm:j / size*size+j%size=j:=by{rw[Nat.mul_comm];exact Nat.div_add_mod j size};obtain⟨_,_,hcell⟩:=World.cells?_some (hxp (j / size) hi).1;have hc:=hcell (j%size) hr;rw[Go.Deep.add_add,hdm,List.getElem?_take,if_pos hr,List.getElem?_drop,hdm]at hc;rw[hc];exact hu};have h0l:0<xs.length:=by{rw[hxl];exact Nat.mul_pos hn hs};have h0:=hat 0 (xs[0]'h0l) (List.getElem?_eq_getElem h0l);obtain⟨b,o,spot⟩:=a;have hspot:spot=none:=by{simpa[Addr.add] using World.cell?_spot h0};subst hspot;refine⟨b,o,rfl,?_,λj u hu=>?_⟩;{have:=World.block_lt_of_cell? W _ h0;simpa[Addr.add] using this};{have hadd:(⟨b,o,none⟩:Addr).add j=⟨b,o+j,none⟩:=q11 b o j;rw[<- hadd];exact hat j u hu}}
theorem q00{t:TypeId}{fs:Array Field}(hu:P.underlying t=some (.struct fs)){fuel:Nat}{cs:List Value}{x:DataW H×List MemPlace}(h:DataW.trod enc P W 0 (λ_=>true) true fuel t cs=some x)
 (i:Nat)(T off sz:Nat)(hi:(fs[i]?).map (λf=>(f.type,f.offset))=some (T,off))(hC:P.cellsOf T=sz):∃n y,DataW.trod enc P W 0 (λ_=>true) true n T ((cs.drop off).take sz)=some y:=by obtain⟨xs,n,_,_,_,hxl,hg⟩:=DataW.trod_struct hu h;cases hf:fs[i]? with|none=>{rw[hf]at hi;cases hi}|some f=>{rw[hf]at hi;simp only[Option.map_some,Option.some.injEq,Prod.mk.injEq]at hi;obtain⟨rfl,rfl⟩:=hi;have hlt:i<xs.length:=by{rw[hxl];exact(Array.getElem?_eq_some_iff.1 hf).1};have:=hg i f hf;rw[hC,List.getElem?_eq_getElem hlt]at this;exact⟨n,_,this⟩}
theorem qe6{t:TypeId}{k:IntKind}(ht:P.underlying t=some (.int k)){fuel:Nat}{v:Value}{x:DataW H×List MemPlace}(h:DataW.trod enc P W 0 (λ_=>true) true fuel t [v]=some x):∃n,v=.int k n/\(Lit.int k n).wf=true:=by obtain⟨n,e,_,wf⟩:=DataW.trod_int ht h;cases e;exact⟨n,rfl,wf⟩
end
end
section
open Go.ChangeShapes Go.WideShapes Go.ChangeAt Go.RowKit Go.Joins
section
variable{α:Type}{w w':World}{A:Option Addr}{n c sz:Nat}{f:α->List Value}{l:List α}
def z6(d:α)(l:List α)(k:Nat):α:=l.getD k d
theorem q0s{d:α}{k:Nat}(h:k<l.length):z6 d l k=l[k]:=by simp[z6,List.getD,h]
theorem q4l(d:α)(l:List α)(k:Nat)(h:k<l.length):l.take (k+1)=l.take k ++ [z6 d l k]:=by rw[Zm h,q0s h]
theorem q0h{d:α}{k:Nat}(h:k<l.length):z6 d l k∈l:=by rw[q0s h];exact ZO _
def zx(w:World)(A:Option Addr)(n c sz:Nat)(f:α->List Value)(l:List α):Prop:=Sl w A n c sz (l.flatMap f)/\l.length=n/\∀x∈l,(f x).length=sz
theorem zx.keep(h:zx w A n c sz f l)(hb:bW w w'):zx w' A n c sz f l:=⟨h.1.keep hb,h.2⟩
theorem zx.fr{S:Nat->Prop}(h:zx w A n c sz f l)(hb:Fr S w w')(hS:∀b o,0<n->A=some ⟨b,o,none⟩->¬S b):zx w' A n c sz f l:=⟨h.1.fr hb hS,h.2⟩
theorem zx.nil(w:World)(sz:Nat)(f:α->List Value):zx w none 0 0 sz f []:=⟨Sl.nil w sz,rfl,λx h=>by cases h⟩
theorem zx.len(h:zx w A n c sz f l):n<=9223372036854775807:=h.1.len_le
theorem qq5(d:α)(l:List α)(hf:∀x∈l,(f x).length=sz)(k j:Nat)(hk:k<l.length)(hj:j<sz):(l.flatMap f)[k*sz+j]?=(f (z6 d l k))[j]?:=by induction l generalizing k with|nil=>{simp at hk}|cons x l ih=>{have hx:=hf x zp;cases k with|zero=>{rw[Ql,XD,Zp,List.getElem?_append_left zo];simp[z6]}|succ k=>{rw[Ql,Xc (by rw[hx,ZT];omega),hx,show(k+1)*sz+j-sz=k*sz+j by rw[ZT];omega,ih (λy hy=>hf y (by simp[hy])) k (by simpa using hk)];simp[z6]}}
theorem zx.at_(d:α)(h:zx w A n c sz f l){k:Nat}(hk:k<n):∃b o,A=some ⟨b,o,none⟩/\b<w.heap.size/\∀j u,(f (z6 d l k))[j]?=some u->w.cell? ⟨b,o+k*sz+j,none⟩=some u:=by obtain⟨b,o,e,hb,hc⟩:=h.1.at_ zo;refine⟨b,o,e,hb,λj u hu=>?_⟩;have hl:=h.2.1;have hj:j<sz:=by{have h1:=(ZL.1 hu).1;rw[h.2.2 _ (q0h zo)]at h1;exact h1};rw[Qh];exact hc _ u (by rw[qq5 d l h.2.2 k j zo hj];exact hu)
theorem zx.of_own{e:TypeId}{v:Value}{l:List α}(h:w.ownsRow base e sz v n (l.flatMap f))(hf:∀x∈l,(f x).length=sz)(hl:l.length=n):∃A c,v=.slice A n c/\zx w A n c sz f l/\∀b o,A=some ⟨b,o,none⟩->base<=b:=by obtain⟨A,c,hv,hs,hb⟩:=Sl.of_own h;exact⟨A,c,hv,⟨hs,hl,hf⟩,hb⟩
end
theorem qlo{α:Type}{f:α->List Value}{ok:α->Prop}{sz:Nat}:∀(n:Nat) (cs:List Value),cs.length=n*sz->(∀i,i<n->∃a,(cs.drop (i*sz)).take sz=f a/\ok a)->∃l:List α,l.length=n/\cs=l.flatMap f/\∀a∈l,ok a
 |0,cs,hl,_=>⟨[],rfl,by simpa using hl,λa h=>by cases h⟩
 |n+1,cs,hl,h=>by
  rw[ZT,X9]at hl;obtain⟨a,ha,h0⟩:=h 0 zo;rw[XD,List.drop_zero]at ha;obtain⟨l,h1,h2,h3⟩:=qlo (f:=f) (ok:=ok) (sz:=sz) n (cs.drop sz) (by rw[Qb];omega) (λi hi=>by obtain⟨b,hb,h4⟩:=h (i+1) zo;rw[ZT,X9]at hb;exact⟨b,by rw[List.drop_drop,QV];exact hb,h4⟩)
  exact⟨a::l,by simp[h1],by rw[Ql,<- ha,<- h2,List.take_append_drop],λb hb=>by
   rcases Zx.1 hb with rfl|hb
   .exact h0
   .exact h3 b hb⟩
section
variable{H:Type}{enc:TypeId×Value->H}{P:Program}{W:World}
theorem qq6{α:Type}{f:α->List Value}{ok:α->Prop}{t e:TypeId}{sz:Nat}(ht:P.underlying t=some (.slice e))(hC:P.cellsOf e=sz)(hs:0<sz)
 (hrd:∀(fuel:Nat) (cs:List Value) (x:DataW H×List MemPlace),cs.length=sz->DataW.trod enc P W 0 (λ_=>true) true fuel e cs=some x->∃a,cs=f a/\ok a)
 {fuel:Nat}{v:Value}{x:DataW H×List MemPlace}(h:DataW.trod enc P W 0 (λ_=>true) true fuel t [v]=some x):∃A n c l,v=.slice A n c/\zx W A n c sz f l/\∀a∈l,ok a:=by obtain⟨A,n,c,cs,rfl,h4,he⟩:=quj ht hC hs h;have hl:=h4.1;have h5:∀i,i<n->∃a,(cs.drop (i*sz)).take sz=f a/\(ok a/\(f a).length=sz):=λi hi=>by{obtain⟨_,_,g⟩:=he i hi;have h0:((cs.drop (i*sz)).take sz).length=sz:=by{rw[Zq,Qb,hl];have:(i+1)*sz<=n*sz:=ZZ _ hi;rw[ZT,X9]at this;omega};obtain⟨a,ha,h6⟩:=hrd _ _ _ h0 g;exact⟨a,ha,h6,by rw[<- ha,h0]⟩};obtain⟨l,h1,h2,h3⟩:=qlo n cs hl h5;subst h2;exact⟨A,n,c,l,rfl,⟨h4,h1,λa ha=>(h3 a ha).2⟩,λa ha=>(h3 a ha).1⟩
end
end
def qg(A:Option Addr)(lo c s:Nat):Option Addr:=if c=lo then A else A.map (·.add (lo*s))
section
variable{w:World}{A:Option Addr}{n c sz:Nat}{xs:List Value}
theorem Sl.cut(h:Sl w A n c sz xs){lo hi:Nat}(h1:lo<=hi)(h2:hi<=n):Sl w (qg A lo c sz) (hi-lo) (c-lo) sz ((xs.drop (lo*sz)).take ((hi-lo)*sz)):=by obtain⟨hl,hnc,hcm,h0,h3⟩:=h;refine⟨?_,zo,zo,λhn=>?_,λhp=>?_⟩;{rw[Zq,Qb,hl,<- Nat.sub_mul];exact QF (ZZ _ zo)};{unfold qg at hn;split at hn;{omega};{cases A with|none=>{rw[h0 rfl];omega}|some a=>simp at hn}};{obtain⟨b,o,rfl,hb,hc⟩:=h3 zo;refine⟨b,o+lo*sz,?_,hb,λj u hu=>?_⟩;{unfold qg;rw[Z0 zo];simp[q11]};{rw[QX]at hu;split at hu;{rw[XK]at hu;rw[Qh];exact hc _ u hu};{cases hu}}}
end
theorem qi3{α:Type}{f:α->List Value}{sz:Nat}(l:List α)(hf:∀x∈l,(f x).length=sz)(lo m:Nat):((l.flatMap f).drop (lo*sz)).take (m*sz)=((l.drop lo).take m).flatMap f:=by have hd:∀(l:List α),(∀x∈l,(f x).length=sz)->∀lo,(l.flatMap f).drop (lo*sz)=(l.drop lo).flatMap f:=by{intro l;induction l with|nil=>{intro _ lo;simp}|cons x l ih=>{intro hf lo;cases lo with|zero=>{simp}|succ lo=>{have hx:=hf x zp;rw[List.drop_succ_cons,Ql,<- ih (λy hy=>hf y (by simp[hy])) lo,List.drop_append,hx,ZT,X9];rw[Xr zo,Q6,show lo*sz+sz-sz=lo*sz by omega]}}};have ht:∀(l:List α),(∀x∈l,(f x).length=sz)->∀m,(l.flatMap f).take (m*sz)=(l.take m).flatMap f:=by{intro l;induction l with|nil=>{intro _ m;simp}|cons x l ih=>{intro hf m;cases m with|zero=>{simp}|succ m=>{have hx:=hf x zp;rw[List.take_succ_cons,Ql,Ql,<- ih (λy hy=>hf y (by simp[hy])) m,List.take_append,hx,ZT,X9];rw[Zs zo,show m*sz+sz-sz=m*sz by omega]}}};rw[hd l hf lo,ht (l.drop lo) (λx hx=>hf x (List.mem_of_mem_drop hx)) m]
theorem zx.cut{α:Type}{f:α->List Value}{sz:Nat}{l:List α}(h:zx w A n c sz f l){lo hi:Nat}(h1:lo<=hi)(h2:hi<=n):zx w (qg A lo c sz) (hi-lo) (c-lo) sz f ((l.drop lo).take (hi-lo)):=by obtain⟨hs,hl,hf⟩:=h;refine⟨?_,by rw[Zq,Qb];omega,λx hx=>hf x (List.mem_of_mem_drop (ZV hx))⟩;rw[<- qi3 l hf];exact hs.cut h1 h2
theorem SlB.cut{l:List UInt8}(h:SlB w A n c l){lo hi:Nat}(h1:lo<=hi)(h2:hi<=n):SlB w (qg A lo c 1) (hi-lo) (c-lo) ((l.drop lo).take (hi-lo)):=by have:=h.1.cut h1 h2;refine⟨by simpa[List.map_drop,List.map_take] using this,?_⟩;have:=h.2;rw[Zq,Qb];omega
section
variable{P:Program}{t:TypeId}{s:Nat}(ht:P.underlying t=some (.slice (P.elem t)))(hs:∀w,(sizeOf (P.elem t)).run P w=.ok s w)(w:World)(A:Option Addr)(n c lo hi:Nat)
include ht hs
theorem qjp(h1:lo<=hi)(h2:hi<=c):(Instr.sliceAt t (.slice A n c) (some (ii lo)) (some (ii hi)) none).run P w=.ok (.slice (qg A lo c s) (hi-lo) (c-lo)) w:=by rw[run_sliceAt_slice w t _ _ _ _ ht,run_slice_lh w t A n c ht .i64 .i64 lo hi zo zo zo,hs];simp only[QK,sliced,qg,Z4]
theorem q4p(h2:hi<=c):(Instr.sliceAt t (.slice A n c) none (some (ii hi)) none).run P w=.ok (.slice (qg A 0 c s) hi c) w:=by rw[run_sliceAt_slice w t _ _ _ _ ht,run_slice_h w t A n c ht .i64 hi zo zo,hs];simp only[QK,sliced,qg,Z4,Nat.sub_zero]
theorem qen(h1:lo<=n):(Instr.sliceAt t (.slice A n c) (some (ii lo)) none none).run P w=.ok (.slice (qg A lo c s) (n-lo) (c-lo)) w:=by rw[run_sliceAt_slice w t _ _ _ _ ht,run_slice_l w t A n c ht .i64 lo zo zo,hs];simp only[QK,sliced,qg,Z4]
end
end Go.Proofs.YtncfcbohiodnnaaGreat
