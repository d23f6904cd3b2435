/- Parts of this seat's claims. -/
import Derived.Test.YtncfcbohiodnnaaGreatW2
import Derived.Test.YtncfcbohiodnnaaGreatW3
import Derived.Deep.DeepCutAuto
import Derived.Laws.CopyOwn
import Derived.Laws.CopyRow
import Derived.Outline
set_option maxRecDepth 100000
set_option maxHeartbeats 6400000
namespace Go.Proofs.YtncfcbohiodnnaaGreat
open Go.RowKit
variable{w w' W wa wo W':World} {c n pt r B j b m mb q base cap id B0:Nat} {A:Option Addr} {a code what:Int} {cs:Array Value}
namespace Ca
structure Pg where
 at_:Int
 end_:Int
 mode:Int
 level:Int
def Pg.f(p:Pg):List Value:=[ii p.at_,ii p.end_,ii p.mode,ii p.level]
def Pg.v(p:Pg):Value := .agg #[ii p.at_,ii p.end_,ii p.mode,ii p.level]
def Pg0:Pg:=⟨0,0,0,0⟩
def turnS(n:Nat) (mode want:Int):Int:=if 0<=want/\want < n then want else mode
def stepS(x:Cf) (p:Pg) (f:Fm):Option Pg :=
 let m:=turnS x.modes.l.length p.mode f.mode
 if m < 0\/(x.modes.l.length:Int)<=m then none else
 let long:=(atD Md0 x.modes.l m.toNat).frame
 if long < 1\/1152921504606846976 - p.end_ < long then none else
 some ⟨p.end_,p.end_ + long,m,q46 x.shed.down.l x.shed.up.l p.level f.reading⟩
def pagesS(x:Cf):Pg->List Fm->List Pg
 | _,[]=>[]
 | p,f :: fs=>match stepS x p f with
  | none=>[]
  | some q=>q :: pagesS x q fs
structure PgOk(x:Cf) (p:Pg):Prop where
 e:0<=p.end_/\p.end_<=1152921504606846976
 a:0<=p.at_/\p.at_<=1152921504606846976
 m:0<=p.mode/\i64 p.mode
 l:i64 p.level
theorem qyi(x:Cf):PgOk x Pg0:=⟨by simp[Pg0],by simp[Pg0],by simp[Pg0,i64],by simp[Pg0,i64]⟩
theorem qk1{x:Cf} {p q:Pg} {f:Fm} (h:stepS x p f=some q) :
  q.at_=p.end_/\q.end_=p.end_ + (atD Md0 x.modes.l q.mode.toNat).frame/\q.mode=turnS x.modes.l.length p.mode f.mode/\q.level=q46 x.shed.down.l x.shed.up.l p.level f.reading /\
  0<=q.mode/\q.mode < x.modes.l.length/\1<=(atD Md0 x.modes.l q.mode.toNat).frame/\(atD Md0 x.modes.l q.mode.toNat).frame<=1152921504606846976 - p.end_:=by
 unfold stepS at h;simp only at h;split at h
 .cases h
 .split at h
  .cases h
  .cases h;refine⟨rfl,rfl,rfl,rfl,?_,?_,?_,?_⟩ <;> simp only[] <;> omega
theorem qrd{x:Cf} {p q:Pg} {f:Fm} (hp:PgOk x p) (hd:x.shed.down.l.length<=9223372036854775807) (hm:x.modes.l.length<=9223372036854775807) (h:stepS x p f=some q):PgOk x q:=by
 obtain⟨h1,h2,h3,h4,h5,h6,h7,h8⟩:=qk1 h;obtain⟨e,a,m,l⟩:=hp;refine⟨zo,zo,⟨h5,by unfold i64;omega⟩,?_⟩;rw[h4];exact qez _ _ _ _ hd l
structure St where
 part:Int
 fr:Int
 «to» : Int
def St.f(s:St):List Value:=[ii s.part,ii s.fr,ii s.to]
def St0:St:=⟨0,0,0⟩
def slotS(at_:Int) (w:Wn):St:=⟨w.part,wrap64 (at_ + w.start),wrap64 (wrap64 (at_ + w.start) + w.len)⟩
def slotsS(m:Md) (at_:Int):List St:=m.wins.l.map (slotS at_)
end Ca
namespace Me
structure Sg where
 (ba sz:Int) (wr:Bool)
def Sg.ok(s:Sg):Prop:=i64 s.ba/\i64 s.sz
def sg0:Sg:=⟨0,0,false⟩
def qmt(s:Sg) (len:Nat) (a n:Int):Bool:=decide (0<=n) && decide (s.ba<=a) && decide (a - s.ba<=len) && decide (n<=len - (a - s.ba))
def ofB(s:Sg) (len:Nat) (a n:Int) (w:Bool):Bool:=qmt s len a n && (s.wr || !w)
theorem qd3{s:Sg} {len:Nat} {n:Int} : qmt s len a n=true↔0<=n/\s.ba<=a/\a - s.ba<=len/\n<=len - (a - s.ba):=by
 unfold qmt;simp[and_assoc]
theorem qv5{s:Sg} {len:Nat} {n:Int} (h:¬ (0<=n/\s.ba<=a/\a - s.ba<=len/\n<=len - (a - s.ba))):qmt s len a n=false:=by
 cases hh:qmt s len a n with
 | false=>rfl
 | true=>exact absurd (qd3.1 hh) h
theorem qv6{p:Nat} {s:Sg} {len:Nat} (hb:Blk w p 315 #[ii s.ba,ii s.sz,.bool s.wr,.slice A len c]) (hs:s.ok) (hl:len<=100000) {a n:Int} (ha:i64 a) (hn:i64 n) :
  cP 398 #[pp p,ii a,ii n] w λe w'=>e = .returned (.bool (qmt s len a n))/\∃ k,w'=w.drewN k:=by
 have HB:Hid (qmt s len a n=true↔0<=n/\s.ba<=a/\a - s.ba<=len/\n<=len - (a - s.ba)):=qd3;have HN:Hid (¬ (0<=n/\s.ba<=a/\a - s.ba<=len/\n<=len - (a - s.ba))->qmt s len a n=false):=qv5;generalize qmt s len a n=R at HB HN ⊢;obtain⟨ba,sz,wr⟩:=s;obtain⟨h7,h8⟩:=hs;simp only at h7 h8;unfold i64 at ha hn h7 h8;simp only[Hid]at HB HN;have c0:w.cell? ⟨p,0,none⟩=some (ii ba):=hb.cell 0;have c3:w.cell? ⟨p,3,none⟩=some (.slice A len c):=hb.cell 3;refine inC ?_;go_in;go_wp2_with fail;by_cases h0:0<=n
 .have h9:decide ((0:Int)<=n)=true:=by simpa using h0
  by_cases h1:ba<=a
  .have hc:decide (ba<=a)=true:=by simpa using h1
   by_cases h2:a - ba<=9223372036854775807
   .have hw:IntKind.i64.wrap (a - ba)=a - ba:=IntWalk.i64_in _ zo;have h5:decide (0<=a - ba)=true:=by simp;omega
    have h2'':(0:Int)<=a - ba:=zo;by_cases h3:a - ba<=(len:Int)
    .have h6:decide (a - ba<=(len:Int))=true:=by simpa using h3
     have hw2:IntKind.i64.wrap ((len:Int) - (a - ba))=(len:Int) - (a - ba):=IntWalk.i64_in _ zo;by_cases h4:n<=(len:Int) - (a - ba)
     .have hd:decide (n<=(len:Int) - (a - ba))=true:=by simpa using h4
      have hR:=HB.2 ⟨h0,h1,h3,h4⟩;subst hR;clear HB HN;go_wp2_with (go_quiet (fail));go_ret;exact⟨rfl,_,rfl⟩
     .have hd:decide (n<=(len:Int) - (a - ba))=false:=by simp;omega
      have hR:=HN (λh=>h4 h.2.2.2);subst hR;clear HB HN;go_wp2_with (go_quiet (fail));go_ret;exact⟨rfl,_,rfl⟩
    .have h6:decide (a - ba<=(len:Int))=false:=by simp;omega
     have hR:=HN (λh=>h3 h.2.2.1);subst hR;clear HB HN;go_wp2_with (go_quiet (fail));go_ret;exact⟨rfl,_,rfl⟩
   .have hw:IntKind.i64.wrap (a - ba) < 0:=by rw[IntKind.wrap_i64];omega
    have h5:decide (0<=IntKind.i64.wrap (a - ba))=false:=by simp;omega
    have h6:decide (0<=wrap64 (a - ba))=false:=by rw[<- IntWalk.i64_left];exact h5
    clear hw;have hR:=HN (λh=>by omega);subst hR;clear HB HN;go_wp2_with (go_quiet (fail));go_ret;exact⟨rfl,_,rfl⟩
  .have hc:decide (ba<=a)=false:=by simp;omega
   have hR:=HN (λh=>h1 h.2.1);subst hR;clear HB HN;go_wp2_with (go_quiet (fail));go_ret;exact⟨rfl,_,rfl⟩
 .have h9:decide ((0:Int)<=n)=false:=by simp;omega
  have hR:=HN (λh=>h0 h.1);subst hR;clear HB HN;go_wp2_with (go_quiet (fail));go_ret;exact⟨rfl,_,rfl⟩
end Me
namespace Me
def ptC(x:Nat×Nat):List Value:=[pp x.1]
def qqw(w:World) (s:Sg) (x:Nat×Nat) (l:List UInt8):Prop :=
 Blk w x.1 315 #[ii s.ba,ii s.sz,.bool s.wr,.slice (some ⟨x.2,0,none⟩) l.length l.length]/\Blk w x.2 5 (l.map bv).toArray/\l.length<=256
def lnB(Bs:List (List UInt8)) (i:Nat):Nat:=(atD [] Bs i).length
def fdF(Ss:List Sg) (Bs:List (List UInt8)) (a n:Int) (wr:Bool):Option Nat:=(List.range Ss.length).find? λj=>ofB (atD sg0 Ss j) (lnB Bs j) a n wr
theorem qqx{Ss:List Sg} {Bs:List (List UInt8)} {n:Int} {wr:Bool} {k:Nat} (hk:k < Ss.length) (h:ofB (atD sg0 Ss k) (lnB Bs k) a n wr=true) (hno:∀ j,j < k->ofB (atD sg0 Ss j) (lnB Bs j) a n wr=false):fdF Ss Bs a n wr=some k:=by
 unfold fdF;rw[List.find?_range_eq_some];exact⟨h,by simpa using hk,λj hj=>by rw[hno j hj];rfl⟩
theorem qqy{Ss:List Sg} {Bs:List (List UInt8)} {n:Int} {wr:Bool} (hno:∀ j,j < Ss.length->ofB (atD sg0 Ss j) (lnB Bs j) a n wr=false):fdF Ss Bs a n wr=none:=by
 unfold fdF;rw[List.find?_eq_none];intro j hj;rw[hno j (by simpa using hj)];exact Bool.false_ne_true
theorem qtu{Ss:List Sg} {Bs:List (List UInt8)} {n:Int} {wr:Bool} {k:Nat} (h:fdF Ss Bs a n wr=some k):k < Ss.length/\ofB (atD sg0 Ss k) (lnB Bs k) a n wr=true:=by
 unfold fdF at h;rw[List.find?_range_eq_some]at h
 exact⟨by simpa using h.2.1,h.1⟩
def fnV(x1 x2 x3:Nat):Value := .func (.func 397) #[] #[pp x1,pp x2,pp x3]
theorem qv7{s:Sg} {x:Nat×Nat} {l:List UInt8} (h:qqw w s x l) (hs:s.ok) {x1 x2 x3:Nat} {a n:Int} {wr:Bool} (ha:i64 a) (hn:i64 n)
  (c1:w.cell? ⟨x1,0,none⟩=some (ii a)) (c2:w.cell? ⟨x2,0,none⟩=some (ii n)) (c3:w.cell? ⟨x3,0,none⟩=some (.bool wr)) :
  cP 397 #[pp x.1,pp x1,pp x2,pp x3] w λe w'=>e = .returned (.bool (ofB s l.length a n wr))/\∃ k,w'=w.drewN k:=by
 obtain⟨h1,h2,h3⟩:=h;have HO:Hid (ofB s l.length a n wr=(qmt s l.length a n && (s.wr || !wr))):=rfl;generalize ofB s l.length a n wr=R at HO ⊢;refine inC ?_;go_in;go_wp2_with fail;refine(qv6 h1 hs zo ha hn).mono ?_;rintro e w2 ⟨rfl,k,rfl⟩;have q2:=h1.cell 2;generalize qmt s l.length a n=hh at HO ⊢;generalize s.wr=sw at HO q2;cases hh
 .have HR:Hid (R=false):=HO;clear HO;go_wp2_with fail;go_ret;exact⟨by rw[HR.out];rfl,_,rfl⟩
 .cases sw
  .cases wr
   .have HR:Hid (R=true):=HO;clear HO;go_wp2_with fail;go_ret;exact⟨by rw[HR.out];rfl,_,rfl⟩
   .have HR:Hid (R=false):=HO;clear HO;go_wp2_with fail;go_ret;exact⟨by rw[HR.out];rfl,_,rfl⟩
  .have HR:Hid (R=true):=HO;clear HO;go_wp2_with fail;go_ret;exact⟨by rw[HR.out];rfl,_,rfl⟩
def MemX(w:World) (g B:Nat) (A:Option Addr) (c:Nat) (PQ:List (Nat×Nat)) (Ss:List Sg) (Bs:List (List UInt8)):Prop:=Blk w g 312 #[.slice A Ss.length c,.bool true]/\SlG w A Ss.length c 1 ptC PQ/\Bs.length=Ss.length/\B<=g/\B<=w.heap.size/\Ss.length<=4/\(∀ s ∈ Ss,s.ok) /\
 (∀ i,i < Ss.length->qqw w (atD sg0 Ss i) (atD (0,0) PQ i) (atD [] Bs i)) /\
 (∀ i,i < Ss.length->B<=(atD (0,0) PQ i).2/\(atD (0,0) PQ i).2≠g/\(∀ b o,A=some ⟨b,o,none⟩->(atD (0,0) PQ i).2≠b)/\∀ j,j < Ss.length->(atD (0,0) PQ i).2≠(atD (0,0) PQ j).1/\(i≠j->(atD (0,0) PQ i).2≠(atD (0,0) PQ j).2))
theorem z0e{Ss:List Sg} (h:∀ s ∈ Ss,s.ok) {i:Nat} (hi:i < Ss.length):(atD sg0 Ss i).ok:=by
 have:atD sg0 Ss i=Ss[i]:=q0s hi;rw[this];exact h _ (List.getElem_mem hi)
theorem qqw.keep{s:Sg} {x:Nat×Nat} {l:List UInt8} (h:qqw w s x l) (hb:bW w w'):qqw w' s x l:=⟨h.1.keep hb,h.2.1.keep hb,h.2.2⟩
theorem MemX.keep{g:Nat} {PQ:List (Nat×Nat)} {Ss:List Sg} {Bs:List (List UInt8)} (h:MemX w g B A c PQ Ss Bs) (hb:bW w w'):MemX w' g B A c PQ Ss Bs:=by
 obtain⟨h1,h2,h3,h4,h5,h6,h7,h8,h9⟩:=h;exact⟨h1.keep hb,h2.keep hb,h3,h4,Nat.le_trans h5 hb.size,h6,h7,λi hi=>(h8 i hi).keep hb,h9⟩
theorem qmu(w:World) (a b:Nat):(w.drewN a).drewN b=w.drewN (a + b):=by
 simp[World.drewN,Nat.add_assoc]
def fdI(o:Option Nat):Int:=match o with
 | none => -1
 | some k=>k
theorem qv8{Ss:List Sg} {Bs:List (List UInt8)} {PQ:List (Nat×Nat)} (hS:SlG w A Ss.length c 1 ptC PQ) (h4:Ss.length<=4) (hok:∀ s ∈ Ss,s.ok)
  (hR:∀ i,i < Ss.length->qqw w (atD sg0 Ss i) (atD (0,0) PQ i) (atD [] Bs i)) {x1 x2 x3:Nat} {a n:Int} {wr:Bool} (ha:i64 a) (hn:i64 n)
  (c1:w.cell? ⟨x1,0,none⟩=some (ii a)) (c2:w.cell? ⟨x2,0,none⟩=some (ii n)) (c3:w.cell? ⟨x3,0,none⟩=some (.bool wr)) :
  cP 405 #[.slice A Ss.length c,fnV x1 x2 x3] w λe w'=>e = .returned (ii (fdI (fdF Ss Bs a n wr)))/\∃ k,w'=w.drewN k:=by
 have HS:Hid (∀ k,k < Ss.length->ofB (atD sg0 Ss k) (lnB Bs k) a n wr=true->(∀ j,j < k->ofB (atD sg0 Ss j) (lnB Bs j) a n wr=false)->fdF Ss Bs a n wr=some k):=λk h1 h2 h3=>qqx h1 h2 h3;have HN:Hid ((∀ j,j < Ss.length->ofB (atD sg0 Ss j) (lnB Bs j) a n wr=false)->fdF Ss Bs a n wr=none):=qqy;generalize fdF Ss Bs a n wr=R at HS HN ⊢;unfold fnV;refine inC ?_;go_in;go_wp2_with fail;obtain⟨wo,rfl⟩:∃ wo:World,wo=w:=⟨_,rfl⟩
 go_loopw [8] (λi wr'=>∃ k m:Nat,k<=Ss.length/\i = .int .i64 (k:Int)/\Hid (∀ j,j < k->ofB (atD sg0 Ss j) (lnB Bs j) a n wr=false)/\wr'=wo.drewN m) (λi _=>Ss.length - (intOf i).toNat)
 case atStart=>exact⟨0,0,zo,rfl,(λj hj=>by omega),rfl⟩
 case round =>
  obtain⟨k,m,hk,rfl,HJ,rfl⟩:=hrel;by_cases h0:k < Ss.length
  .have hlt':(k:Int) < (Ss.length:Int):=zo;have h8:=SlG.fr (S:=λ_=>False) hS ((Fr.refl (λ_=>False) wo).drewN m) (λ_ _ _ _ h=>h);obtain⟨b,o,rfl,hb,hc⟩:=h8.at_ (0,0) h0;have e0:(wo.drewN m).cell? ⟨b,o + k,none⟩=some (.pointer (some ⟨(atD (0,0) PQ k).1,0,none⟩)):=by have:=hc 0 _ rfl;simpa using this
   have h5:=(hR k h0).keep (((Fr.refl (λ_=>False) wo).drewN m).below (λ_ _ h=>h) nL);have h7:=z0e hok h0;generalize hx:atD (0,0) PQ k=x at e0 h5;clear hx hc;go_wp2_with fail;refine(qv7 h5 h7 ha hn c1 c2 c3).mono ?_;rintro e w2 ⟨rfl,m2,rfl⟩;have e3:(wo.drewN m).drewN m2=wo.drewN (m + m2):=qmu wo m m2;rw[e3];cases hof:ofB (atD sg0 Ss k) (atD [] Bs k).length a n wr with
   | true =>
    have HR:=zhd (HS.out k h0 hof HJ.out);clear HS HN hof;go_wp2_with fail;go_ret;exact⟨by rw[HR.out];rfl,_,rfl⟩
   | false =>
    have h6:Hid (∀ j,j < k + 1->ofB (atD sg0 Ss j) (lnB Bs j) a n wr=false):=λj hj=>by
     by_cases h:j=k
     .subst h;exact hof
     .exact HJ.out j zo
    clear HS HN hof HJ;go_wp2_with fail;exact⟨⟨k + 1,m + m2,zo,by go_num,h6,rfl⟩,by simp[intOf];omega⟩
  .obtain rfl:k=Ss.length:=zo;have HR:=zhd (HN.out HJ.out);clear HS HN HJ h0 hk;go_wp2_with fail;go_ret;exact⟨by rw[HR.out];rfl,_,rfl⟩
def ptF(PQ:List (Nat×Nat)) (o:Option Nat):Option Addr:=match o with
 | none=>none
 | some k=>some ⟨(atD (0,0) PQ k).1,0,none⟩
theorem qqz{g:Nat} {PQ:List (Nat×Nat)} {Ss:List Sg} {Bs:List (List UInt8)} (h:MemX w g B A c PQ Ss Bs) {x1 x2 x3:Nat} {a n:Int} {wr:Bool} (ha:i64 a) (hn:i64 n)
  (c1:w.cell? ⟨x1,0,none⟩=some (ii a)) (c2:w.cell? ⟨x2,0,none⟩=some (ii n)) (c3:w.cell? ⟨x3,0,none⟩=some (.bool wr)) :
  cP 396 #[pp g,fnV x1 x2 x3] w λe w'=>e = .returned (.pointer (ptF PQ (fdF Ss Bs a n wr)))/\∃ k,w'=w.drewN k:=by
 obtain⟨h1,h2,h3,h4,h5,h6,h7,h8,h9⟩:=h;have g0:=h1.cell 0;have g1:=h1.cell 1;have h0:∀ k,fdF Ss Bs a n wr=some k->k < Ss.length:=λk h=>(qtu h).1;obtain⟨R,hR⟩:∃ R,R=fdF Ss Bs a n wr:=⟨_,rfl⟩
 rw[<- hR]at h0 ⊢
 have HR:=zhd hR;clear hR;obtain⟨P,hP⟩:∃ P,P=ptF PQ R:=⟨_,rfl⟩
 rw[<- hP];have HP:=zhd hP;clear hP;refine inC ?_;go_in;go_wp2_with fail;refine(qv8 (Bs:=Bs) h2 h6 h7 h8 ha hn c1 c2 c3).mono ?_;rintro e w2 ⟨rfl,m,rfl⟩;rw[<- HR.out];clear HR;cases R with
 | none =>
  have hI:fdI none = -1:=rfl;rw[hI];go_wp2_with fail;go_ret;exact⟨by rw[HP.out];rfl,_,rfl⟩
 | some k =>
  have hk:=h0 k rfl;have hI:fdI (some k)=(k:Int):=rfl;rw[hI];have he:=SlG.fr (S:=λ_=>False) h2 ((Fr.refl (λ_=>False) w).drewN m) (λ_ _ _ _ h=>h);obtain⟨b,o,rfl,hb,hc⟩:=he.at_ (0,0) hk;have e0:(w.drewN m).cell? ⟨b,o + k,none⟩=some (.pointer (some ⟨(atD (0,0) PQ k).1,0,none⟩)):=by have:=hc 0 _ rfl;simpa using this
  have hd:Hid (P=some ⟨(atD (0,0) PQ k).1,0,none⟩):=HP.out;clear HP;generalize atD (0,0) PQ k=x at e0 hd;clear hc hI h0;have hk':(k:Int) < (Ss.length:Int):=zo;go_wp2_with fail;go_ret;exact⟨by rw[hd.out];rfl,_,rfl⟩
theorem q3l(w:World) (o:Obj):(w.alloc o).heap.size=w.heap.size + 1:=by unfold World.alloc;exact Array.size_push _
theorem z26(w:World) (c1 c2 c3:Array Value) (t1 t2 t3:TypeId):Blk (((w.alloc (.cells c1 t1)).alloc (.cells c2 t2)).alloc (.cells c3 t3)) w.heap.size t1 c1/\Blk (((w.alloc (.cells c1 t1)).alloc (.cells c2 t2)).alloc (.cells c3 t3)) (w.heap.size + 1) t2 c2/\Blk (((w.alloc (.cells c1 t1)).alloc (.cells c2 t2)).alloc (.cells c3 t3)) (w.heap.size + 2) t3 c3/\bW w (((w.alloc (.cells c1 t1)).alloc (.cells c2 t2)).alloc (.cells c3 t3))/\(((w.alloc (.cells c1 t1)).alloc (.cells c2 t2)).alloc (.cells c3 t3)).heap.size=w.heap.size + 3:=by
 have b1:=Blk.new w t1 c1;have s1:=q3l w (.cells c1 t1);have h1:=zA w (.cells c1 t1);generalize w.alloc (.cells c1 t1)=w1 at b1 s1 h1 ⊢;have b2:=Blk.new w1 t2 c2;have s2:=q3l w1 (.cells c2 t2);have h2:=zA w1 (.cells c2 t2);generalize w1.alloc (.cells c2 t2)=w2 at b2 s2 h2 ⊢;have b3:=Blk.new w2 t3 c3;have s3:=q3l w2 (.cells c3 t3);have h0:=zA w2 (.cells c3 t3);generalize w2.alloc (.cells c3 t3)=w3 at b3 s3 h0 ⊢;have e1:w1.heap.size=w.heap.size + 1:=s1;have e2:w2.heap.size=w.heap.size + 2:=zo;rw[e1]at b2
 rw[e2]at b3
 exact⟨(b1.keep h2).keep h0,b2.keep h0,b3,(h1.trans (h2.mono h1.size)).trans (h0.mono zo),zo⟩
theorem of_any{g:Nat} {PQ:List (Nat×Nat)} {Ss:List Sg} {Bs:List (List UInt8)} (h:MemX w g B A c PQ Ss Bs) {a n:Int} {wr:Bool} (ha:i64 a) (hn:i64 n) :
  cP 381 #[pp g,ii a,ii n,.bool wr] w λe w'=>e = .returned (.pointer (ptF PQ (fdF Ss Bs a n wr)))/\bW w w':=by
 obtain⟨b1,b2,b3,kb,ks⟩:=z26 w #[ii a] #[ii n] #[.bool wr] 3 3 4;refine inC ?_;go_in;go_upto_region 1 with fail;generalize ((w.alloc (.cells #[ii a] 3)).alloc (.cells #[ii n] 3)).alloc (.cells #[.bool wr] 4)=w3 at b1 b2 b3 kb ks ⊢;go_wp2_with fail;refine(qqz (h.keep kb) (x1:=w.heap.size) (x2:=w.heap.size + 1) (x3:=w.heap.size + 2) ha hn (b1.cell 0) (b2.cell 0) (b3.cell 0)).mono ?_;rintro e w4 ⟨rfl,m,rfl⟩;go_wp2_with fail;go_ret;exact⟨rfl,((fO kb (λ_=>False)).drewN m).below (λ_ _ h=>h) nL⟩
end Me
def Cf.v(x:Cf):Value := .agg (Cf.lw x)
def Pt.short(p:Pt):Prop:=p.regs.l.length<=100/\p.procs.l.length<=100/\p.ports.l.length<=100/\p.sems.l.length<=100/\p.pools.l.length<=100/\p.slates.l.length<=100/\p.acts.l.length<=100
def Cf.short(x:Cf):Prop:=(x.parts.l.length<=100/\x.chans.l.length<=100/\x.modes.l.length<=100/\x.pw.levels.l.length<=100/\x.pw.naps.l.length<=100/\x.shed.down.l.length<=100/\x.shed.up.l.length<=100) /\
 (∀ p ∈ x.parts.l,p.short)/\∀ m ∈ x.modes.l,m.wins.l.length<=100
def qg2(x:Cf) (w:World) (e:Ending) (w':World):Prop:=∃ b,e = .returned (.bool b)/\(b=true->x.short)/\bW w w'
theorem q82{α : Type} {d : α} {p : α->Prop} {l:List α} {k:Nat} (hk:k < l.length) (h:∀ x ∈ l.take k,p x) (h':p (atD d l k)):∀ x ∈ l.take (k + 1),p x:=by
 rw[q4l d l k hk];intro x hx;rcases List.mem_append.1 hx with hx | hx
 .exact h x hx
 .rw[List.mem_singleton.1 hx];exact h'
theorem q0f{x:Cf} (h:bW w w'):qg2 x w (.returned (.bool false)) w':=⟨false,rfl,(λh=>by cases h),h⟩
theorem qpf{x:Cf} (hx:x.ok w) :
  cP 20 #[x.v] w (qg2 x w):=by
 have hb:=(zA w (.cells #[.slice x.parts.A x.parts.l.length x.parts.c,.slice x.chans.A x.chans.l.length x.chans.c,.slice x.modes.A x.modes.l.length x.modes.c,.slice x.pw.levels.A x.pw.levels.l.length x.pw.levels.c,.slice x.pw.naps.A x.pw.naps.l.length x.pw.naps.c,ii x.pw.sw,ii x.pw.idle,ii x.pw.change,ii x.pw.quant,ii x.pw.slow,ii x.pw.ppm,.slice x.shed.down.A x.shed.down.l.length x.shed.down.c,.slice x.shed.up.A x.shed.up.l.length x.shed.up.c] 33))
 have b1:=Blk.new w 33 #[.slice x.parts.A x.parts.l.length x.parts.c,.slice x.chans.A x.chans.l.length x.chans.c,.slice x.modes.A x.modes.l.length x.modes.c,.slice x.pw.levels.A x.pw.levels.l.length x.pw.levels.c,.slice x.pw.naps.A x.pw.naps.l.length x.pw.naps.c,ii x.pw.sw,ii x.pw.idle,ii x.pw.change,ii x.pw.quant,ii x.pw.slow,ii x.pw.ppm,.slice x.shed.down.A x.shed.down.l.length x.shed.down.c,.slice x.shed.up.A x.shed.up.l.length x.shed.up.c];have hn0:=hx.1.1.len;have hn1:=hx.2.1.1.len;have hn2:=hx.2.2.1.1.len;have hn3:=hx.2.2.2.1.1.1.len;have hn4:=hx.2.2.2.1.2.1.1.len;have hn5:=hx.2.2.2.2.1.len;have hn6:=hx.2.2.2.2.2.len;simp only[Cf.v];refine inC ?_;go_in;go_upto_region 1 with fail;generalize w.alloc (.cells #[.slice x.parts.A x.parts.l.length x.parts.c,.slice x.chans.A x.chans.l.length x.chans.c,.slice x.modes.A x.modes.l.length x.modes.c,.slice x.pw.levels.A x.pw.levels.l.length x.pw.levels.c,.slice x.pw.naps.A x.pw.naps.l.length x.pw.naps.c,ii x.pw.sw,ii x.pw.idle,ii x.pw.change,ii x.pw.quant,ii x.pw.slow,ii x.pw.ppm,.slice x.shed.down.A x.shed.down.l.length x.shed.down.c,.slice x.shed.up.A x.shed.up.l.length x.shed.up.c] 33)=w1 at hb b1 ⊢;have c0:w1.cell? ⟨w.heap.size,0,none⟩=some (.slice x.parts.A x.parts.l.length x.parts.c):=b1.cell 0;have c1:w1.cell? ⟨w.heap.size,1,none⟩=some (.slice x.chans.A x.chans.l.length x.chans.c):=b1.cell 1;have c2:w1.cell? ⟨w.heap.size,2,none⟩=some (.slice x.modes.A x.modes.l.length x.modes.c):=b1.cell 2;have c3:w1.cell? ⟨w.heap.size,3,none⟩=some (.slice x.pw.levels.A x.pw.levels.l.length x.pw.levels.c):=b1.cell 3;have c4:w1.cell? ⟨w.heap.size,4,none⟩=some (.slice x.pw.naps.A x.pw.naps.l.length x.pw.naps.c):=b1.cell 4;have hn:w1.cell? ⟨w.heap.size,11,none⟩=some (.slice x.shed.down.A x.shed.down.l.length x.shed.down.c):=b1.cell 11;have hq:w1.cell? ⟨w.heap.size,12,none⟩=some (.slice x.shed.up.A x.shed.up.l.length x.shed.up.c):=b1.cell 12;have hs:=hb.size;by_cases h1:100 < x.parts.l.length
 .have _d:=True.intro;go_wp2_with fail;go_ret;exact q0f hb
 .have _d:=True.intro;by_cases h2:100 < x.chans.l.length
  .have _d:=True.intro;go_wp2_with fail;go_ret;exact q0f hb
  .have _d:=True.intro;by_cases h3:100 < x.modes.l.length
   .have _d:=True.intro;go_wp2_with fail;go_ret;exact q0f hb
   .have _d:=True.intro;by_cases h4:100 < x.pw.levels.l.length
    .have _d:=True.intro;go_wp2_with fail;go_ret;exact q0f hb
    .have _d:=True.intro;by_cases h5:100 < x.pw.naps.l.length
     .have _d:=True.intro;go_wp2_with fail;go_ret;exact q0f hb
     .have _d:=True.intro;by_cases h6:100 < x.shed.down.l.length
      .have _d:=True.intro;go_wp2_with fail;go_ret;exact q0f hb
      .have _d:=True.intro;by_cases h7:100 < x.shed.up.l.length
       .have _d:=True.intro;go_wp2_with fail;go_ret;exact q0f hb
       .have _d:=True.intro;obtain⟨wo,rfl⟩:∃ wo:World,wo=w:=⟨_,rfl⟩
        have H7:Hid (x.parts.l.length<=100/\x.chans.l.length<=100/\x.modes.l.length<=100/\x.pw.levels.l.length<=100/\x.pw.naps.l.length<=100/\x.shed.down.l.length<=100/\x.shed.up.l.length<=100):=⟨zo,zo,zo,zo,zo,zo,zo⟩
        go_wp2_with fail;go_loopw [3] (λi wr=>∃ k:Nat,k<=x.parts.l.length/\i = .int .i64 (k:Int)/\(∀ p ∈ x.parts.l.take k,p.short)/\bW w1 wr) (λi _=>x.parts.l.length - (intOf i).toNat)
        case atStart=>exact⟨0,Nat.zero_le _,rfl,(λp hp=>by simp at hp),bR⟩
        case round =>
         obtain⟨k,hk,rfl,hc,hd⟩:=hrel;have HP:=zhd hc;clear hc;have bw:=b1.keep hd;clear c0 c1 c2 c3 c4 hn hq;have hB:=hb.trans (hd.mono hb.size);have hBs:=hB.size;have hlw:=bw.lt;by_cases ha:k < x.parts.l.length
         .obtain⟨pb,po,hA,hpb,h0⟩:=(q53.keep hx.1 hB).1.at_ Pt0 ha;have h8:=(q53.keep hx.1 hB).2 _ (q0h (d:=Pt0) ha);have c0:wr.cell? ⟨wo.heap.size,0,none⟩=some (.slice x.parts.A x.parts.l.length x.parts.c):=bw.cell 0;rw[hA]at c0
          have HS:=λ(h:(atD Pt0 x.parts.l k).short)=>q82 ha HP.out h;have x0:wr.cell? ⟨pb,po + k * 11,none⟩=some (.slice (atD Pt0 x.parts.l k).regs.A (atD Pt0 x.parts.l k).regs.l.length (atD Pt0 x.parts.l k).regs.c):=h0 0 _ rfl;have x1:wr.cell? ⟨pb,po + k * 11 + 1,none⟩=some (.slice (atD Pt0 x.parts.l k).procs.A (atD Pt0 x.parts.l k).procs.l.length (atD Pt0 x.parts.l k).procs.c):=h0 1 _ rfl;have x2:wr.cell? ⟨pb,po + k * 11 + 2,none⟩=some (.slice (atD Pt0 x.parts.l k).ports.A (atD Pt0 x.parts.l k).ports.l.length (atD Pt0 x.parts.l k).ports.c):=h0 2 _ rfl;have x3:wr.cell? ⟨pb,po + k * 11 + 3,none⟩=some (.slice (atD Pt0 x.parts.l k).sems.A (atD Pt0 x.parts.l k).sems.l.length (atD Pt0 x.parts.l k).sems.c):=h0 3 _ rfl;have x4:wr.cell? ⟨pb,po + k * 11 + 4,none⟩=some (ii (atD Pt0 x.parts.l k).flags):=h0 4 _ rfl;have x5:wr.cell? ⟨pb,po + k * 11 + 5,none⟩=some (.slice (atD Pt0 x.parts.l k).pools.A (atD Pt0 x.parts.l k).pools.l.length (atD Pt0 x.parts.l k).pools.c):=h0 5 _ rfl;have x6:wr.cell? ⟨pb,po + k * 11 + 6,none⟩=some (.slice (atD Pt0 x.parts.l k).slates.A (atD Pt0 x.parts.l k).slates.l.length (atD Pt0 x.parts.l k).slates.c):=h0 6 _ rfl;have x7:wr.cell? ⟨pb,po + k * 11 + 7,none⟩=some (ii (atD Pt0 x.parts.l k).cap):=h0 7 _ rfl;have x8:wr.cell? ⟨pb,po + k * 11 + 8,none⟩=some (ii (atD Pt0 x.parts.l k).bud):=h0 8 _ rfl;have x9:wr.cell? ⟨pb,po + k * 11 + 9,none⟩=some (ii (atD Pt0 x.parts.l k).lad):=h0 9 _ rfl;have hj:wr.cell? ⟨pb,po + k * 11 + 10,none⟩=some (.slice (atD Pt0 x.parts.l k).acts.A (atD Pt0 x.parts.l k).acts.l.length (atD Pt0 x.parts.l k).acts.c):=h0 10 _ rfl;clear h0 hA;generalize atD Pt0 x.parts.l k=p at h8 HS x0 x1 x2 x3 x4 x5 x6 x7 x8 x9 hj ⊢;have hm0:=h8.1.1.len;have hm1:=h8.2.1.1.len;have hm2:=h8.2.2.1.1.len;have hm3:=h8.2.2.2.1.1.len;have hm4:=h8.2.2.2.2.2.1.1.len;have hm5:=h8.2.2.2.2.2.2.1.len;have hm6:=h8.2.2.2.2.2.2.2.2.2.2.len;have HQ:=zhd HS;clear HS;have he:=zA wr (.cells #[.slice p.regs.A p.regs.l.length p.regs.c,.slice p.procs.A p.procs.l.length p.procs.c,.slice p.ports.A p.ports.l.length p.ports.c,.slice p.sems.A p.sems.l.length p.sems.c,ii p.flags,.slice p.pools.A p.pools.l.length p.pools.c,.slice p.slates.A p.slates.l.length p.slates.c,ii p.cap,ii p.bud,ii p.lad,.slice p.acts.A p.acts.l.length p.acts.c] 51);have b6:=Blk.new wr 51 #[.slice p.regs.A p.regs.l.length p.regs.c,.slice p.procs.A p.procs.l.length p.procs.c,.slice p.ports.A p.ports.l.length p.ports.c,.slice p.sems.A p.sems.l.length p.sems.c,ii p.flags,.slice p.pools.A p.pools.l.length p.pools.c,.slice p.slates.A p.slates.l.length p.slates.c,ii p.cap,ii p.bud,ii p.lad,.slice p.acts.A p.acts.l.length p.acts.c];go_upto_region 7 with fail;generalize wr.alloc (.cells #[.slice p.regs.A p.regs.l.length p.regs.c,.slice p.procs.A p.procs.l.length p.procs.c,.slice p.ports.A p.ports.l.length p.ports.c,.slice p.sems.A p.sems.l.length p.sems.c,ii p.flags,.slice p.pools.A p.pools.l.length p.pools.c,.slice p.slates.A p.slates.l.length p.slates.c,ii p.cap,ii p.bud,ii p.lad,.slice p.acts.A p.acts.l.length p.acts.c] 51)=w6 at he b6 ⊢;have h9:=hB.trans (he.mono hB.size);have hf:=hd.trans (he.mono hd.size);clear x0 x1 x2 x3 x4 x5 x6 x7 x8 x9 hj;have y0:w6.cell? ⟨wr.heap.size,0,none⟩=some (.slice p.regs.A p.regs.l.length p.regs.c):=b6.cell 0;have y1:w6.cell? ⟨wr.heap.size,1,none⟩=some (.slice p.procs.A p.procs.l.length p.procs.c):=b6.cell 1;have y2:w6.cell? ⟨wr.heap.size,2,none⟩=some (.slice p.ports.A p.ports.l.length p.ports.c):=b6.cell 2;have y3:w6.cell? ⟨wr.heap.size,3,none⟩=some (.slice p.sems.A p.sems.l.length p.sems.c):=b6.cell 3;have y5:w6.cell? ⟨wr.heap.size,5,none⟩=some (.slice p.pools.A p.pools.l.length p.pools.c):=b6.cell 5;have y6:w6.cell? ⟨wr.heap.size,6,none⟩=some (.slice p.slates.A p.slates.l.length p.slates.c):=b6.cell 6;have y10:w6.cell? ⟨wr.heap.size,10,none⟩=some (.slice p.acts.A p.acts.l.length p.acts.c):=b6.cell 10;by_cases h1:100 < p.regs.l.length
          .have _d:=True.intro;go_wp2_with fail;go_ret;exact q0f h9
          .have _d:=True.intro;by_cases h2:100 < p.procs.l.length
           .have _d:=True.intro;go_wp2_with fail;go_ret;exact q0f h9
           .have _d:=True.intro;by_cases h3:100 < p.ports.l.length
            .have _d:=True.intro;go_wp2_with fail;go_ret;exact q0f h9
            .have _d:=True.intro;by_cases h4:100 < p.sems.l.length
             .have _d:=True.intro;go_wp2_with fail;go_ret;exact q0f h9
             .have _d:=True.intro;by_cases h5:100 < p.pools.l.length
              .have _d:=True.intro;go_wp2_with fail;go_ret;exact q0f h9
              .have _d:=True.intro;by_cases h6:100 < p.slates.l.length
               .have _d:=True.intro;go_wp2_with fail;go_ret;exact q0f h9
               .have _d:=True.intro;by_cases h7:100 < p.acts.l.length
                .have _d:=True.intro;go_wp2_with fail;go_ret;exact q0f h9
                .have _d:=True.intro;have H8:=HQ.out ⟨zo,zo,zo,zo,zo,zo,zo⟩;have H9:=zhd H8;clear H8;go_wp2_with fail;exact⟨⟨k + 1,zo,by go_num,H9.out,hf⟩,by simp[intOf];omega⟩
         .obtain rfl:k=x.parts.l.length:=zo;have hm:Hid (∀ p ∈ x.parts.l,p.short):=by have:=HP.out;rw[List.take_length]at this;exact this
          clear HP;have c0:wr.cell? ⟨wo.heap.size,0,none⟩=some (.slice x.parts.A x.parts.l.length x.parts.c):=bw.cell 0;have c2:wr.cell? ⟨wo.heap.size,2,none⟩=some (.slice x.modes.A x.modes.l.length x.modes.c):=bw.cell 2;obtain⟨w2,rfl⟩:∃ w2:World,w2=wr:=⟨_,rfl⟩
          go_wp2_with fail;go_loopw [5] (λi wr=>∃ k:Nat,k<=x.modes.l.length/\i = .int .i64 (k:Int)/\(∀ m ∈ x.modes.l.take k,m.wins.l.length<=100)/\w2=wr) (λi _=>x.modes.l.length - (intOf i).toNat)
          case atStart=>exact⟨0,Nat.zero_le _,rfl,(λp hp=>by simp at hp),rfl⟩
          case round =>
           obtain⟨k,hk,rfl,hc,rfl⟩:=hrel;have HP:=zhd hc;clear hc;by_cases ha:k < x.modes.l.length
           .obtain⟨mb,mo,hA,hmb,hg⟩:=(qe9.keep hx.2.2.1 hB).1.at_ Md0 ha;have hh:=(qe9.keep hx.2.2.1 hB).2 _ (q0h (d:=Md0) ha);have m1:w2.cell? ⟨mb,mo + k * 2 + 1,none⟩=some (.slice (atD Md0 x.modes.l k).wins.A (atD Md0 x.modes.l k).wins.l.length (atD Md0 x.modes.l k).wins.c):=hg 1 _ rfl;have HS:=λ(h:(atD Md0 x.modes.l k).wins.l.length<=100)=>q82 (p:=λm:Md=>m.wins.l.length<=100) ha HP.out h;have hr:=hh.2.1.len;rw[hA]at c2
            clear hg hA hh;generalize atD Md0 x.modes.l k=m at HS m1 hr;by_cases hw:100 < m.wins.l.length
            .clear HS;go_wp2_with fail;go_ret;exact q0f hB
            .have HQ:=zhd (HS zo);clear HS;go_wp2_with fail;exact⟨⟨k + 1,zo,by go_num,HQ.out,by first | trivial | rfl⟩,by simp[intOf];omega⟩
           .obtain rfl:k=x.modes.l.length:=zo;go_wp2_with fail;go_ret;have hM:=HP.out;rw[List.take_length]at hM
            exact⟨true,rfl,λ_=>⟨H7.out,hm.out,hM⟩,hB⟩
namespace Me
theorem qer(w:World) (g:Nat) (cs:Array Value):Fr (λk=>k=g) w (w.setRow g cs) :=
 ⟨rfl,rfl,rfl,by simp[World.setRow],λk _ hk=>by simp[World.setRow,Array.getElem?_modify,show ¬ g=k from λe=>hk e.symm]⟩
theorem qgx{P:Program} {o:Oper} {a:Act} {K:Act->World->Prop} {Q:Exit->Act->World->Prop} (d s:Operand) (dT sT:TypeId)
  (ho:o.op = .call { callee := .builtin .copy,args:=#[d,s],argTypes:=#[dT,sT] }) (elem:TypeId) (hu:P.underlying dT=some (.slice elem)) (hsz:(P.info? elem).map (·.size)=some 1)
  (g off dLen dCap sLen sCap:Nat) (sp:Option Addr) (hd:a.eval d = .slice (some ⟨g,off,none⟩) dLen dCap) (hs:a.eval s = .slice sp sLen sCap)
  (cur:List Value) (t:TypeId) (hg:Blk w g t cur.toArray) (cs:List Value) (hn:cs.length=Nat.min sLen dLen)
  (hsrc:0 < cs.length->∃ ad,sp=some ad/\∀ j v,cs[j]?=some v->w.cell? (ad.add j)=some v) (hfit:off + cs.length<=cur.length) (h1:∀ v ∈ cs,v.oneCell'=true)
  (h:∀ w',Blk w' g t (splice cur off cs).toArray->Fr (λk=>k=g) w w'->K (a.put o.dst (goInt cs.length)) w'):o.wp P a w K Q:=by
 by_cases h0:cs.length=0
 .obtain rfl:cs = []:=List.eq_nil_of_length_eq_zero h0;have h2:=run_copy_none (P:=P) w dT sT o.type elem (some ⟨g,off,none⟩) sp dLen dCap sLen sCap hu hsz (by simpa using hn.symm);unfold Oper.wp;simp[execOp,ho,resolve,invoke,builtin,hd,hs,h2,Result.andThen];exact h w (by simpa [splice] using hg) (Fr.refl _ w)
 .obtain⟨ad,rfl,h3⟩:=hsrc zo;have h2:=run_copy_row (P:=P) w dT sT o.type elem g off dLen dCap ad sLen sCap cur.toArray t cs hu hsz hg hn h3 (by simpa using hfit) h1;unfold Oper.wp;simp[execOp,ho,resolve,invoke,builtin,hd,hs,h2,Result.andThen];exact h _ (show _=_ by simpa [splice] using setRow_heap w g _ (cur.take off ++ (cs ++ cur.drop (off + cs.length))).toArray t (0,0) hg) (qer w g _)
theorem qd4{P:Program} (w:World) (t e ty:TypeId) (z:Value) (ht:P.underlying t=some (.slice e)) (hv:∀ w,(zeroValue e).run P w = .ok z w) (hz:z.cells = #[z]) (h1:z.oneCell'=true) (b n c:Nat) (hn:0 < n)
  (cur:Array Value) (te:TypeId) (hb:Blk w b te cur) (hsz:cur.size=n) :
  (Builtin.clear_ #[t] ty #[.slice (some ⟨b,0,none⟩) n c]).run P w = .ok (.tuple #[]) (w.setRow b (List.replicate n z).toArray):=by
 have h3:(Builtin.zeroCells z.cells n).toList=List.replicate n z:=by
  rw[hz];simp[Builtin.zeroCells];apply List.ext_getElem
  .simp
  .intro i h1 h2;simp[Nat.mod_one]
 have h0:=run_storeCells_at P b 0 te (List.replicate n z) 0 cur w hb (by simp[hsz]) (by intro v hv';rw[List.eq_of_mem_replicate hv'];exact h1);simp only[Nat.add_zero,Nat.zero_add,List.take_zero,List.nil_append,List.length_replicate]at h0;rw[List.drop_of_length_le (by simp[hsz]),List.append_nil]at h0
 obtain⟨m,rfl⟩:∃ m,n=m + 1:=⟨n - 1,zo⟩
 simp[Builtin.clear_,run_underlying ht,hv,h3,h0]
theorem qbd{P:Program} (w:World) (t e ty:TypeId) (ht:P.underlying t=some (.slice e)) (A:Option Addr) (c:Nat) :
  (Builtin.clear_ #[t] ty #[.slice A 0 c]).run P w = .ok (.tuple #[]) w:=by
 cases A <;> simp[Builtin.clear_,run_underlying ht]
theorem atD_set{α : Type} (d : α) (l:List α) (k i:Nat) (x : α) (hk:k < l.length):atD d (l.set k x) i=if i=k then x else atD d l i:=by
 unfold atD;rw[List.getD_eq_getElem?_getD,List.getD_eq_getElem?_getD,List.getElem?_set];by_cases h:k=i
 .subst h;simp[hk]
 .rw[if_neg h,if_neg (λe=>h e.symm)]
theorem MemX.upd{g:Nat} {PQ:List (Nat×Nat)} {Ss:List Sg} {Bs:List (List UInt8)} (h:MemX w g B A c PQ Ss Bs) {k:Nat} (hk:k < Ss.length) {l:List UInt8} (hl:l.length=(atD [] Bs k).length)
  (hf:Fr (λj=>j=(atD (0,0) PQ k).2) w w') (hb:Blk w' (atD (0,0) PQ k).2 5 (l.map bv).toArray):MemX w' g B A c PQ Ss (Bs.set k l):=by
 obtain⟨h1,h2,h3,h4,h5,h6,h7,h8,h9⟩:=h;obtain⟨q1,q2,q3,q4⟩:=h9 k hk;refine⟨h1.fr hf (λe=>q2 e.symm),SlG.fr h2 hf (λb o _ e hb=>q3 b o e hb.symm),by rw[List.length_set];exact h3,h4,Nat.le_trans h5 hf.size,h6,h7,λi hi=>?_,h9⟩;obtain⟨r1,r2,r3⟩:=h8 i hi;rw[atD_set [] Bs k i l zo];by_cases h0:i=k
 .subst h0;rw[if_pos rfl];refine⟨?_,hb,zo⟩;rw[hl];exact r1.fr hf (λe=>(q4 i hi).1 e.symm)
 .rw[if_neg h0];exact⟨r1.fr hf (λe=>(q4 i hi).1 e.symm),r2.fr hf (λe=>(q4 i hi).2 (λe'=>h0 e'.symm) e.symm),r3⟩
end Me
namespace Me
theorem byte_info:(Tryz.prog.info? 5).map (λi=>(i.zero,i.size,i.bytes))=some (some (.int .u8 0),1,1):=zk
theorem qy9(w:World):(sizeOf (Tryz.prog.elem 38)).run Tryz.prog w = .ok 1 w:=zk
theorem qa7:Tryz.prog.underlying 38=some (.slice (Tryz.prog.elem 38)):=zk
theorem bv_cell(l:List UInt8):∀ u ∈ l.map bv,u.oneCell'=true:=by
 intro u hu;obtain⟨x,_,rfl⟩:=List.mem_map.1 hu;rfl
theorem may_any{g:Nat} {PQ:List (Nat×Nat)} {Ss:List Sg} {Bs:List (List UInt8)} (h:MemX w g B A c PQ Ss Bs) {a n:Int} {wr:Bool} (ha:i64 a) (hn:i64 n) :
  cP 386 #[pp g,ii a,ii n,.bool wr] w λe w'=>e = .returned (.bool (fdF Ss Bs a n wr).isSome)/\bW w w':=by
 refine inC ?_;go_in;go_wp2_with fail;refine(of_any h ha hn).mono ?_;rintro e w2 ⟨rfl,h0⟩;cases hR:fdF Ss Bs a n wr with
 | none =>
  simp only[ptF];go_wp2_with fail;go_ret;exact⟨by rw[hR];rfl,h0⟩
 | some k =>
  simp only[ptF];go_wp2_with fail;go_ret;exact⟨by rw[hR];rfl,h0⟩
def loadR(Ss:List Sg) (Bs:List (List UInt8)) (a n:Int):List UInt8×Bool:=match fdF Ss Bs a n false with
 | none=>([],false)
 | some k=>(((atD [] Bs k).drop (a - (atD sg0 Ss k).ba).toNat).take n.toNat,true)
def storeR(Ss:List Sg) (Bs:List (List UInt8)) (a:Int) (b:List UInt8):List (List UInt8)×Bool:=match fdF Ss Bs a b.length true with
 | none=>(Bs,false)
 | some k=>(Bs.set k (splice (atD [] Bs k) (a - (atD sg0 Ss k).ba).toNat b),true)
theorem qd6{Ss:List Sg} {Bs:List (List UInt8)} {n:Int} {wr:Bool} {k:Nat} (h:fdF Ss Bs a n wr=some k):k < Ss.length/\∃ f m:Nat,a - (atD sg0 Ss k).ba=f/\n=m/\f + m<=(atD [] Bs k).length:=by
 obtain⟨h1,h2⟩:=qtu h;refine⟨h1,?_⟩;unfold ofB at h2;rw[Bool.and_eq_true,qd3]at h2
 obtain⟨⟨r1,r2,r3,r4⟩,_⟩:=h2;unfold lnB at r3 r4;exact⟨(a - (atD sg0 Ss k).ba).toNat,n.toNat,zo,zo,zo⟩
theorem _root_.Go.Proofs.YtncfcbohiodnnaaGreat.SlB.of_whole{g:Nat} {t:TypeId} {l:List UInt8} (h:Blk w g t (l.map bv).toArray) (hl:l.length<=1000000):SlB w (some ⟨g,0,none⟩) l.length l.length l:=SlB.of_blk h l rfl hl
theorem load_any{g:Nat} {PQ:List (Nat×Nat)} {Ss:List Sg} {Bs:List (List UInt8)} (h:MemX w g B A c PQ Ss Bs) {a n:Int} (ha:i64 a) (hn:i64 n) :
  cP 387 #[pp g,ii a,ii n] w λe w'=>∃ v,e = .returned (.tuple #[v,.bool (loadR Ss Bs a n).2])/\w'.ownsRow w.heap.size 5 1 v (loadR Ss Bs a n).1.length ((loadR Ss Bs a n).1.map bv)/\bW w w':=by
 have HL:Hid (loadR Ss Bs a n=match fdF Ss Bs a n false with
  | none=>([],false)
  | some k=>(((atD [] Bs k).drop (a - (atD sg0 Ss k).ba).toNat).take n.toNat,true)):=rfl
 generalize loadR Ss Bs a n=R at HL ⊢;refine inC ?_;go_in;go_wp2_with fail;refine(of_any h ha hn).mono ?_;rintro e w2 ⟨rfl,h0⟩;have h2:=h.keep h0;cases hF:fdF Ss Bs a n false with
 | none =>
  have HR:Hid (R=([],false)):=by unfold Hid;rw[HL.out,hF]
  clear HL hF;simp only[ptF];go_wp2_with fail;go_ret2
  rw[HR.out];exact⟨_,rfl,World.ownsRow_nil _ _ _ _,h0⟩
 | some k =>
  obtain⟨hk,f,m,hf,rfl,h3⟩:=qd6 hF;have HR:Hid (R=(((atD [] Bs k).drop f).take m,true)):=by
   unfold Hid;rw[HL.out,hF];simp only[hf,Int.toNat_natCast]
  clear HL hF;obtain⟨-,-,-,-,-,-,-,h8,-⟩:=h2;obtain⟨r1,r2,r3⟩:=h8 k hk;have h5:=SlB.of_whole r2 zo;simp only[ptF];generalize atD sg0 Ss k=s at hf r1;generalize atD (0,0) PQ k=x at r1 r2 h5 ⊢;generalize atD [] Bs k=l at h3 HR r1 r2 r3 h5;have h4:=λw=>qjp qa7 qy9 w (some ⟨x.2,0,none⟩) l.length l.length f (f + m) zo zo;rw[show((f + m:Nat):Int)=(f:Int) + (m:Int) by omega,show f + m - f=m by omega]at h4
  have h6:=h5.cut (lo:=f) (hi:=f + m) zo zo;rw[show f + m - f=m by omega]at h6
  have c0:=r1.cell 0;have c3:=r1.cell 3;have hw:IntKind.i64.wrap (a - s.ba)=(f:Int):=by rw[hf];exact IntWalk.i64_in _ zo
  go_wp2_with fail;refine(q7g h6 zo).mono ?_;rintro e w3 ⟨v3,rfl,h1,h7⟩;go_wp2_with fail;go_ret2
  rw[HR.out];refine⟨v3,rfl,?_,h0.trans (h7.mono h0.size)⟩;rw[show(((l.drop f).take m,true):List UInt8×Bool).1.length=m by simp;omega];exact qcm h1 h0.size
end Me
end Go.Proofs.YtncfcbohiodnnaaGreat
