/- Parts of this seat's claims. -/
import Derived.BigQuiet
import Derived.Deep.AppendLies
import Derived.Deep.Draws
import Derived.Deep.QuietTactic
import Derived.Laws.IdiomStrings
import Derived.Lib.BufferRead
import Derived.Lib.Hide
import Derived.Maps.AppendAt
import Derived.WalkKit
import Derived.Test.YtncfcbohiodnnaaGreatWA
set_option maxRecDepth 100000
set_option maxHeartbeats 6400000
namespace Go.Proofs.YtncfcbohiodnnaaGreat
open Go.RowKit
variable{w w' W wa wo W':World}{c n pt r B j b m mb q base cap id B0:Nat}{A:Option Addr}{a code what:Int}{cs:Array Value}
structure KnI(B y1 y0 u d q r:Nat):Prop where
 e:u=q*y1+r
 g:(u*B+d) / (y1*B+y0)<=q
theorem qq7{B y1 y0 u d:Nat}(h1:0<y1)(hd:d<B):KnI B y1 y0 u d (u / y1) (u-u / y1*y1):=by have hB:0<B:=by{omega};have hy:0<y1*B+y0:=Nat.add_pos_left (Nat.mul_pos h1 hB) _;refine⟨by have:=Nat.div_mul_le_self u y1;omega,?_⟩;rw[Nat.le_div_iff_mul_le h1];generalize hq:(u*B+d) / (y1*B+y0)=q;have h2:q*(y1*B+y0)<=u*B+d:=by{rw[<- hq];exact Nat.div_mul_le_self _ _};have h3:q*y1*B<=q*(y1*B+y0):=by{rw[Nat.mul_add,Nat.mul_assoc];exact Nat.le_add_right _ _};have h4:q*y1*B<(u+1)*B:=by{rw[Nat.add_mul];omega};exact Nat.le_of_lt_succ (Nat.lt_of_mul_lt_mul_right h4)
theorem qlv{B y1 y0 u d q r:Nat}(H:KnI B y1 y0 u d q r)(hd:d<B)(hu:u<y1*B+y0)(hc:B<=q\/B*r+d<q*y0):0<q/\KnI B y1 y0 u d (q-1) (r+y1):=by have hy:0<y1*B+y0:=by{omega};have hq:0<q:=by{rcases hc with h|h;{omega};{rcases Nat.eq_zero_or_pos q with rfl|h';{omega};{exact h'}}};refine⟨hq,?_,?_⟩;{have:q*y1=(q-1)*y1+y1:=by{obtain⟨n,rfl⟩:∃n,q=n+1:=⟨q-1,by omega⟩;rw[Nat.add_sub_cancel,Nat.add_mul];omega};have:=H.e;omega};{refine Nat.le_sub_one_of_lt ?_;rw[Nat.div_lt_iff_lt_mul hy];rcases hc with h|h;{have h2:(y1*B+y0)*B<=q*(y1*B+y0):=by{rw[Nat.mul_comm q];exact Nat.mul_le_mul_left _ h};have h3:(u+1)*B<=(y1*B+y0)*B:=Nat.mul_le_mul_right _ hu;rw[Nat.add_mul]at h3;omega};{have e:q*(y1*B+y0)=q*y1*B+q*y0:=by{rw[Nat.mul_add,Nat.mul_assoc]};have e2:u*B=q*y1*B+r*B:=by{rw[<- Nat.add_mul,<- H.e]};rw[Nat.mul_comm B r]at h;omega}}
theorem qgc{B y1 y0 u d q r:Nat}(H:KnI B y1 y0 u d q r)(h1:0<y1)(hd:d<B)(hc:q*y0<=B*r+d):q=(u*B+d) / (y1*B+y0):=by have hy:0<y1*B+y0:=Nat.add_pos_left (Nat.mul_pos h1 (by omega)) _;refine Nat.le_antisymm ?_ H.g;rw[Nat.le_div_iff_mul_le hy];have e:q*(y1*B+y0)=q*y1*B+q*y0:=by{rw[Nat.mul_add,Nat.mul_assoc]};have e2:u*B=q*y1*B+r*B:=by{rw[<- Nat.add_mul,<- H.e]};rw[Nat.mul_comm B r]at hc;omega
theorem qto{B y1 y0 u d q r:Nat}(H:KnI B y1 y0 u d q r)(h1:0<y1)(h0:y0<B)(hd:d<B)(hu:u<y1*B+y0)(hc:B<=r):q=(u*B+d) / (y1*B+y0):=by refine qgc H h1 hd ?_;have e:=H.e;have h2:q*y1<B*y1:=by{rw[Nat.mul_comm B];omega};have h3:q<B:=Nat.lt_of_mul_lt_mul_right h2;have h4:q*y0<=B*B:=Nat.mul_le_mul (Nat.le_of_lt h3) (Nat.le_of_lt h0);have h5:B*B<=B*r:=Nat.mul_le_mul_left _ hc;omega
theorem qxl{B y u d e:Nat}(hu:u<y):(u*(B*B)+(d*B+e)) / y=(u*B+d) / y*B+((u*B+d)%y*B+e) / y:=by have hy:0<y:=by{omega};generalize hq:(u*B+d) / y=q;generalize hr:(u*B+d)%y=r;have h1:u*B+d=y*q+r:=by{rw[<- hq,<- hr];exact(Nat.div_add_mod _ _).symm};have h2:u*(B*B)+(d*B+e)=(r*B+e)+y*(q*B):=by{rw[<- Nat.mul_assoc,<- Nat.add_assoc,<- Nat.add_mul,h1,Nat.add_mul,Nat.mul_assoc];omega};rw[h2,Nat.add_mul_div_left _ _ hy,Nat.add_comm]
theorem qtp{B y u d:Nat}(hu:u<y)(hd:d<B):(u*B+d) / y<B:=by rw[Nat.div_lt_iff_lt_mul (by omega)];have h3:(u+1)*B<=y*B:=Nat.mul_le_mul_right _ hu;rw[Nat.add_mul,Nat.one_mul]at h3;rw[Nat.mul_comm B];omega
theorem qq8(n c m:Nat)(hm:0<m):n*m / (c*m)=n / c:=Nat.mul_div_mul_right _ _ hm
attribute [go_sem] Go.run_store
theorem q11(b o j:Nat):(⟨b,o,none⟩:Addr).add j=⟨b,o+j,none⟩:=by unfold Addr.add;split <;> simp_all
structure Fr(S:Nat->Prop)(w w':World):Prop where
 os:w'.os=w.os
 tape:w'.tape=w.tape
 output:w'.output=w.output
 size:w.heap.size<=w'.heap.size
 block:∀k,k<w.heap.size->¬S k->w'.heap[k]?=w.heap[k]?
section
variable{S S':Nat->Prop}{w w' w'':World}
theorem Fr.refl(S:Nat->Prop)(w:World):Fr S w w:=⟨rfl,rfl,rfl,Nat.le_refl _,λ_ _ _=>rfl⟩
theorem Fr.mono(h:Fr S w w')(hs:∀k,k<w.heap.size->S k->S' k):Fr S' w w' :=
 ⟨h.os,h.tape,h.output,h.size,λk hk hn=>h.block k hk λhS=>hn (hs k hk hS)⟩
theorem Fr.trans'(h:Fr S w w')(k:Fr S' w' w'')(hs:∀k,k<w.heap.size->S' k->S k):Fr S w w'' :=
 ⟨k.os.trans h.os,k.tape.trans h.tape,k.output.trans h.output,Nat.le_trans h.size k.size,λi hi hn=>(k.block i (Nat.lt_of_lt_of_le hi h.size) λhS=>hn (hs i hi hS)).trans (h.block i hi hn)⟩
theorem Fr.trans(h:Fr S w w')(k:Fr S w' w''):Fr S w w'':=h.trans' k λ_ _ h=>h
theorem Fr.of_below(h:Below w.heap.size w w')(S:Nat->Prop):Fr S w w':=⟨h.os,h.tape,h.output,h.size,λk hk _=>h.block k hk⟩
theorem fO(h:Below w.heap.size w w')(S:Nat->Prop):Fr S w w':=Fr.of_below h S
theorem Fr.below{B:Nat}(h:Fr S w w')(hs:∀k,k<B->¬S k)(hB:B<=w.heap.size):Below B w w' :=
 ⟨h.os,h.tape,h.output,h.size,λk hk=>h.block k (by omega) (hs k hk)⟩
theorem Fr.drew(h:Fr S w w'):Fr S w w'.drew:=⟨h.os,h.tape,h.output,h.size,h.block⟩
theorem Fr.drewN(h:Fr S w w')(n:Nat):Fr S w (w'.drewN n):=⟨h.os,h.tape,h.output,h.size,h.block⟩
theorem Fr.alloc(h:Fr S w w')(o:Obj):Fr S w (w'.alloc o) :=
 h.trans ⟨rfl,rfl,rfl,by simp,λk hk _=>Below.heap_alloc _ _ _ hk⟩
theorem Fr.setCell(h:Fr S w w'){p:Addr}(hp:p.block<w.heap.size->S p.block)(u:Value):Fr S w (w'.setCell p u) :=
 ⟨h.os,h.tape,h.output,by simpa using h.size,λk hk hn=>(Below.heap_setCell _ _ _ _ (λe=>by subst e;exact hn (hp hk))).trans (h.block k hk hn)⟩
theorem Fr.grown{row:Option Nat}(h:Fr S w w')(hg:w'.grownBy w'' row)(hr:∀k,k<w.heap.size->row=some k->S k):Fr S w w'' :=
 ⟨hg.os.trans h.os,hg.tape.trans h.tape,hg.output.trans h.output,Nat.le_trans h.size hg.size,
  λk hk hn=>(hg.block k (Nat.lt_of_lt_of_le hk h.size) (λe=>hn (hr k hk e.symm))).trans (h.block k hk hn)⟩
theorem Fr.cell(h:Fr S w w'){p:Addr}(hp:p.block<w.heap.size)(hn:¬S p.block):w'.cell? p=w.cell? p:=World.cell?_of_block (w:=w) (h.block p.block hp hn)
end
theorem qcl{W w1:World}(hb:Below W.heap.size W w1):(∀b o,b<W.heap.size->w1.cell? ⟨b,o,none⟩=W.cell? ⟨b,o,none⟩)/\(∀b o,b<W.heap.size->w1.frozen? ⟨b,o,none⟩=W.frozen? ⟨b,o,none⟩) :=
 ⟨λb o h=>hb.cell (p:=⟨b,o,none⟩) h,λb o h=>hb.frozen (p:=⟨b,o,none⟩) h⟩
theorem q19{B:Nat}{a w:World}(h:Below B a w)(n:Nat):Below B a (w.drewN n):=⟨h.os,h.tape,h.output,h.size,h.block⟩
theorem q0a(B:Nat)(w:World)(n:Nat):Below B w (w.drewN n):=⟨rfl,rfl,rfl,Nat.le_refl _,λ_ _=>rfl⟩
def Blk(w:World)(g:Nat)(t:TypeId)(cs:Array Value):Prop:=w.heap[g]?=some (.cells cs t (0,0))
section
variable{w w':World}{g:Nat}{t:TypeId}{cs:Array Value}
theorem Blk.lt(h:Blk w g t cs):g<w.heap.size:=by rcases Nat.lt_or_ge g w.heap.size with hlt|hge;{exact hlt};{unfold Blk at h;rw[Array.getElem?_eq_none hge]at h;cases h}
theorem Blk.cell(h:Blk w g t cs)(i:Nat):w.cell? ⟨g,i,none⟩=cs[i]?:=cell_of_row w g i cs t (0,0) h
theorem Blk.frozen(h:Blk w g t cs)(i:Nat):w.frozen? ⟨g,i,none⟩=false:=by unfold Blk at h;simp[World.frozen?,h]
theorem zA(w:World)(o:Obj):Below w.heap.size w (w.alloc o):=(Below.refl w.heap.size w).alloc (Nat.le_refl _) o
theorem bR{n:Nat}{w:World}:Below n w w:=Below.refl n w
theorem nL{n:Nat}:n<=n:=Nat.le_refl n
theorem Blk.cl(h:Blk w g t cs):(∀i,w.cell? ⟨g,i,none⟩=cs[i]?)/\g<w.heap.size:=⟨h.cell,h.lt⟩
theorem Blk.new(w:World)(t:TypeId)(cs:Array Value):Blk (w.alloc (.cells cs t)) w.heap.size t cs:=heap_alloc_new w _
theorem Blk.drew(h:Blk w g t cs):Blk w.drew g t cs:=h
theorem Blk.drewN(h:Blk w g t cs)(n:Nat):Blk (w.drewN n) g t cs:=h
theorem Blk.alloc(h:Blk w g t cs)(o:Obj):Blk (w.alloc o) g t cs:=(Below.heap_alloc w o g h.lt).trans h
theorem Blk.set_(h:Blk w g t cs)(i:Nat)(u:Value):Blk (w.setCell ⟨g,i,none⟩ u) g t (cs.setIfInBounds i u):=by unfold Blk at h⊢;simp[World.setCell,Array.getElem?_modify,h]
theorem Blk.far(h:Blk w g t cs){p:Addr}(hp:g≠p.block)(u:Value):Blk (w.setCell p u) g t cs:=(Below.heap_setCell w p u g hp).trans h
theorem Blk.below{B:Nat}(h:Blk w g t cs)(hb:Below B w w')(hg:g<B):Blk w' g t cs:=(hb.block g hg).trans h
theorem Blk.keep(h:Blk w g t cs)(hb:Below w.heap.size w w'):Blk w' g t cs:=h.below hb h.lt
theorem Blk.fr{S:Nat->Prop}(h:Blk w g t cs)(hb:Fr S w w')(hg:¬S g):Blk w' g t cs:=(hb.block g h.lt hg).trans h
end
def Sl(w:World)(A:Option Addr)(n c size:Nat)(xs:List Value):Prop :=
 xs.length=n*size/\n<=c/\c<=maxLen/\(A=none->c=0) /\
 (0<n->∃b o,A=some ⟨b,o,none⟩/\b<w.heap.size/\∀j u,xs[j]?=some u->w.cell? ⟨b,o+j,none⟩=some u)
section
variable{w w':World}{A:Option Addr}{n c size:Nat}{xs:List Value}
theorem Sl.nil(w:World)(size:Nat):Sl w none 0 0 size []:=⟨by simp,Nat.le_refl _,by simp[maxLen],λ_=>rfl,λh=>absurd h (by omega)⟩
theorem Sl.keep'(h:Sl w A n c size xs)(hs:w.heap.size<=w'.heap.size)(hk:∀b o,0<n->A=some ⟨b,o,none⟩->b<w.heap.size->∀i,w'.cell? ⟨b,i,none⟩=w.cell? ⟨b,i,none⟩):Sl w' A n c size xs:=by obtain⟨h1,h2,h3,h4,h5⟩:=h;refine⟨h1,h2,h3,h4,λhn=>?_⟩;obtain⟨b,o,e,hb,hc⟩:=h5 hn;exact⟨b,o,e,by omega,λj u hu=>(hk b o hn e hb _).trans (hc j u hu)⟩
theorem Sl.keep(h:Sl w A n c size xs)(hb:Below w.heap.size w w'):Sl w' A n c size xs :=
 h.keep' hb.size λ_ _ _ _ hlt i=>hb.cell (p:=⟨_,i,none⟩) hlt
theorem Sl.fr{S:Nat->Prop}(h:Sl w A n c size xs)(hb:Fr S w w')(hS:∀b o,0<n->A=some ⟨b,o,none⟩->¬S b):Sl w' A n c size xs :=
 h.keep' hb.size λb o hn e hlt i=>hb.cell (p:=⟨b,i,none⟩) hlt (hS b o hn e)
theorem Sl.at_(h:Sl w A n c size xs)(hn:0<n):∃b o,A=some ⟨b,o,none⟩/\b<w.heap.size/\∀j u,xs[j]?=some u->w.cell? ⟨b,o+j,none⟩=some u:=h.2.2.2.2 hn
theorem Sl.len_le(h:Sl w A n c size xs):n<=9223372036854775807:=by have h2:=h.2.1;have h3:=h.2.2.1;simp only[maxLen]at h3;omega
theorem Sl.of_own{base:Nat}{e:TypeId}{v:Value}(h:w.ownsRow base e size v n xs):∃A c,v=.slice A n c/\Sl w A n c size xs/\∀b o,A=some ⟨b,o,none⟩->base<=b:=by obtain⟨hl,h⟩:=h;rcases h with⟨rfl,rfl⟩|⟨g,cap,cur,rfl,hb,hh,hn,hc,hs,ht⟩;{have:xs = []:=List.eq_nil_of_length_eq_zero (by simpa using hl);subst this;exact⟨none,0,rfl,Sl.nil w size,λb o h=>by cases h⟩};{refine⟨some ⟨g,0,none⟩,cap,rfl,⟨hl,hn,hc,(λh=>by cases h),λ_=>⟨g,0,rfl,(Array.getElem?_eq_some_iff.1 hh).1,λj u hu=>?_⟩⟩,λb o h=>by cases h;exact hb⟩;rw[Nat.zero_add,cell_of_row w g j cur e (0,0) hh];rw[<- ht,List.getElem?_take]at hu;split at hu;{simpa using hu};{cases hu}}
end
theorem q5d{S:Nat->Prop}{w w':World}{base:Nat}{e:TypeId}{size n:Nat}{v:Value}{xs:List Value}(h:w.ownsRow base e size v n xs)(hf:Fr S w w')(hS:∀k,base<=k->v.ownBlock=some k->¬S k):w'.ownsRow base e size v n xs:=by refine⟨h.1,?_⟩;rcases h.2 with hn|⟨g,cap,cur,rfl,hb,hgg,rest⟩;{exact .inl hn};{refine .inr ⟨g,cap,cur,rfl,hb,?_,rest⟩;rw[hf.block g (Array.getElem?_eq_some_iff.1 hgg).1 (hS g hb rfl)];exact hgg}
theorem q74{w w':World}{base:Nat}{e:TypeId}{size n:Nat}{v:Value}{xs:List Value}(h:w.ownsRow base e size v n xs)(hf:Below w.heap.size w w'):w'.ownsRow base e size v n xs :=
 q5d (S:=λ_=>False) h (Fr.of_below hf _) (λ_ _ _ h=>h)
theorem qcm{w:World}{base base':Nat}{e:TypeId}{size n:Nat}{v:Value}{xs:List Value}(h:w.ownsRow base e size v n xs)(hb:base'<=base):w.ownsRow base' e size v n xs:=by refine⟨h.1,?_⟩;rcases h.2 with hn|⟨g,cap,cur,rfl,hbg,rest⟩;{exact .inl hn};{exact .inr ⟨g,cap,cur,rfl,by omega,rest⟩}
theorem qe0{w:World}{base:Nat}{e:TypeId}{size n:Nat}{v:Value}{xs:List Value}(h:w.ownsRow base e size v n xs){k:Nat}(hk:k<base):some k≠v.ownBlock :=
 λe=>by have:=(h.lt k e.symm).1;omega
def z7(l:List Int)(k:Nat):Int:=l.getD k 0
theorem q2v{l:List Int}{k:Nat}(h:k<l.length):z7 l k=l[k]:=by simp[z7,List.getD,h]
def i64(x:Int):Prop := -9223372036854775808<=x/\x<=9223372036854775807
theorem aH{p:Prop}(h:p:=by(unfold i64;omega)):p:=h
def zI(w:World)(A:Option Addr)(n c:Nat)(l:List Int):Prop:=Sl w A n c 1 (l.map (Value.int .i64))/\l.length=n/\∀x∈l,i64 x
section
variable{w w':World}{A:Option Addr}{n c:Nat}{l:List Int}
theorem zI.keep(h:zI w A n c l)(hb:Below w.heap.size w w'):zI w' A n c l:=⟨h.1.keep hb,h.2⟩
theorem zI.nil(w:World):zI w none 0 0 []:=⟨Sl.nil w 1,rfl,λx h=>by cases h⟩
theorem zI.at_(h:zI w A n c l){k:Nat}(hk:k<n):∃b o,A=some ⟨b,o,none⟩/\b<w.heap.size/\w.cell? ⟨b,o+k,none⟩=some (.int .i64 (z7 l k)):=by obtain⟨b,o,e,hb,hc⟩:=h.1.at_ (by omega);refine⟨b,o,e,hb,hc k _ ?_⟩;have:k<l.length:=by{have:=h.2.1;omega};simp[q2v this,List.getElem?_eq_getElem this]
theorem zI.rng(h:zI w A n c l)(k:Nat):i64 (z7 l k):=by by_cases hk:k<l.length;{rw[q2v hk];exact h.2.2 _ (List.getElem_mem _)};{have:z7 l k=0:=by{simp[z7,List.getD,Nat.le_of_not_lt hk]};rw[this];unfold i64;omega}
theorem zI.of_blk{g:Nat}{t:TypeId}{cs:Array Value}(h:Blk w g t cs)(l:List Int)(hcs:cs.toList=l.map (Value.int .i64))(hl:l.length<=1000000)(hr:∀x∈l,i64 x):zI w (some ⟨g,0,none⟩) l.length l.length l :=
 ⟨⟨by simp,Nat.le_refl _,by unfold maxLen;omega,(λe=>by cases e),λ_=>⟨g,0,rfl,h.lt,λj u hu=>by rw[Nat.zero_add,h.cell j,<- hu,<- hcs];simp⟩⟩,rfl,hr⟩
theorem zI.ne_(h:zI w A n c l){b:Nat}(hb:w.heap.size<=b)(hn:0<n):∀g o,A=some ⟨g,o,none⟩->g≠b:=by obtain⟨b',o',e,hlt,_⟩:=h.1.at_ hn;intro g o e';rw[e]at e';cases e';omega
theorem zI.len(h:zI w A n c l):n<=9223372036854775807:=h.1.len_le
end
def bv(x:UInt8):Value := .int .u8 (x.toNat:Int)
def xg(l:List UInt8)(k:Nat):UInt8:=l.getD k 0
theorem qxj{l:List UInt8}{k:Nat}(h:k<l.length):xg l k=l[k]:=by simp[xg,List.getD,h]
theorem qq1(x:UInt8):x.toNat<256:=x.toNat_lt
def SlB(w:World)(A:Option Addr)(n c:Nat)(l:List UInt8):Prop:=Sl w A n c 1 (l.map bv)/\l.length=n
section
variable{w w':World}{A:Option Addr}{n c:Nat}{l:List UInt8}
theorem SlB.keep(h:SlB w A n c l)(hb:Below w.heap.size w w'):SlB w' A n c l:=⟨h.1.keep hb,h.2⟩
theorem SlB.fr{S:Nat->Prop}(h:SlB w A n c l)(hb:Fr S w w')(hS:∀b o,0<n->A=some ⟨b,o,none⟩->¬S b):SlB w' A n c l:=⟨h.1.fr hb hS,h.2⟩
theorem SlB.nil(w:World):SlB w none 0 0 []:=⟨Sl.nil w 1,rfl⟩
theorem SlB.at_(h:SlB w A n c l){k:Nat}(hk:k<n):∃b o,A=some ⟨b,o,none⟩/\b<w.heap.size/\w.cell? ⟨b,o+k,none⟩=some (.int .u8 ((xg l k).toNat:Int)):=by obtain⟨b,o,e,hb,hc⟩:=h.1.at_ (by omega);refine⟨b,o,e,hb,hc k _ ?_⟩;have:k<l.length:=by{have:=h.2;omega};simp[qxj this,List.getElem?_eq_getElem this,bv]
theorem SlB.len(h:SlB w A n c l):n<=9223372036854775807:=h.1.len_le
theorem SlB.lt_(h:SlB w A n c l)(hn:0<n){g o:Nat}(e:A=some ⟨g,o,none⟩):g<w.heap.size:=by obtain⟨b',o',e',hlt,_⟩:=h.1.at_ hn;rw[e']at e;cases e;exact hlt
theorem SlB.of_own{base:Nat}{e:TypeId}{v:Value}{n:Nat}{l:List UInt8}(h:w.ownsRow base e 1 v n (l.map bv)):∃A c,v=.slice A n c/\SlB w A n c l/\∀b o,A=some ⟨b,o,none⟩->base<=b:=by obtain⟨A,c,hv,hs,hb⟩:=Sl.of_own h;exact⟨A,c,hv,⟨hs,by have:=hs.1;simpa using this⟩,hb⟩
theorem SlB.of_blk{g:Nat}{t:TypeId}{cs:Array Value}(h:Blk w g t cs)(l:List UInt8)(hcs:cs.toList=l.map bv)(hl:l.length<=1000000):SlB w (some ⟨g,0,none⟩) l.length l.length l :=
 ⟨⟨by simp,Nat.le_refl _,by unfold maxLen;omega,(λe=>by cases e),λ_=>⟨g,0,rfl,h.lt,λj u hu=>by rw[Nat.zero_add,h.cell j,<- hu,<- hcs];simp⟩⟩,rfl⟩
end
theorem q6r{P:Program}{ops:Array Oper}{rest:List Oper}{o:Oper}{a:Act}{Q:Exit->Act->World->Prop}(w:World)(hgd:o.guard=none)(s x:Operand)(t:TypeId)
 (ho:o.op=.call {callee := .builtin .append,args:=#[s,x],argTypes:=#[t,t]})
 (base:Nat)(e:TypeId)(i:TypeInfo)(z:Value)(size bytes:Nat)(ht:P.underlying t=some (.slice e))(hi:P.info? e=some i)(hz:i.zero=some z)
 (hsize:i.size=size)(hby:i.bytes=bytes)(hzs:z.cells.size=size)(hsz:0<size)(hb8:bytes<=1000)
 (v:Value)(n:Nat)(xs:List Value)(hs:a.eval s=v)(hown:w.ownsRow base e size v n xs)(cs:Array Value)(hcs:cs.size=size)(h1:∀u∈cs.toList,u.oneCell'=true)
 (hx:a.eval x=.slice (some ⟨w.heap.size,0,none⟩) 1 1)(hn:n<=100000000000)(hbase:base<=w.heap.size)
 (h:∀v' w',w'.ownsRow base e size v' (n+1) (xs++cs.toList)->Fr (λk=>v.ownBlock=some k) w w'->(v'.ownBlock=v.ownBlock\/∃g,v'.ownBlock=some g/\w.heap.size<=g)->wpList P ops Q rest (a.put o.dst v') w') :
  wpList P ops Q (o::rest) a (w.alloc (.cells cs e)):=by have hbytes:(n+1)*bytes<=140737488355328:=Nat.le_trans (Nat.mul_le_mul (show n+1<=100000000001 by omega) hb8) (by decide);refine wpList_append_own_at (w.alloc (.cells cs e)) hgd s x t ho base e i z size bytes ht hi hz hsize hby hzs hsz v n xs hs (hown.alloc _) ⟨w.heap.size,0,none⟩ 1 1 cs.toList hx (by simpa using hcs) ?_ h1 (by unfold maxLen;omega) hbytes (by simp;omega) ?_;{intro j u hu;have hadd:(⟨w.heap.size,0,none⟩:Addr).add j=⟨w.heap.size,j,none⟩:=by{rw[q11,Nat.zero_add]};rw[hadd,cell_of_row _ _ j cs e (0,0) (heap_alloc_new w _)];simpa using hu};{intro v' w' h2 h3 _ h5;refine h v' w' h2 ?_ ?_;{exact((Fr.refl _ w).alloc _).grown h3 (λk _ hk=>hk)};{rcases h5 with h5|h5;{exact .inl h5};{exact .inr ⟨_,h5,by simp⟩}}}
theorem quh{S:Nat->Prop}{w w':World}{base:Nat}{e:TypeId}{size n:Nat}{v:Value}{xs:List Value}(h:w.ownsRow base e size v n xs)(hf:Fr S w w')(hS:∀k,S k->k<base):w'.ownsRow base e size v n xs :=
 q5d h hf (λk hk _ hS'=>by have:=hS k hS';omega)
theorem qbn{P:Program}{o:Oper}{a:Act}{K:Act->World->Prop}{Q:Exit->Act->World->Prop}(w:World)(s x:Operand)(t:TypeId)
 (ho:o.op=.call {callee := .builtin .append,args:=#[s,x],argTypes:=#[t,t]})
 (base:Nat)(e:TypeId)(i:TypeInfo)(z:Value)(size bytes:Nat)(ht:P.underlying t=some (.slice e))(hi:P.info? e=some i)(hz:i.zero=some z)
 (hsize:i.size=size)(hby:i.bytes=bytes)(hzs:z.cells.size=size)(hsz:0<size)(hb8:bytes<=1000)
 (v:Value)(n:Nat)(xs:List Value)(hs:a.eval s=v)(hown:w.ownsRow base e size v n xs)(h:Nat)(cs:Array Value)(hcs:cs.size=size)(h1:∀u∈cs.toList,u.oneCell'=true)
 (hblk:Blk w h e cs)(hx:a.eval x=.slice (some ⟨h,0,none⟩) 1 1)(hn:n<=100000000000)(hbase:base<=w.heap.size)
 (H:∀g cap w',w'.ownsRow base e size (.slice (some ⟨g,0,none⟩) (n+1) cap) (n+1) (xs++cs.toList)->Fr (λk=>v.ownBlock=some k) w w'->(v.ownBlock=some g\/g=w.heap.size)->K (a.put o.dst (.slice (some ⟨g,0,none⟩) (n+1) cap)) w') :
  o.wp P a w K Q:=by have hbytes:(n+1)*bytes<=140737488355328:=Nat.le_trans (Nat.mul_le_mul (show n+1<=100000000001 by omega) hb8) (by decide);refine wp_append_lies w s x t ho base e i z size bytes ht hi hz hsize hby hzs hsz v n xs hs hown ⟨h,0,none⟩ 1 1 cs.toList hx (by simpa using hcs) ?_ h1 (by decide) (by unfold maxLen;omega) hbytes hbase _ rfl ?_;{intro j u hu;rw[q11,Nat.zero_add,hblk.cell j];simpa using hu};{intro g cap w' h2 h3 h4 _;exact H g cap w' h2 ((Fr.refl _ w).grown h3 (λk _ hk=>hk)) h4}
def setRow(w:World)(g:Nat):Nat->List Value->World
 |_,[]=>w
 |i,v::vs=>setRow (w.setCell ⟨g,i,none⟩ v) g (i+1) vs
section
variable{w w0:World}{g:Nat}{t:TypeId}
theorem Blk.rowFrom:∀(vs:List Value) (i:Nat) (w:World) (cs:Array Value),Blk w g t cs->i+vs.length<=cs.size->Blk (setRow w g i vs) g t (cs.toList.take i++vs++cs.toList.drop (i+vs.length)).toArray
 |[],i,w,cs,h,hl=>by simpa[setRow] using h
 |v::vs,i,w,cs,h,hl=>by rw[Zj]at hl;have:=Blk.rowFrom vs (i+1) _ _ (h.set_ i v) aO;have hi:i<cs.toList.length:=aO;unfold setRow;refine cast ?_ this;congr 2;rw[Array.toList_setIfInBounds,List.drop_set_of_lt zo,List.take_set,Zm hi,List.set_append_right _ _ (by rw[Zq];omega),Zj];rw[Zq,QF zo,Nat.sub_self];simp[Qh,QV 1]
theorem Blk.row{vs:List Value}(h:Blk w g t cs)(hl:cs.size=vs.length):Blk (setRow w g 0 vs) g t vs.toArray:=by have:=Blk.rowFrom vs 0 w cs h zo;rw[List.take_zero,Q6,Zp,Xr aO,ZG]at this;exact this
theorem Below.row:∀(vs:List Value) (i:Nat) {w:World},Below B w0 w->B<=g->Below B w0 (setRow w g i vs)
 |[],_,_,h,_=>h
 |_::vs,i,_,h,hg=>Below.row vs (i+1) (h.setCell (p:=⟨g,i,none⟩) hg _) hg
theorem Fr.row{S:Nat->Prop}:∀(vs:List Value) (i:Nat) {w:World},Fr S w0 w->(g<w0.heap.size->S g)->Fr S w0 (setRow w g i vs)
 |[],_,_,h,_=>h
 |_::vs,i,_,h,hg=>Fr.row vs (i+1) (h.setCell (p:=⟨g,i,none⟩) hg _) hg
end
def qb4(P:Program)(o:Oper)(a:Act)(K:Act->World->Prop):Result Next->Prop
 | .ok (.value v) w'=>K (a.put o.dst v) w'
 | .ok .skip w'=>K (a.put o.dst undef) w'
 | .ok (.enter f args) w'=>Calls P f args w' λe w''=>∃v,e=.returned v/\K (a.put o.dst v) w''
 | .ok (.row row args) w'=>Rows P row args w' λv w''=>K (a.put o.dst v) w''
 |_=>False
def qO(P:Program)(o:Oper)(a:Act)(w:World)(K:Act->World->Prop):Prop:=qb4 P o a K ((execOp a.eval o).run P w)
section
variable{P:Program}{ops:Array Oper}{md:Region.Mode}{C:World->Prop}
theorem q4x{o:Oper}{a:Act}{w:World}{K U:Act->World->Prop}(h:∀u w',K (a.put o.dst u) w'->U (a.put o.dst u) w')(hh:qO P o a w K):qO P o a w U:=by unfold qO at*;generalize(execOp a.eval o).run P w=r at*;cases r with|ok n w'=>{cases n <;> simp only[qb4]at hh⊢;(case value v=>exact h _ _ hh);(case skip=>exact h _ _ hh);(case enter f args=>exact hh.mono λe w'' ⟨v,he,hk⟩=>⟨v,he,h _ _ hk⟩);case row row args=>exact hh.mono λv w'' hk=>h _ _ hk}|halt x w'=>simp only[qb4]at hh
theorem qq2{o:Oper}{a:Act}{w:World}{K:Act->World->Prop}(hh:qO P o a w K):∃u w',K (a.put o.dst u) w':=by unfold qO at*;generalize(execOp a.eval o).run P w=r at*;cases r with|ok n w'=>{cases n <;> simp only[qb4]at hh;(case value v=>exact⟨_,_,hh⟩);(case skip=>exact⟨_,_,hh⟩);(case enter f args=>obtain⟨_,w'',_,⟨v,_,hk⟩,_⟩:=hh [];exact⟨v,w'',hk⟩);case row row args=>obtain⟨v,w'',hk,_⟩:=hh default [];exact⟨v,w'',hk⟩}|halt x w'=>simp only[qb4]at hh
theorem qlj{o:Oper}{a b:Act}{w:World}{K U:Act->World->Prop}(he:execOp b.eval o=execOp a.eval o)(h:∀u w',K (a.put o.dst u) w'->U (b.put o.dst u) w')(hh:qO P o a w K):qO P o b w U:=by unfold qO at*;rw[he];generalize(execOp a.eval o).run P w=r at*;cases r with|ok n w'=>{cases n <;> simp only[qb4]at hh⊢;(case value v=>exact h _ _ hh);(case skip=>exact h _ _ hh);(case enter f args=>exact hh.mono λe w'' ⟨v,he,hk⟩=>⟨v,he,h _ _ hk⟩);case row row args=>exact hh.mono λv w'' hk=>h _ _ hk}|halt x w'=>simp only[qb4]at hh
theorem qlk{o:Oper}{a:Act}{w:World}{K:Act->World->Prop}{Q:Exit->Act->World->Prop}(hh:qO P o a w K):o.wp P a w K Q:=by unfold qO at hh;unfold Oper.wp;generalize(execOp a.eval o).run P w=r at*;cases r with|ok n w'=>{cases n <;> simp only[qb4]at hh <;> simp only[Oper.upon];(case value v=>exact hh);(case skip=>exact hh);(case enter f args=>exact hh.mono λe w'' ⟨v,he,hk⟩=>by subst he;exact hk);case row row args=>exact hh}|halt x w'=>simp only[qb4]at hh
theorem q75{o:Oper}{a:Act}{w:World}{K:Act->World->Prop}(hh:o.wp P a w (λa' w'=>a'.defers=a.defers/\K a' w') (λ_ _ _=>False)):qO P o a w K:=by unfold qO;unfold Oper.wp at hh;generalize(execOp a.eval o).run P w=r at*;cases r with|ok n w'=>{cases n <;> simp only[qb4] <;> simp only[Oper.upon]at hh;(case value v=>exact hh.2);(case skip=>exact hh.2);(case enter f args=>exact hh.mono λe w'' hk=>by{cases e with|returned v=>{exact⟨v,rfl,hk.2⟩}|panicked c=>{exact hk.elim}|outgrown=>{obtain⟨_,_,hk⟩:=hk;exact hk.elim}});(case row row args=>exact hh.mono λv w'' hk=>hk.2);case defer d=>have:=hh.1;cases hd:o.dst <;> simp[Act.put,hd]at this}|halt x w'=>{cases x <;> simp only[Oper.upon]at hh}
def q66(P:Program)(ops:Array Oper)(i:Nat)(K:Act->World->Prop)(a:Act)(w:World):Prop :=
 match ops[i]? with
 |none=>K a w
 |some o=>if Region.wanted o (yielded ops a.tmps) then qO P o a w K else K (a.put o.dst undef) w
theorem q1v{i:Nat}{a:Act}{w:World}{K U:Act->World->Prop}(h:∀a w,K a w->U a w)(hh:q66 P ops i K a w):q66 P ops i U a w:=by unfold q66 at*;split;{exact h _ _ (by simpa[*] using hh)};{rename_i o ho;simp only[ho]at hh;split;{rename_i hw;simp only[hw,if_true]at hh;exact q4x (λ_ _ hk=>h _ _ hk) hh};{rename_i hw;simp only[hw]at hh;exact h _ _ hh}}
theorem q4i{i:Nat}{o:Oper}{a:Act}{w:World}{K:Act->World->Prop}(hi:ops[i]?=some o)(hh:q66 P ops i K a w):∃u w',K (a.put o.dst u) w':=by unfold q66 at hh;simp only[hi]at hh;split at hh;{exact qq2 hh};{exact⟨_,_,hh⟩}
theorem q3j{i:Nat}{o:Oper}{a b:Act}{w:World}{K U:Act->World->Prop}(hi:ops[i]?=some o)(he:execOp b.eval o=execOp a.eval o)
 (hw:Region.wanted o (yielded ops b.tmps)=Region.wanted o (yielded ops a.tmps))(h:∀u w',K (a.put o.dst u) w'->U (b.put o.dst u) w')(hh:q66 P ops i K a w):q66 P ops i U b w:=by unfold q66 at*;simp only[hi,hw]at *;split;{rename_i h1;rw[if_pos h1]at hh;exact qlj he h hh};{rename_i h1;rw[if_neg h1]at hh;exact h _ _ hh}
theorem q8m{i:Nat}{a:Act}{w:World}{K:Act->World->Prop}{Q:Exit->Act->World->Prop}(hh:q66 P ops i K a w):wpOp P ops Q i K a w:=by unfold q66 at hh;unfold wpOp;split;{rename_i ho;simpa only [ho] using hh};{rename_i o ho;simp only[ho]at hh;split;{rename_i hw;simp only[hw,if_true]at hh;exact .inl (qlk hh)};{rename_i hw;rw[if_neg hw]at hh;exact hh}}
theorem q4y{s:Sem Value}{w w':World}{f:FuncId}{args:Array Value}(h:(do let x <- s;pure (Next.value x):Sem Next).run P w=.ok (.enter f args) w'):False:=by rw[Sem.run_bind]at h;cases hs:s.run P w with|ok x w1=>{rw[hs]at h;simp at h}|halt x w1=>{rw[hs]at h;simp at h}
def z01(o:Oper):Bool :=
 match o.op with
 | .call {callee := .builtin .len,.. } | .call {callee := .builtin .cap,.. } | .call {callee := .builtin .min,.. } | .call {callee := .builtin .max,.. }=>true
 | .move _ | .assign _ | .pick .. | .load .. | .nilCheck _ | .binOp .. | .unOp .. | .convert .. | .fieldAddr .. | .field .. | .indexAddr .. | .index .. | .extract .. | .slice .. | .makeFunc .. => true
 |_=>false
theorem qe1{o:Oper}{ρ:Operand->Value}{w w':World}{f:FuncId}{args:Array Value}(hc:z01 o=true)(h:(execOp ρ o).run P w=.ok (.enter f args) w'):False:=by unfold z01 at hc;cases hop:o.op <;> simp only[hop,Bool.false_eq_true]at hc <;> simp only[execOp,hop]at h;(case move x=>simp at h);(case assign x=>simp at h);(case pick c x y=>rw[Sem.run_bind]at h;cases hs:(asBool (ρ c)).run P w with|ok x w1=>{rw[hs]at h;simp at h}|halt x w1=>{rw[hs]at h;simp at h});(case nilCheck x=>split at h;(all_goals first|(simp at h;done)|(simp[runtimePanic]at h;done)|skip);(all_goals(try split at h));(all_goals first|(simp at h;done)|(simp[runtimePanic]at h;done)|skip);rename_i t0 w0 _;rw[Sem.run_bind]at h;cases hp:(program).run P w with|halt y w1=>{rw[hp]at h;simp at h}|ok y w1=>{rw[hp]at h;simp only[Result.andThen_ok]at h;rw[Sem.run_bind]at h;cases hs:(nilAhead (y.types.size+Made.depth) t0 w0 _).run P w1 with|halt y w2=>{rw[hs]at h;simp at h}|ok y w2=>{rw[hs]at h;simp only[Result.andThen_ok]at h;split at h;{rw[Sem.run_bind]at h;simp[unsupported]at h};{simp at h}}});(case call c=>obtain⟨callee,args',ats⟩:=c;cases callee with|builtin b=>{simp only[resolve,Sem.run_bind,Sem.run_pure,Result.andThen_ok,invoke,builtin]at h;cases b <;> simp only[Bool.false_eq_true]at hc <;> exact q4y h}|value f=>{simp at hc}|invoke r n=>simp at hc);all_goals exact q4y h
def q24(md:Region.Mode)(k:Nat):List Oper->Nat->Array Bool->Array Bool
 |[],_,acc=>acc
 |o::r,i,acc=>q24 md k r (i+1) (acc.push (i==k||o.after.any λe=>Region.binds md e&&acc.getD e.on false))
def qco(md:Region.Mode)(ops:Array Oper)(k:Nat)(acc:Array Bool):Prop :=
 ∀j,acc.getD j false=true->j=k\/∃o,ops[j]?=some o/\∃e∈o.after,Region.binds md e=true/\e.on<j/\acc.getD e.on false=true
theorem qe2(k:Nat):∀(l:List Oper) (i:Nat) (acc:Array Bool),acc.size=i->(∀j,l[j]?=ops[i+j]?)->qco md ops k acc->qco md ops k (q24 md k l i acc)
 |[],_,_,_,_,h=>h
 |o::r,i,acc,hs,hl,h=>by refine qe2 k r (i+1) _ (by simp[hs]) (λj=>by have:=hl (j+1);simpa[Nat.add_assoc,Nat.add_comm 1 j] using this) ?_;have old:∀j,j<i->∀x,(acc.push x).getD j false=acc.getD j false:=λj hj x=>by{simp[Array.getElem?_push,hs,show j≠i by omega]};have lt:∀j,acc.getD j false=true->j<i:=λj hj=>by{rcases Nat.lt_or_ge j acc.size with h'|h';{omega};{simp[Array.getElem?_eq_none h']at hj}};intro j hj;rcases Nat.lt_trichotomy j i with hlt|rfl|hgt;{rw[old j hlt]at hj;rcases h j hj with h1|⟨o',ho,e,he,hb,hlt',hr⟩;{exact .inl h1};{exact .inr ⟨o',ho,e,he,hb,hlt',by rw[old _ (by omega)];exact hr⟩}};{have e1:∀x,(acc.push x).getD acc.size false=x:=λx=>by{simp};rw[<- hs,e1,Bool.or_eq_true,beq_iff_eq,Array.any_eq_true']at hj;rw[<- hs];rcases hj with hj|⟨e,he,hbr⟩;{exact .inl hj};{rw[Bool.and_eq_true]at hbr;obtain⟨hb,hr'⟩:=hbr;have:=lt _ hr';exact .inr ⟨o,by rw[hs];simpa using (hl 0).symm,e,he,hb,by omega,by rw[old _ this];exact hr'⟩}};{have e2:∀x,(acc.push x).getD j false=false:=λx=>by{have:(acc.push x)[j]?=none:=Array.getElem?_eq_none (by simp;omega);simp[this]};rw[e2]at hj;cases hj}
theorem qcp(k:Nat):qco md ops k (q24 md k ops.toList 0 #[]) :=
 qe2 k ops.toList 0 #[] rfl (by simp) (λj hj=>by simp at hj)
def q2f(md:Region.Mode)(ops:Array Oper)(listed:Array Bool):Prop :=
 ∀j o,ops[j]?=some o->listed.getD j false=true->∀e∈o.after,Region.binds md e=true->listed.getD e.on false=true
theorem q76{listed:Array Bool}{j:Nat}(h:listed.getD j false=true):listed.getD j true=true:=by rcases Nat.lt_or_ge j listed.size with h'|h';{simp[h']at h⊢;exact h};{simp[Array.getElem?_eq_none h']at h}
theorem q2f.step{listed:Array Bool}{i:Nat}(h:q2f md ops listed)(hi:i∈Region.ready md ops listed):q2f md ops (listed.setIfInBounds i true):=by intro j o ho hj e he hb;by_cases hji:j=i;{subst hji;obtain⟨_,o',ho',hall⟩:=mem_ready.1 hi;rw[ho]at ho';cases ho';exact getD_set_true (hall e he hb)};{rw[getD_set_ne false (Ne.symm hji)]at hj;exact getD_set_true (h j o ho hj e he hb)}
theorem q5l{acc listed:Array Bool}{k:Nat}(hr:qco md ops k acc)(hc:q2f md ops listed):∀n j,j<n->acc.getD j false=true->j≠k ->
  (∀o,ops[j]?=some o->∀e∈o.after,Region.binds md e=true->listed.getD e.on false=true)->listed.getD k false=true:=by intro n;induction n with|zero=>{intro j hj;omega}|succ n ih=>{intro j hj hacc hne hall;rcases hr j hacc with h|⟨o,ho,e,he,hb,hlt,hacc'⟩;{exact absurd h hne};{have hl:=hall o ho e he hb;by_cases hk:e.on=k;{rw[<- hk];exact hl};{exact ih e.on (by omega) hacc' hk (λo' ho' e' he' hb'=>hc e.on o' ho' hl e' he' hb')}}}
theorem qj8{i:Nat}{listed:Array Bool}{oj:Oper}(hr:i∈Region.ready md ops listed)(hall:∀e∈oj.after,Region.binds md e=true->listed.getD e.on false=true):∀e∈oj.after,Region.binds md e=true->e.on≠i :=
 λe he hb heq=>by
  have h1:=hall e he hb;have h0:=(mem_ready.1 hr).1;rw[heq]at h1;rw[q76 h1]at h0;cases h0
theorem q4j{i j:Nat}{oi:Oper}{listed:Array Bool}(hjun:listed.getD j true=false)
 (hfree:∀k ok,ops[k]?=some ok->k≠i->listed.getD k true=false->(∀e∈ok.after,Region.binds md e=true->e.on≠i)->oi.apart ops ok=true) :
  ∀k ok,ops[k]?=some ok->k≠i->(listed.setIfInBounds j true).getD k true=false->(∀e∈ok.after,Region.binds md e=true->e.on≠i)->oi.apart ops ok=true:=λk ok hk hki hun hno=>by
 refine hfree k ok hk hki ?_ hno;by_cases hjk:j=k
 .subst hjk;exact hjun
 .rw[getD_set_ne true hjk]at hun;exact hun
def q9o(md:Region.Mode)(ops:Array Oper)(mv:Nat->Bool):Nat->Nat->Array Bool->Bool
 |0,_,listed=>(Region.ready md ops listed).isEmpty
 |fuel+1,k,listed=>(Region.ready md ops listed).contains k&&Region.free md ops listed k &&
   (!mv k||(List.range ops.size).all λj=>!(decide (k<j)&&mv j)||(q24 md k ops.toList 0 #[]).getD j false)&&q9o md ops mv fuel (k+1) (listed.setIfInBounds k true)
def q4w:List Nat->Nat->Bool
 |[],_=>false
 |n::ns,k=>k==n||(decide (n<k)&&q4w ns (k-(n+1)))
theorem q1i{Q Q':Act->Prop}(h:∀a,Q a->Q' a):∀(l:List Oper) (a:Act),wpQuiet P ops C Q l a->wpQuiet P ops C Q' l a
 |[],_,hh=>h _ hh
 |o::r,a,hh=>by unfold wpQuiet at*;split;{rename_i hw;rw[if_pos hw]at hh;exact Oper.quiet_mono (λa'=>q1i h r a') hh};{rename_i hw;rw[if_neg hw]at hh;exact q1i h r _ hh}
end
def q38(S:Nat->Prop)[DecidablePred S](w x:World):World :=
 {heap:=Array.ofFn (n:=max w.heap.size x.heap.size) λi=>if h:i.1<w.heap.size/\¬S i.1 then w.heap[i.1]'h.1 else x.heap.getD i.1 default
  tape:=w.tape,drawn:=x.drawn,os:=w.os,output:=w.output}
section
variable{S:Nat->Prop}[DecidablePred S]{w x:World}
theorem q96(S:Nat->Prop)[DecidablePred S](w x:World):Fr S w (q38 S w x) :=
 ⟨rfl,rfl,rfl,by simp[q38];omega,λk hk hs=>by
  have hm:k<max w.heap.size x.heap.size:=by omega
  simp[q38,hm,hk,hs]⟩
theorem q01{w':World}(h:Fr S w w'):∃x,w'=q38 S w x:=by refine⟨w',?_⟩;cases w' with|mk heap tape drawn os output=>{have h1:=h.os;have h2:=h.tape;have h3:=h.output;have h4:=h.size;simp only at h1 h2 h3 h4;subst h1 h2 h3;simp only[q38,World.mk.injEq,and_true];have hmx:max w.heap.size heap.size=heap.size:=by{omega};apply Array.ext;{simp;omega};{intro i hi1 hi2;simp only[Array.getElem_ofFn];split;{rename_i hc;have:=h.block i hc.1 hc.2;simp only at this;rw[Array.getElem?_eq_getElem hi1,Array.getElem?_eq_getElem hc.1]at this;exact Option.some.inj this};{simp}}}
@[go_sem] theorem qwy{b o:Nat}{s:Option Nat}(hb:b<w.heap.size)(hs:¬S b):(q38 S w x).cell? ⟨b,o,s⟩=w.cell? ⟨b,o,s⟩:=(q96 S w x).cell (p:=⟨b,o,s⟩) hb hs
end
end Go.Proofs.YtncfcbohiodnnaaGreat
