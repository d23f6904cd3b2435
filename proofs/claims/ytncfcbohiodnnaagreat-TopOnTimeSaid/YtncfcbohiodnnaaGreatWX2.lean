/- Parts of this seat's claims. -/
import Derived.Test.YtncfcbohiodnnaaGreatWX1
set_option maxRecDepth 100000
set_option maxHeartbeats 6400000
namespace Go.Proofs.YtncfcbohiodnnaaGreat
open Go.RowKit
variable{w w' W wa wo W':World}{c n pt r B j b m mb q base cap id B0:Nat}{A:Option Addr}{a code what:Int}{cs:Array Value}
def q22(p:Rw->Bool)(l:List Rw):Nat->Int
 |0=>-1
 |k+1=>if p (z6 zh l k)&&(decide (q22 p l k<0)||qej (z6 zh l k) (z6 zh l (q22 p l k).toNat)) then(k:Int) else q22 p l k
theorem q69(p:Rw->Bool)(l:List Rw):∀k,q22 p l k<k
 |0=>by simp[q22]
 |k+1=>by unfold q22;have:=q69 p l k;split <;> omega
theorem qxy{t:Nat}{l:List Rw}{tn:Int}(H:TbR w t mb l tn){k:Nat}(hk:k<l.length)(y:World):(Instr.lookup 303 (.map (some mb)) (ii k) false).run Tryz.prog (q38 (λ_=>False) w y)=.ok (z6 zh l k).v (q38 (λ_=>False) w y) :=
 qa0 (H.km.fr (q96 _ w y) id) (by have:=H.n;omega) hk false
def q6o(call what:Int)(x:Rw):Bool:=x.state==2&&x.call==call&&x.what==what
theorem qjo{g1 g2:Nat}{call:Int}{x:Rw}(h1:w.cell? ⟨g1,0,none⟩=some (ii call))(h2:w.cell? ⟨g2,0,none⟩=some (ii what))(l1:g1<w.heap.size)(l2:g2<w.heap.size):cR 329 #[.agg #[ii x.c.prio,ii x.c.per,ii x.c.cost,ii x.call,ii x.what,ii x.wake,ii x.state,ii x.prio,ii x.turn,ii x.next,.bool x.park],pp g1,pp g2] w (.bool (q6o call what x)):=by unfold q6o;have n1:g1≠w.heap.size:=zo;have n2:g2≠w.heap.size:=zo;cases hx:(x.state==2) <;> cases hy:(x.call==call);all_goals(refine zi ?_;go_wp2_with fail;all_goals(go_returns;refine⟨q5k zp,zv⟩))
def qqp(w:World)(t:Nat)(l:List Rw)(K:FuncId)(cp:Array Value)(ar:Rw->Array Value):Prop :=
 ∀ {p:Rw->Bool},(∀w' x,bW w w'->cP K (ar x) w' λe w''=>e=.returned (.bool (p x))/\bW w' w'') ->
  cP 328 #[pp t,.func (.func K) #[] cp] w λe w'=>e=.returned (ii (q22 p l l.length))/\bW w w'
section
variable{w:World}{t mb:Nat}{l:List Rw}{tn:Int}
theorem qxz(H:TbR w t mb l tn){K:FuncId}{cp:Array Value}{ar:Rw->Array Value}(s:TbR w t mb l tn->qqp w t l K cp ar:=by
   intro H p hp;(try dsimp only at hp);have hl8:=H.n;have hL:=q7f H;obtain⟨wo,rfl⟩:=aU w;refine zi ?_;go_wp2_with(first|(go_fit hL;rintro _ _⟨rfl,rfl⟩));go_loopw[5,10] (λv i wr=>∃k:Nat,i=.int .i64 k/\k<=l.length/\v=.int .i64 (q22 p l k)/\bW wo wr) (λ_ i _=>l.length-(intOf i).toNat)
   case atStart=>exact⟨0,rfl,Za _,rfl,bR⟩
   case round=>
    clear hL;obtain⟨k,rfl,hkn,rfl,hB⟩:=hrel;by_cases hk:k<l.length
    .have h':=H.keep hB;have hw1:wrap64 ((k:Int)+1)=((k+1:Nat):Int):=by unfold wrap64;omega
     obtain⟨tc,lt⟩:=h'.kt.cl;have h4:=qxy h' hk;have h1:=λj (hj:j<l.length)=>qxy h' hj;have hs:q22 p l (k+1)=_:=rfl;have hlt:=q69 p l k
     conv at hs=>rhs;unfold q22
     have HS:=zhd hs;clear hs;have hP:=λw' x hb=>hp w' x (bt hB hb);generalize q22 p l k=b at*;generalize z6 zh l k=x at*;simp only[Rw.v]at h4;go_wp2_with fail;cases hpx:p x with
     |false=>
      have h0:Hid (q22 p l (k+1)=b):=HS.out.trans (by rw[hpx];rfl);clear HS h1;refine zW [(7,0),(17,0)] λU V=>?_;go_wp2_with fail;go_fit (up (W:=wr) (hP _ x bR.drew) bR.drew);rintro _ w2⟨rfl,hb,hs,hc,hf,hl,h2⟩;rw[hpx];refine zG (fO hb _) ?_;clear V U;refine wpQuiet_nil (q48 rfl ?_);simp only[Act.put,ZA,ZR,ZW,q25]
      refine aG ?_
      refine wpQuiet_nil ?_;go_wp2;exact⟨⟨k+1,by go_num,hk,by rw[h0.out],bt hB hb⟩,by simp[intOf];omega⟩
     |true=>
      by_cases q:b<0
      .have h0:Hid (q22 p l (k+1)=k):=HS.out.trans (by rw[hpx];simp[q]);have b1:decide (b<0)=true:=Z5 q;clear HS h1;refine zW [(7,0),(17,0)] λU V=>?_;go_wp2_with fail;go_fit (up (W:=wr) (hP _ x bR.drew) bR.drew);rintro _ w2⟨rfl,hb,hs,hc,hf,hl,h2⟩;rw[hpx];refine zG (fO hb _) ?_;clear V U;refine wpQuiet_nil (q48 rfl ?_);simp only[Act.put,ZA,ZR,ZW,q25]
       refine aG ?_
       refine wpQuiet_nil ?_;go_wp2;exact⟨⟨k+1,by go_num,hk,by rw[h0.out],bt hB hb⟩,by simp[intOf];omega⟩
      .have b1:decide (b<0)=false:=Z3 q;obtain⟨j,rfl⟩:=Zf (Int.not_lt.1 q);replace h1:=h1 j zo;have h0:Hid (q22 p l (k+1)=if qej x (z6 zh l j) then(k:Int) else j):=HS.out.trans (by rw[hpx,b1,Z4];simp);clear HS q;generalize z6 zh l j=y at*;simp only[Rw.v]at h1;refine zW [(7,0),(17,0)] λU V=>?_;go_wp2_with fail;go_fit (up (W:=wr) (hP _ x bR.drew) bR.drew);rintro _ w2⟨rfl,hb,hs,hc,hf,hl,h2⟩;rw[hpx];refine zGW (fO hb _) ?_;clear V U;intro U V;go_wp2_with fail;go_fit (up (W:=wr) (qml (x:=x) (y:=y)) (by first|exact hb|go_grown));rintro _ w3⟨rfl,h3,hs3,hc3,hf3,hl3,hB3⟩;generalize qej x y=a at*;refine zGZ (fO h3 _) ?_;clear V U;cases a
       all_goals
        go_wp2;exact⟨⟨k+1,by go_num,hk,by rw[h0.out];rfl,bt hB h3⟩,by simp[intOf];omega⟩
    .obtain rfl:k=l.length:=zo;go_wp2;go_returns;exact⟨rfl,hB⟩):qqp w t l K cp ar:=s H
end
section
variable{w:World}{t mb:Nat}{l:List Rw}{tn:Int}(H:TbR w t mb l tn)
include H
theorem qmq:qqp w t l 334 #[] (λx=>#[.agg #[ii x.c.prio,ii x.c.per,ii x.c.cost,ii x.call,ii x.what,ii x.wake,ii x.state,ii x.prio,ii x.turn,ii x.next,.bool x.park]]):=qxz H
theorem qmr{g1 g2:Nat}:qqp w t l 329 #[pp g1,pp g2] (λx=>#[.agg #[ii x.c.prio,ii x.c.per,ii x.c.cost,ii x.call,ii x.what,ii x.wake,ii x.state,ii x.prio,ii x.turn,ii x.next,.bool x.park],pp g1,pp g2]):=qxz H
theorem qem:cR 297 #[pp t] w (ii (q22 q4n l l.length)):=by have hB:=qmq H (p:=q4n) (λw' x _=>qmk);refine zi ?_;go_wp2_with(first|(refine uW hB ?_;rintro w1⟨hb,hs,hc,hf,hl,hB⟩));go_returns;exact⟨rfl,zv⟩
theorem q4o{call:Int}:cR 290 #[pp t,ii call,ii what] w (ii (q22 (q6o call what) l l.length)):=by have k1:=Blk.new w 3 #[ii call];have b1:bW w ((w.alloc (.cells #[ii call] 3)).alloc (.cells #[ii what] 3)):=zv;have k2:=Blk.new (w.alloc (.cells #[ii call] 3)) 3 #[ii what];replace k1:=k1.alloc (.cells #[ii what] 3);rw[Z9]at k2;have hB:=qmr (H.keep b1) (p:=q6o call what) (g1:=w.heap.size) (g2:=w.heap.size+1) (λw' x hb=>qjo ((k1.keep hb).cell 0) ((k2.keep hb).cell 0) (k1.keep hb).lt (k2.keep hb).lt);refine zi ?_;go_wp2_with(first|(refine uW hB ?_;rintro w1⟨hb,hs,hc,hf,hl,hB⟩));go_returns;exact⟨rfl,zv⟩
end
structure Rl where
 l:List Rw
 tn:Int
 rel:List Int
 mis:List Int
def z1u(win:Int)(x:Rw):Bool:=decide (x.c.per<=0)||(x.state==0)||(x.state==3)||decide (win<x.next)
def qa3(win:Int)(s:Rl)(k:Nat):Rl :=
 if z1u win (z6 zh s.l k) then s
 else if(z6 zh s.l k).state=4 then{s with l:=(s.l.set k {z6 zh s.l k with next:=wrap64 (win+(z6 zh s.l k).c.per)}).set k (qi1 s.tn {z6 zh s.l k with next:=wrap64 (win+(z6 zh s.l k).c.per)} 1),tn:=qqn s.tn 1,rel:=s.rel ++ [(k:Int)]}
 else{s with l:=s.l.set k {z6 zh s.l k with next:=wrap64 (win+(z6 zh s.l k).c.per)},mis:=s.mis ++ [(k:Int)]}
def q5u(win:Int)(l:List Rw)(tn:Int)(k:Nat):Rl:=(List.range k).foldl (qa3 win) ⟨l,tn,[],[]⟩
theorem qa4(win:Int)(l:List Rw)(tn:Int)(k:Nat):q5u win l tn (k+1)=qa3 win (q5u win l tn k) k:=by unfold q5u;rw[ZY,ZJ];rfl
def qy0(w:World)(l m:List Int)(e:Ending)(w':World):Prop:=∃A c B d,e=.returned (.tuple #[.slice A l.length c,.slice B m.length d])/\zj w' 3 1 A l.length c (l.map (.int .i64))/\zj w' 3 1 B m.length d (m.map (.int .i64))/\(∀k,q02 A k->w.heap.size<=k)/\(∀k,q02 B k->w.heap.size<=k)
structure RlR(wo w:World)(t mb:Nat)(k:Nat)(s:Rl)(A B:Option Addr)(c d:Nat):Prop where
 h:TbR w t mb s.l s.tn
 f:Fr (qw t mb) wo w
 a:zj w 3 1 A s.rel.length c (s.rel.map (.int .i64))
 b:zj w 3 1 B s.mis.length d (s.mis.map (.int .i64))
 fA:∀k,q02 A k->wo.heap.size<=k
 fB:∀k,q02 B k->wo.heap.size<=k
 AB:∀k,q02 A k->¬q02 B k
 tm:t<wo.heap.size/\mb<wo.heap.size
 n:s.rel.length<=k/\s.mis.length<=k
section
variable{wo w w':World}{t mb k:Nat}{s:Rl}{A B:Option Addr}{c d:Nat}
theorem RlR.keep(H:RlR wo w t mb k s A B c d)(hb:bW w w'):RlR wo w' t mb k s A B c d:=⟨H.h.keep hb,H.f.trans (fO hb _),H.a.keep hb,H.b.keep hb,H.fA,H.fB,H.AB,H.tm,H.n⟩
theorem RlR.tb(H:RlR wo w t mb k s A B c d){l':List Rw}{tn':Int}(h:TbR w' t mb l' tn')(hf:Fr (qw t mb) w w'):RlR wo w' t mb k {s with l:=l',tn:=tn'} A B c d :=
 ⟨h,H.f.trans hf,H.a.fr hf λk hk h=>by have:=H.fA k hk;have:=H.tm;rcases h with h|h <;> omega,H.b.fr hf λk hk h=>by have:=H.fB k hk;have:=H.tm;rcases h with h|h <;> omega,H.fA,H.fB,H.AB,H.tm,H.n⟩
theorem RlR.appA(H:RlR wo w t mb k s A B c d){A':Option Addr}{c':Nat}{x:Int}(h:zj w' 3 1 A' (s.rel.length+1) c' (s.rel.map (.int .i64) ++ #[ii x].toList))(hf:Fr (q02 A) w w')(hA:∀k,q02 A' k->q02 A k\/w.heap.size<=k):RlR wo w' t mb (k+1) {s with rel:=s.rel ++ [x]} A' B c' d:=by have hw:=H.f.size;refine⟨H.h.fr hf (λh=>by have:=H.fA _ h;have:=H.tm;omega) (λh=>by have:=H.fA _ h;have:=H.tm;omega),H.f.trans' hf λk hk h=>absurd (H.fA k h) zo,by simpa using h,H.b.fr hf λk hk h=>H.AB k h hk,λk hk=>(hA k hk).elim (H.fA k) (λh=>by omega),H.fB,λk hk hk2=>(hA k hk).elim (λh=>H.AB k h hk2) (λh=>by have:=H.b.lt hk2;omega),H.tm,?_⟩;have:=H.n;simp;omega
theorem RlR.appB(H:RlR wo w t mb k s A B c d){B':Option Addr}{d':Nat}{x:Int}(h:zj w' 3 1 B' (s.mis.length+1) d' (s.mis.map (.int .i64) ++ #[ii x].toList))(hf:Fr (q02 B) w w')(hB:∀k,q02 B' k->q02 B k\/w.heap.size<=k):RlR wo w' t mb (k+1) {s with mis:=s.mis ++ [x]} A B' c d':=by have hw:=H.f.size;refine⟨H.h.fr hf (λh=>by have:=H.fB _ h;have:=H.tm;omega) (λh=>by have:=H.fB _ h;have:=H.tm;omega),H.f.trans' hf λk hk h=>absurd (H.fB k h) zo,H.a.fr hf λk hk h=>H.AB k hk h,by simpa using h,H.fA,λk hk=>(hB k hk).elim (H.fB k) (λh=>by omega),λk hk hk2=>(hB k hk2).elim (λh=>H.AB k hk h) (λh=>by have:=H.a.lt hk;omega),H.tm,?_⟩;have:=H.n;simp;omega
theorem RlR.next(H:RlR wo w t mb k s A B c d):RlR wo w t mb (k+1) s A B c d:=⟨H.h,H.f,H.a,H.b,H.fA,H.fB,H.AB,H.tm,by have:=H.n;omega⟩
end
section
variable{w:World}{t mb:Nat}{l:List Rw}{tn:Int}(H:TbR w t mb l tn)
include H
theorem qeo{win:Int}:cP 287 #[pp t,ii win] w λe w'=>qy0 w (q5u win l tn l.length).rel (q5u win l tn l.length).mis e w'/\TbR w' t mb (q5u win l tn l.length).l (q5u win l tn l.length).tn/\Fr (qw t mb) w w':=by have hl8:=H.n;have hL:=q7f H;obtain⟨wo,rfl⟩:=aU w;refine zi ?_;go_wp2_with(first|(go_fit hL;rintro _ _⟨rfl,rfl⟩));go_loopw[6,7,12] (λv u i wr=>∃(k:Nat) (A B:Option Addr) (c d:Nat),i=.int .i64 k/\k<=l.length/\v=.slice A (q5u win l tn k).rel.length c/\u=.slice B (q5u win l tn k).mis.length d/\(q5u win l tn k).l.length=l.length/\RlR wo wr t mb k (q5u win l tn k) A B c d) (λ_ _ i _=>l.length-(intOf i).toNat);(case atStart=>exact⟨0,none,none,0,0,rfl,Za _,rfl,rfl,rfl,H,Fr.refl _ _,zj.nil _ _ _,zj.nil _ _ _,(λk h=>by cases h),(λk h=>by cases h),(λk h=>by cases h),⟨H.kt.lt,H.km.lt⟩,⟨nL,nL⟩⟩);case round=>clear hL;obtain⟨k,A,B,c,d,rfl,hkn,rfl,rfl,h5,hR⟩:=hrel;by_cases hk:k<l.length;{have hs:=qa4 win l tn k;generalize q5u win l tn k=s at*;have h2:k<s.l.length:=zo;have h4:=qa0 hR.h.km (by have:=hR.h.n;omega) h2 false;have hw1:=iW k;unfold qa3 at hs;obtain⟨x,hx⟩:=aU (z6 zh s.l k);rw[<- hx]at hs h4;clear hx;simp only[Rw.v,Z0 (show ¬(false=true) by simp)]at h4;obtain⟨tc,lt⟩:=hR.h.kt.cl;cases q:z1u win x with|true=>{have HS:=zhd (hs.trans (by rw[Z1 q]));clear hs;have b1:(decide (x.c.per<=0)||(x.state==0)||(x.state==3)||decide (win<x.next))=true:=q;clear q;(cases b2:decide (x.c.per<=0) <;> rw[b2]at b1 <;> cases b3:(x.state==0) <;> rw[b3]at b1 <;> cases b4:(x.state==3) <;> rw[b4]at b1 <;> try simp only[Bool.false_or,Bool.or_false]at b1 <;> try(exfalso;revert b1;simp;done));all_goals(go_wp2;exact⟨⟨k+1,A,B,c,d,by go_num,hk,by rw[HS.out],by rw[HS.out],by rw[HS.out];exact h5,by rw[HS.out];exact(hR.keep zv).next⟩,by simp[intOf];omega⟩)}|false=>{rw[Z0 (by simp[q])]at hs;have b1:(decide (x.c.per<=0)||(x.state==0)||(x.state==3)||decide (win<x.next))=false:=q;clear q;simp only[Bool.or_eq_false_iff]at b1;obtain⟨⟨⟨b1,b2⟩,b3⟩,b4⟩:=b1;go_upto_region 8 with fail;have b9:bW wr (wr.alloc (.cells #[ii x.c.prio,ii x.c.per,ii x.c.cost,ii x.call,ii x.what,ii x.wake,ii x.state,ii x.prio,ii x.turn,ii (wrap64 (win+x.c.per)),.bool x.park] 309)):=zv;have kb:=Blk.new wr 309 #[ii x.c.prio,ii x.c.per,ii x.c.cost,ii x.call,ii x.what,ii x.wake,ii x.state,ii x.prio,ii x.turn,ii (wrap64 (win+x.c.per)),.bool x.park];have hg:¬qw t mb wr.heap.size:=by{rintro(h|h);have:=hR.h.kt.lt;omega;have:=hR.h.km.lt;omega};generalize wr.alloc (.cells #[ii x.c.prio,ii x.c.per,ii x.c.cost,ii x.call,ii x.what,ii x.wake,ii x.state,ii x.prio,ii x.turn,ii (wrap64 (win+x.c.per)),.bool x.park] 309)=w2 at*;generalize wr.heap.size=g at kb hg⊢;obtain⟨w3,h6,h3,f3,f4⟩:=hR.h.upd' b9 h2 {x with next:=wrap64 (win+x.c.per)};clear h4 tc lt b1 b2 b3 b4;have kc:=kb.cell;obtain⟨tc,lt⟩:=(hR.h.keep b9).kt.cl;have lg:=kb.lt;simp only[Rw.v]at h6;go_still_tail 6,zk;clear tc lt kc lg;obtain⟨kc,lg⟩:=(kb.fr f4 hg).cl;have h0:=hR.tb h3 f3;by_cases q4:x.state=4;{have b1:(x.state != 4)=false:=by{simp[q4]};have HS:=zhd (hs.trans (by rw[Z1 q4]));clear hs q4;have hP:=q98 h3 (k:=k) (by rw[Zd];exact h2) (x:={x with next:=wrap64 (win+x.c.per)}) (s:=1);go_wp2_with(first|(go_fit hP;rintro _ w4⟨rfl,ht,h1⟩)|(at_builtin;refine q2k q27 w4 zr _ _ zr zr (h0.tb ht h1).a #[ii k] rfl aE zr (by have:=(h0.tb ht h1).n;omega) ?_;intro A' c' w5 hown4 hf4 hat4));have h7:=h0.tb ht h1;refine⟨⟨k+1,A',B,c',d,by go_num,hk,by rw[HS.out];simp,by rw[HS.out],by rw[HS.out];simpa using h5,by rw[HS.out];exact h7.appA hown4 hf4 hat4⟩,by simp[intOf];omega⟩};{have b1:(x.state != 4)=true:=by{simp[q4]};have HS:=zhd (hs.trans (by rw[Z0 q4]));clear hs q4;go_wp2_with(at_builtin;refine q2k q27 w3 zr _ _ zr zr h0.b #[ii k] rfl aE zr (by have:=h0.n;omega) ?_;intro A' c' w5 hown4 hf4 hat4);refine⟨⟨k+1,A,A',c,c',by go_num,hk,by rw[HS.out],by rw[HS.out];simp,by rw[HS.out];simpa using h5,by rw[HS.out];exact h0.appB hown4 hf4 hat4⟩,by simp[intOf];omega⟩}}};{obtain rfl:k=l.length:=zo;go_wp2;go_returns;exact⟨⟨A,c,B,d,rfl,hR.a,hR.b,hR.fA,hR.fB⟩,hR.h,hR.f⟩}
end
def qqq(c:Pc):Rw:={zh with c:=c,prio:=c.prio}
def qd1(l:List Pc):List Rw:=(l.take 8).map qqq
def z25(w:World)(l:List Rw)(e:Ending)(w':World):Prop:=∃t mb,e=.returned (pp t)/\TbR w' t mb l 0/\w.heap.size<=t/\w.heap.size<=mb/\bW w w'
theorem qy1(w:World):(Instr.makeMap 303 none).run Tryz.prog w=.ok (.map (some w.heap.size)) (w.alloc (.map #[] 0)):=zk
theorem z0d:Tryz.prog.underlying 46=some (.slice (Tryz.prog.elem 46)):=zk
theorem qv1(w:World):(sizeOf (Tryz.prog.elem 46)).run Tryz.prog w=.ok 3 w:=zk
theorem qqr{l:Hd Pc}(hl:q8y.ok w l):cP 114 #[l.hq] w λe w'=>z25 w (qd1 l.l) e w':=by have hlen:=hl.1.len;have hc:=hl.1.1.2.1;obtain⟨m,hm⟩:=aU (min l.l.length 8);have h2:zx w (qg l.A 0 l.c 3) m l.c 3 z05.f (l.l.take m):=by{have h:=hl.1.cut (Za m) (by omega:m<=l.l.length);rw[show z05.sz=3 from rfl]at h;simpa using h};have hsl:=λw=>q4p z0d qv1 w l.A l.l.length l.c m zo;have hmk:=qy1;have hmin:min (l.l.length:Int) 8=m:=zo;have h5:qd1 l.l=(l.l.take m).map qqq:=by{unfold qd1;rcases ZH l.l.length 8 with h|h;{rw[Zs zo,Zs zo]};{rw[show m=8 by omega]}};rw[h5];have hq:(l.l.take m).length=m:=aO;have hm8:m<=8:=zo;generalize l.l.take m=q at*;generalize qg l.A 0 l.c 3=A at*;clear hm h5;have km:=qxx w;have kt:=Blk.new (w.alloc (.map #[] 0)) 305 #[.map (some w.heap.size),ii 0];have b0:bW w ((w.alloc (.map #[] 0)).alloc (.cells #[.map (some w.heap.size),ii 0] 305)):=zv;rw[Z9]at kt;have km:=km.keep (w':=(w.alloc (.map #[] 0)).alloc (.cells #[.map (some w.heap.size),ii 0] 305)) zv;obtain⟨wo,rfl⟩:=aU w;refine zi ?_;go_upto_region 2 with fail;generalize(wo.alloc (.map #[] 0)).alloc (.cells #[.map (some wo.heap.size),ii 0] 305)=w1 at*;go_wp2_with fail;go_loopw[15] (λi wr=>∃k:Nat,i=.int .i64 k/\k<=m/\TbR wr (wo.heap.size+1) wo.heap.size ((q.take k).map qqq) 0/\bW wo wr) (λi _=>m-(intOf i).toNat);(case atStart=>exact⟨0,rfl,Za _,⟨kt,km,zo,zp⟩,b0⟩);case round=>clear kt km b0;obtain⟨k,rfl,hkn,H,hB⟩:=hrel;by_cases hk:k<m;{obtain⟨sb,so,hA,hsb,h1⟩:=(h2.keep hB).at_ zC (k:=k) zo;have s0:wr.cell? ⟨sb,so+k*3,none⟩=some (ii (z6 zC q k).prio):=h1 0 _ rfl;have s1:=h1 1 _ rfl;have s2:=h1 2 _ rfl;have hw1:=iW k;have ht:(q.take (k+1)).map qqq=(q.take k).map qqq ++ [qqq (z6 zC q k)]:=by{rw[Zm zo,Zk,q0s zo];rfl};have h4:((q.take k).map qqq).length=k:=aO;have HT:=zhd ht;clear ht h1;generalize z6 zC q k=x at*;rw[hA];go_upto_region 5 with fail;have b9:bW wr (wr.alloc (.cells (Pc.lw x) 89)):=zv;have kb:=Blk.new wr 89 (Pc.lw x);generalize wr.alloc (.cells (Pc.lw x) 89)=w2 at*;have H2:=H.keep b9;have fd:=(Fr.refl (λ_=>False) w2).drew;obtain⟨w3,h0,h3,f3⟩:=qv0 (H2.km.fr fd id) zo (qqq x);have h6:=(H2.kt.fr fd id).fr f3 H2.ne;have kc:=kb.cell;obtain⟨tc,lt⟩:=H2.kt.cl;have lg:=kb.lt;rw[h4]at h0;simp only[Rw.v,qqq,zh]at h0;clear H2 h4;go_still_tail 9,zk;go_wp2_with fail;refine⟨⟨k+1,by go_num,hk,⟨h6,by rw[HT.out];exact h3,zo,by simp;omega⟩,?_⟩,by simp[intOf];omega⟩;exact(bt hB b9).drew.trans (f3.below (by intro k h e;omega) (by have:=(bt hB b9).size;simpa using this))};{obtain rfl:k=m:=zo;go_wp2;go_returns;rw[Zs zo]at H;exact⟨_,_,rfl,H,zo,zo,hB⟩}
section
open Go.RowKit Go.Shelf
attribute [local go_sem] Oper.semAt_some
def qdx(x:Sk)(k:Nat):List Int:=((List.range k).filter λj=>!z6 false x.fin j).map (z7 x.has)
theorem qa5(x:Sk)(k:Nat):qdx x (k+1)=qdx x k++(if z6 false x.fin k then[] else[z7 x.has k]):=by unfold qdx;rw[ZY,QE,Zk];cases h:z6 false x.fin k <;> simp[h]
theorem qbq(x:Sk){k:Nat}(hf:z6 false x.fin k=false):∀ {n:Nat},k<n->∃r,qdx x n=qdx x k++z7 x.has k::r
 |0,h=>absurd h zo
 |n+1,h=>by by_cases q:k=n;{subst q;exact⟨[],by rw[qa5,hf];rfl⟩};{obtain⟨r,hr⟩:=qbq x hf (n:=n) zo;exact⟨r++_,by rw[qa5,hr,ZU,QR]⟩}
def qqs(l:List Int)(k:Nat):Array Value:=#[ii (z7 l k)]
theorem qms(l r:List Int)(a:Int):z7 (l++a::r) l.length=a:=by simp[z7]
theorem qep{s a:Nat}{qs:List Nat}{x:Sk}(H:SkR w s a cap qs x){g:Nat}(kg:Blk w g 253 #[pp s]){K:Nat->Prop}(hKg:K g)(hKs:K s)(hKa:K a)(hKq:∀k,k∈qs->K k) :
  qx7 Tryz.prog 339 #[pp g] (qqs (qdx x x.has.length)) (qdx x x.has.length).length K w:=by intro l J Jx T W hW hJ hJx hT0 hTb hY h0;replace H:=H.fr hW (λh=>h hKs) (λh=>h hKa) (λk h h'=>h' (hKq k h));replace kg:=kg.fr hW (λh=>h hKg);have c0:=kg.cell 0;have lg:=kg.lt;obtain⟨ks,ls⟩:=H.ks.cl;have hn:=H.n;refine zi ?_;go_wp2_with fail;go_loopw[10] (λi wr=>∃(k:Nat) (T':Nat->Prop),i=.int .i64 k/\k<=x.has.length/\Fr T W wr/\zV T T' W wr/\J (qdx x k).length T' wr) (λi _=>x.has.length-(intOf i).toNat);(case atStart=>exact⟨0,T,rfl,Za _,Fr.refl _ _,zV.refl hTb,h0⟩);case round=>obtain⟨k,T',rfl,hkn,hF,hG,h1⟩:=hrel;by_cases hk:k<x.has.length;{have H':=H.fr hF (λh=>hT0 _ h hKs) (λh=>hT0 _ h hKa) (λk h h'=>hT0 _ h' (hKq k h));obtain⟨ha,hc⟩:=H'.at_ hk;have kq:=H'.q k hk;obtain⟨kc,lq⟩:=kq.cl;have hw1:=iW k;have hs:=qa5 x k;have h5:=λh=>qbq x (k:=k) h hk;clear c0 lg ks ls kg;generalize zg qs k=q at*;cases hf:z6 false x.fin k with|true=>{rw[hf]at kc hs;rw[Z1 rfl,ZG]at hs;go_wp2;exact⟨⟨k+1,T',by go_num,hk,hF,hG,by rw[hs];exact h1⟩,by simp[intOf];omega⟩}|false=>{rw[hf]at kc hs;rw[Z0 zp]at hs;obtain⟨r,hr⟩:=h5 hf;have h4:=hY (qdx x k).length T' wr (by rw[hr];simp) h1 hG.bnd;rw[show qqs (qdx x x.has.length) (qdx x k).length = #[ii (z7 x.has k)] by unfold qqs;rw[hr,qms]]at h4;generalize z7 x.has k=y at*;have HS:=zhd (show(qdx x (k+1)).length=(qdx x k).length+1 by rw[hs];simp);have HN:=zhd (show(qdx x k).length+1<=(qdx x x.has.length).length by rw[hr];simp);clear hs hr h5;obtain⟨fn,tmps,assign,body,hy,hR⟩:=h4;refine(wpIn_wide (n:=1)).1 ?_;gi_wp2;refine hR.mono ?_;rintro e w6⟨T2,h2,h3,(⟨rfl,h6⟩|⟨rfl,hJx6⟩)⟩;{gi_wp2;go_wp2;exact⟨⟨k+1,T2,by go_num,hk,hF.grw hG h2,hG.trans hF.size h3,by rw[HS.out];exact h6⟩,by simp[intOf];omega⟩};{gi_wp2;go_wp2;go_returns;exact⟨⟨_,rfl⟩,T2,hF.grw hG h2,hG.trans hF.size h3,.inr ⟨_,HN.out,hJx6⟩⟩}}};{obtain rfl:k=x.has.length:=zo;go_wp2;go_returns;exact⟨⟨_,rfl⟩,T',hF,hG,.inl h1⟩}
def qgu(x:Sk):Int:=min ((qdx x x.has.length).foldl qtr 0) x.room
theorem qjq{l:List Int}{k:Nat}(h:k<l.length)(f:Int->Int->Int)(z:Int):(l.take (k+1)).foldl f z=f ((l.take k).foldl f z) (z7 l k):=by rw[Zm h,ZJ,q2v h];rfl
theorem qgv{s:Nat}:cP 303 #[pp s] w λe w'=>e=.returned (.func (.func 339) #[] #[pp w.heap.size])/\w'=w.alloc (.cells #[pp s] 253):=by refine zi ?_;go_wp2;go_returns;exact⟨rfl,rfl⟩
section
variable{w:World}{s a cap:Nat}{qs:List Nat}{x:Sk}(H:SkR w s a cap qs x)
include H
theorem SkR.old:s<w.heap.size/\(0<x.has.length->a<w.heap.size)/\∀k,k∈qs->k<w.heap.size:=by refine⟨H.ks.lt,λh=>(H.at_ h).1,λk hk=>?_⟩;obtain⟨i,hi,rfl⟩:=ZX hk;have:=(H.q i (by have:=H.ql;omega)).lt;rwa [show zg qs i=qs[i] by simp[zg,Zo hi]]at this
theorem qa6(ha:a<w.heap.size):cR 260 #[pp s] w (ii (qgu x)):=by
 obtain⟨k,lt⟩:=H.ks.cl;have h0:=H.old;obtain⟨y,hy⟩:=aU (qdx x x.has.length);unfold qgu;rw[<- hy];have k3:=Blk.new w 3 #[ii 0];have kg:=Blk.new (w.alloc (.cells #[ii 0] 3)) 253 #[pp s];have b2:bW w ((w.alloc (.cells #[ii 0] 3)).alloc (.cells #[pp s] 253)):=zv;replace k3:=k3.alloc (.cells #[pp s] 253);rw[Z9]at kg;have h3:=qep (H.keep b2) kg (K:=λb=>b=w.heap.size+1\/b=s\/b=a\/b∈qs) (.inl rfl) (.inr (.inl rfl)) (.inr (.inr (.inl rfl))) (λk h=>.inr (.inr (.inr h)));rw[<- hy]at h3;clear hy;refine(QU (n:=1)).1 (callsIn_of_wp_marks Tryz.func260 rfl trivial ?_ rfl);simp only[Tryz.ntmps260,List.size_toArray,Zj,Qp,Nat.reduceAdd,Nat.reduceSub,Array.replicate_succ,Array.replicate_zero,List.push_toArray,List.append_toArray,Q6,QR];gi_wp2;refine⟨trivial,QU.2 (qgv.mono ?_)⟩;rintro _ _⟨rfl,rfl⟩;generalize(w.alloc (.cells #[ii 0] 3)).alloc (.cells #[pp s] 253)=w2 at*;have hlg:=kg.lt;gi_wp2
 refine qd2 (gf:=339) rfl (enters_of Tryz.func339 zk rfl) h3 (λb h=>by rcases h with h|h|h|h <;> first|omega|(have:=h0.2.2 b h;omega)) (Fr.refl _ _) (λ_=>rfl)
  (λk T W=>Blk W w.heap.size 3 #[ii ((y.take k).foldl qtr 0)]/\T w.heap.size)
  (λ_ _ _ _=>False) ?_ (λ_ _ _ _ _ h _=>h) (λb=>b=w.heap.size) (λb h h'=>by rcases h' with h'|h'|h'|h' <;> first|omega|(have:=h0.2.2 b h';omega)) (λb h=>by omega)
  ⟨k3,rfl⟩
  (λk a' T W=>a'={tmps:=#[pp s,undef,ii 0,pp w.heap.size,ii (z7 y k),pp s,.bool false,.bool false,pp s,pp s,.pointer (some ⟨s,2,none⟩),.bool true,.bool false,.bool false,pp s,.func (.func 339) #[] #[pp (w.heap.size+1)],ii (z7 y k),undef,undef,undef,undef,undef,undef,undef,undef,undef],defers:=[]}/\Blk W w.heap.size 3 #[ii ((y.take k).foldl qtr 0)]/\T w.heap.size)
  ?_ ?_ ?_ ?_ ?_
 {rintro k T W W'⟨h1,h2⟩ hf;exact⟨h1.fr hf (λh=>h.1 h2),h2⟩};{rintro a' k T W W'⟨rfl,h1,h2⟩ hf;exact⟨rfl,h1.fr hf (λh=>h.1 h2),h2⟩};{rintro l k T W K hk⟨h1,h2⟩ hT hK;simp only[qqs];gi_wp2;exact hK _ T _ (Fr.refl _ _) (zV.refl hT) ⟨rfl,h1,h2⟩};{rintro l k a' T W hk⟨rfl,h1,h2⟩ hT;have h5:=h1.cell 0;have h4:=h1.lt;have hfz:=h1.frozen 0;gi_wp2;refine⟨trivial,rfl,CallsIn.inRound l (QU.2 (quo.mono ?_))⟩;rintro _ _⟨rfl,rfl⟩;gi_wp2;refine⟨T,(Fr.refl T W).setCell (λ_=>h2) _,λb hb=>⟨.inl hb,by have:=hT b hb;simpa using this⟩,?_,h2⟩;rw[qjq hk];exact h1.set_ 0 _};{rintro D T' W hD hnD hF hG⟨h1,h2⟩ hK;have h5:=h1.cell 0;have h4:=h1.lt;have HW:=(H.keep b2).fr hF zo zo (λk hk=>by have:=h0.2.2 k hk;omega);obtain⟨ks,ls⟩:=HW.ks.cl;clear k lt;gi_wp2;refine wpIn_wide.2 ?_;go_quiet (fail);go_wp2_with fail;gi_wp2;refine⟨zp,.inl ⟨_,_,rfl,run_takeDeferred (w:=W.drewN nq) hK,?_⟩⟩;exact⟨_,results_tmp rfl _ _ _,rfl,b2.trans (((hF.drewN nq).putObj (l:=D) (λh=>by omega) _).below (λb hb h=>by omega) (by have:=b2.size;omega))⟩};{exact λ_ _ _ _ _ _ _ _ _ _ h _=>h.elim}
def qqt(x:Sk)(k:Nat):Sk:={x with fin:=x.fin.set k true}
omit H in
theorem qv3(l:List Bool)(i j:Nat)(v:Bool)(hi:i<l.length):z6 false (l.set i v) j=if j=i then v else z6 false l j:=by unfold z6;rw[Z7,Z7,Qw];by_cases h:i=j;{subst h;simp[hi]};{simp[h,QL h]}
theorem SkR.fin{i:Nat}(hi:i<x.has.length):SkR (w.setCell ⟨zg qs i,1,none⟩ (.bool true)) s a cap qs (qqt x i):=by have hq:=H.qb i hi;have h0:i<x.fin.length:=by{have:=H.fl;omega};refine⟨H.ks.far (λe=>hq.1 e.symm) _,H.ka.fr ((Fr.refl (λk=>k=zg qs i) w).setCell (p:=⟨zg qs i,1,none⟩) (λ_=>rfl) _) (λ_ _ _ e=>by cases e;exact λh=>hq.2 h.symm),λj hj=>?_,H.ql,by unfold qqt;simpa using H.fl,H.sa,H.qb,H.qq,H.n⟩;unfold qqt;rw[qv3 x.fin i j true h0];by_cases h:j=i;{subst h;rw[Z1 rfl];exact(H.q j hj).set_ 1 _};{rw[Z0 h];exact(H.q j hj).far (H.qq j i hj hi h) _}
theorem qgw(i:Nat)(hi:i<x.has.length):cP 335 #[pp s,ii i] w λe w'=>e=.returned (ii (wrap64 (qgu x-qgu (qqt x i))))/\SkR w' s a cap qs (qqt x i)/\Fr (xX s qs) w w':=by have hF:=q9z H hi;have ha:=(H.at_ hi).1;have hL:=λw' (hb:bW w w')=>qa6 (H.keep hb) (by have:=hb.size;omega);have hm:zg qs i∈qs:=q89 (by have:=H.ql;omega);have lq:=(H.q i hi).lt;have kq:=H.q i hi;have h1:=λw1 (hb:bW w w1)=>qa6 ((H.keep hb).fin hi) (by have:=hb.size;simp;omega);have hK:=λw1 (hb:bW w w1)=>(H.keep hb).fin hi;have k1:=kq.cell;have z1:=kq.frozen;refine zi ?_;go_wp2_with(first|(go_fit hF;rintro _ _⟨rfl,rfl⟩)|(go_fit (up (W:=w) (hL _ bR) zv);rintro _ w1⟨rfl,hb,hs,hc,hf,hl,hB⟩)|(go_fit (h1 _ hb);rintro _ w2⟨rfl,h0⟩));have h3:=hK w1 hb;have f3:=(fO hb (xX s qs)).setCell (p:=⟨zg qs i,1,none⟩) (λ_=>.inr hm) (.bool true);go_returns;exact⟨rfl,h3.keep h0,f3.trans (fO h0 _)⟩
end
end
theorem qv4:ElemOf 456 459 1 8:=q1l (z := .pointer none) zk zk rfl zd zd
def qeq(qs:List Nat):List Value:=qs.map λq=>pp q
theorem q28(qs:List Nat)(q i:Nat):zg (qs ++ [q]) i=if i<qs.length then zg qs i else if i=qs.length then q else zg [] i:=by unfold zg;rw[Z7,Z7,Z7,List.getElem?_append];split;{rfl};{split;{rename_i h;subst h;simp};{rw[Q_ aO];rfl}}
structure SnR(wo w:World)(s k:Nat)(A:Option Addr)(c:Nat)(qs:List Nat)(room:Int)(has:List Int):Prop where
 ks:Blk w s 458 #[ii room,.slice A k c,.bool true]
 ka:zj w 459 1 A k c (qeq qs)
 ql:qs.length=k
 q:∀i,i<k->Blk w (zg qs i) 461 #[ii (z7 has i),.bool false]
 lo:wo.heap.size<=s/\(∀g,q02 A g->wo.heap.size<=g/\g≠s)/\∀i,i<k->wo.heap.size<=zg qs i/\zg qs i≠s/\¬q02 A (zg qs i)
 qq:∀i j,i<k->j<k->i≠j->zg qs i≠zg qs j
 B:bW wo w
theorem SnR.keep{s k:Nat}{qs:List Nat}{room:Int}{has:List Int}(H:SnR wo w s k A c qs room has)(hb:bW w w'):SnR wo w' s k A c qs room has :=
 ⟨H.ks.keep hb,H.ka.keep hb,H.ql,λi hi=>(H.q i hi).keep hb,H.lo,H.qq,bt H.B hb⟩
theorem SnR.push{w9:World}{s k:Nat}{qs:List Nat}{room:Int}{has:List Int}(R:SnR wo w s k A c qs room has){q g cap:Nat}(hq:w.heap.size<=q)(kq:Blk w9 q 461 #[ii (z7 has k),.bool false])(b:Fr (q02 A) w w9)
 (ho:zj w9 459 1 (some ⟨g,0,none⟩) (k+1) cap (qeq qs ++ #[pp q].toList))(hg:q02 A g\/w.heap.size<=g)(hgq:g≠q) :
  SnR wo (w9.setCell ⟨s,1,none⟩ (.slice (some ⟨g,0,none⟩) (k+1) cap)) s (k+1) (some ⟨g,0,none⟩) cap (qs ++ [q]) room has:=by obtain⟨l1,l2,l3⟩:=R.lo;have h3:=R.B.size;have hs9:=b.size;have sA:¬q02 A s:=λh=>(l2 _ h).2 rfl;have hsl:=R.ks.lt;have h0:g≠s:=hg.elim (λh=>(l2 g h).2) (λh=>by omega);have h1:wo.heap.size<=g:=hg.elim (λh=>(l2 g h).1) (λh=>by omega);have fs:Fr (λk=>k=s) w9 (w9.setCell ⟨s,1,none⟩ (.slice (some ⟨g,0,none⟩) (k+1) cap)):=(Fr.refl (λk=>k=s) w9).setCell (p:=⟨s,1,none⟩) (λ_=>rfl) _;refine⟨(R.ks.fr b sA).set_ 1 _,?_,by rw[Ze,R.ql];rfl,λi hi=>?_,⟨l1,λg' h=>by cases h;exact⟨h1,h0⟩,λi hi=>?_⟩,λi j hi hj hij=>?_,?_⟩;{have:=ho.fr fs (λk hk h=>by cases hk;exact h0 h);unfold qeq at this⊢;rw[Zk];exact this};{rw[q28,R.ql];by_cases h:i<k;{rw[Z1 h];exact((R.q i h).fr b (l3 i h).2.2).fr fs (l3 i h).2.1};{obtain rfl:i=k:=zo;rw[Z0 h,Z1 rfl];exact kq.fr fs (show ¬q=s by omega)}};{rw[q28,R.ql];by_cases h:i<k;{rw[Z1 h];refine⟨(l3 i h).1,(l3 i h).2.1,λh'=>?_⟩;have e:g=zg qs i:=by{unfold q02 at h';injection h' with h';injection h'};rcases hg with hg|hg;{exact(l3 i h).2.2 (e ▸ hg)};{have:=(R.q i h).lt;omega}};{obtain rfl:i=k:=zo;rw[Z0 h,Z1 rfl];refine⟨zo,zo,λh'=>hgq ?_⟩;unfold q02 at h';injection h' with h';injection h'}};{rw[q28,q28,R.ql];by_cases h:i<k <;> by_cases h2:j<k;{rw[Z1 h,Z1 h2];exact R.qq i j h h2 hij};{rw[Z1 h,Z0 h2,Z1 zo];have:=(R.q i h).lt;omega};{rw[Z0 h,Z1 zo,Z1 h2];have:=(R.q j h2).lt;omega};{omega}};{exact(R.B.trans (b.below (λk hk h=>by have:=(l2 k h).1;omega) h3)).setCell zo _}
def q56(x:Pt):Sk:=⟨max 0 x.cap,x.procs.l.map λp=>max 0 p.cost,x.procs.l.map λ_=>false⟩
def qy3(w:World)(x:Pt)(e:Ending)(w':World):Prop:=∃s a cap qs,e=.returned (pp s)/\SkR w' s a cap qs (q56 x)/\w.heap.size<=s/\w.heap.size<=a/\(∀q,q∈qs->w.heap.size<=q)/\bW w w'
theorem qqu{x:Pt}(hx:qcu.ok w x)(h0:0<x.procs.l.length)(h1:x.procs.l.length<=1000):cP 243 #[.agg (Pt.lw x)] w λe w'=>qy3 w x e w':=by have hl:=hx.2.1;have hlen:=hl.1.len;have k1:=Blk.new w 51 (Pt.lw x);have ks:=Blk.new (w.alloc (.cells (Pt.lw x) 51)) 458 #[ii (max 0 x.cap),nS,.bool true];rw[Z9]at ks;have b0:bW w ((w.alloc (.cells (Pt.lw x) 51)).alloc (.cells #[ii (max 0 x.cap),nS,.bool true] 458)):=zv;replace k1:=k1.alloc (.cells #[ii (max 0 x.cap),nS,.bool true] 458);obtain⟨wo,rfl⟩:=aU w;refine zi ?_;go_upto_region 2 with fail;generalize(wo.alloc (.cells (Pt.lw x) 51)).alloc (.cells #[ii (max 0 x.cap),nS,.bool true] 458)=w1 at*;have c1:=k1.cell 1;have hd:=k1.lt;go_wp2_with fail;go_loopw[14] (λi wr=>∃(k:Nat) (A:Option Addr) (c:Nat) (qs:List Nat),i=.int .i64 k/\k<=x.procs.l.length/\SnR wo wr (wo.heap.size+1) k A c qs (max 0 x.cap) (q56 x).has) (λi _=>x.procs.l.length-(intOf i).toNat);(case atStart=>exact⟨0,none,0,[],rfl,Za _,ks,zj.nil _ _ _,rfl,(λi h=>absurd h zo),⟨zo,(λg h=>by cases h),λi h=>absurd h zo⟩,(λi j h=>absurd h zo),b0⟩);case round=>clear ks b0 c1 hd k1;obtain⟨k,A,c,qs,rfl,hkn,R⟩:=hrel;by_cases hk:k<x.procs.l.length;{obtain⟨sb,so,hA,hsb,h3⟩:=(q8y.keep hl R.B).1.at_ zC hk;have s0:wr.cell? ⟨sb,so+k*3,none⟩=some (ii (z6 zC x.procs.l k).prio):=h3 0 _ rfl;have s1:wr.cell? ⟨sb,so+k*3+1,none⟩=some (ii (z6 zC x.procs.l k).per):=h3 1 _ rfl;have s2:wr.cell? ⟨sb,so+k*3+2,none⟩=some (ii (z6 zC x.procs.l k).cost):=h3 2 _ rfl;have hw1:=iW k;have hH:z7 (q56 x).has k=max 0 (z6 zC x.procs.l k).cost:=by{unfold q56;rw[q2v (by simpa using hk),q0s hk];simp};clear h3;generalize z6 zC x.procs.l k=p at*;rw[hA];go_upto_region 5 with fail;have b9:bW wr (wr.alloc (.cells (Pc.lw p) 89)):=zv;have kp:=Blk.new wr 89 (Pc.lw p);generalize wr.alloc (.cells (Pc.lw p) 89)=w2 at*;obtain⟨gp,h5⟩:=aU wr.heap.size;rw[<- h5]at kp;rw[<- h5];obtain⟨kpc,lp⟩:=kp.cl;obtain⟨ksc,lsc⟩:=(R.ks.keep b9).cl;clear s0 s1 s2;have hb:¬q02 A (wo.heap.size+1):=λh=>(R.lo.2.1 _ h).2 rfl;have hn2:¬q02 A gp:=λh=>by{have:=R.ka.lt h;omega};clear h5;refine q88 (q02 A) [(9,0),(0,0),(0,0),(2,2)] ?_;simp only[q03,tkO,dpO];refine aG ?_;refine qwW (λU V=>?_);go_wp2_with fail;have R2:=R.keep b9;clear b9;have h9:bW w2 (w2.drew.alloc (.cells #[ii (max 0 p.cost),.bool false] 461)):=zv;refine zGW (fO h9 _) ?_;clear V U;intro U V;go_wp2_with fail;have h4:bW w2 ((w2.drew.alloc (.cells #[ii (max 0 p.cost),.bool false] 461)).alloc (.cells #[pp w2.heap.size] 459)):=zv;refine zG (fO h4 _) ?_;clear V U;have R3:=R2.keep h4;refine qwW (λU V=>?_);have hc:=(Blk.new w2.drew 461 #[ii (max 0 p.cost),.bool false]).alloc (.cells #[pp w2.heap.size] 459);have h2:=Blk.new (w2.drew.alloc (.cells #[ii (max 0 p.cost),.bool false] 461)) 459 #[pp w2.heap.size];rw[Z9]at h2;refine q8a qv4 _ _ _ zr zr R3.ka (w2.heap.size+1) #[pp w2.heap.size] rfl aE h2 zr zo ?_;intro g cap w9 hown9 hf9 hat9;have f9:=(fO h4 (q02 A)).trans hf9;have h8:=hc.fr hf9 (λh=>absurd (R2.ka.lt h) (Nat.lt_irrefl _));refine V _ _ rfl (q01 f9) ?_;clear V U;have h7:=R2.ks.fr f9 hb;have ks9c:=h7.cell;have ks9f:=h7.frozen;have ks9l:=h7.lt;refine zN ?_;refine qwB (λU V=>?_);go_wp2_with fail;refine zE ?_;clear V U;go_wp2_with fail;rw[<- hH]at h8;exact⟨⟨k+1,_,_,_,by go_num,hk,R2.push nL h8 f9 hown9 (hat9.imp id (λh=>by rw[h];simp;omega)) (by rcases hat9 with h|h;have:=R2.ka.lt h;omega;rw[h];simp;omega)⟩,by simp[intOf];omega⟩};{obtain rfl:k=x.procs.l.length:=zo;go_wp2;go_returns;obtain⟨g,rfl⟩:∃g,A=some ⟨g,0,none⟩:=by{rcases R.ka.2 with⟨_,h⟩|⟨g,cap,cur,e1,_⟩;{omega};{cases e1;exact⟨g,rfl⟩}};obtain⟨l1,l2,l3⟩:=R.lo;have h6:(q56 x).has.length=x.procs.l.length:=by{simp[q56]};have ha:∀i,z6 false (q56 x).fin i=false:=λi=>by{unfold q56 z6;simp only[Z7,X5];cases x.procs.l[i]? <;> rfl};refine⟨_,g,c,qs,rfl,⟨by rw[h6];exact R.ks,by rw[h6];exact R.ka.sl,λi hi=>by rw[ha];exact R.q i zo,by rw[h6];exact R.ql,by simp[q56],λh=>(l2 g rfl).2 h.symm,λi hi=>⟨(l3 i zo).2.1,λh=>(l3 i zo).2.2 (by rw[h];rfl)⟩,λi j hi hj=>R.qq i j zo zo,zo⟩,l1,(l2 g rfl).1,λq hq=>?_,R.B⟩;obtain⟨i,hi,rfl⟩:=ZX hq;have:=(l3 i (by have:=R.ql;omega)).1;rwa [show zg qs i=qs[i] by simp[zg,Zo hi]]at this}
inductive Lb where
 |free|data|sys (i:Nat)|cell (p:Nat)|tks (p:Nat)|task (p k:Nat)|tab (p:Nat)|mem (p:Nat)|prs (p:Nat)|prt (p k:Nat)|bx (p k:Nat)|obs (p:Nat)|obj (p i k:Nat)|mon (p:Nat)|slk (p:Nat)|evs (p:Nat)
def Lb.part:Lb->Option Nat
 | .cell p=>some p | .tks p=>some p | .task p _=>some p | .tab p=>some p | .mem p=>some p | .prs p=>some p | .prt p _=>some p | .bx p _=>some p | .obs p=>some p | .obj p _ _=>some p | .mon p=>some p | .slk p=>some p | .evs p=>some p
 | .free=>none | .data=>none | .sys _=>none
abbrev Gh:=Nat->Lb
structure Mv(L:Lb->Prop)(o:Gh)(w:World)(o':Gh)(w':World):Prop where
 f:Fr (λk=>L (o k)) w w'
 a:∀k,k<w.heap.size->o' k=o k
theorem Mv.refl(L:Lb->Prop)(o:Gh)(w:World):Mv L o w o w:=⟨Fr.refl _ w,λ_ _=>rfl⟩
theorem Mv.trans{L:Lb->Prop}{o o' o'':Gh}{w'':World}(h:Mv L o w o' w')(k:Mv L o' w' o'' w''):Mv L o w o'' w'' :=
 ⟨h.f.trans' k.f λj hj hl=>by rw[h.a j hj]at hl;exact hl,λj hj=>(k.a j (Zg hj h.f.size)).trans (h.a j hj)⟩
theorem Mv.trans'{L L':Lb->Prop}{o o' o'':Gh}{w'':World}(h:Mv L o w o' w')(k:Mv L' o' w' o'' w'')(hs:∀j,j<w.heap.size->L' (o j)->L (o j)):Mv L o w o'' w'' :=
 ⟨h.f.trans' k.f λj hj hl=>hs j hj (by rw[<- h.a j hj];exact hl),λj hj=>(k.a j (Zg hj h.f.size)).trans (h.a j hj)⟩
theorem Mv.mono{L L':Lb->Prop}{o o':Gh}(h:Mv L o w o' w')(hl:∀l,L l->L' l):Mv L' o w o' w':=⟨h.f.mono λ_ _=>hl _,h.a⟩
theorem Mv.below{L:Lb->Prop}{o:Gh}(h:bW w w'):Mv L o w o w':=⟨fO h _,λ_ _=>rfl⟩
theorem Mv.of{L:Lb->Prop}{o:Gh}{S:Nat->Prop}(h:Fr S w w')(hs:∀k,S k->L (o k)):Mv L o w o w':=⟨h.mono λk _=>hs k,λ_ _=>rfl⟩
def lay(w:World)(o:Gh)(l:Lb):Gh:=λk=>if k<w.heap.size then o k else l
theorem q07{o:Gh}{l:Lb}{k:Nat}(h:w.heap.size<=k):lay w o l k=l:=Z0 zo
theorem q0l{o:Gh}{l:Lb}{k:Nat}(h:k<w.heap.size):lay w o l k=o k:=Z1 h
theorem Mv.lay{L:Lb->Prop}{o:Gh}{S:Nat->Prop}(l:Lb)(h:Fr S w w')(hs:∀k,k<w.heap.size->S k->L (o k)):Mv L o w (lay w o l) w':=⟨h.mono hs,λ_ hk=>q0l hk⟩
section
variable{L:Lb->Prop}{o o':Gh}{w w':World}
def q1t(w:World)(o:Gh)(l:Lb)(g:Nat)(t:TypeId)(cs:Array Value):Prop:=Blk w g t cs/\o g=l
theorem q1t.go{l:Lb}{g:Nat}{t:TypeId}(h:q1t w o l g t cs)(m:Mv L o w o' w')(hl:¬L l):q1t w' o' l g t cs:=⟨h.1.fr m.f (by rw[h.2];exact hl),(m.a g h.1.lt).trans h.2⟩
def q4q(w:World)(o:Gh)(l:Lb)(e:TypeId)(sz:Nat)(A:Option Addr)(n c:Nat)(xs:List Value):Prop:=zj w e sz A n c xs/\∀k,q02 A k->o k=l
theorem q4q.go{l:Lb}{e:TypeId}{sz:Nat}{xs:List Value}(h:q4q w o l e sz A n c xs)(m:Mv L o w o' w')(hl:¬L l):q4q w' o' l e sz A n c xs :=
 ⟨h.1.fr m.f λk hk=>by rw[h.2 k hk];exact hl,λk hk=>(m.a k (h.1.lt hk)).trans (h.2 k hk)⟩
def j9(w:World)(o:Gh)(h:Hd UInt8):Prop:=SlB w h.A h.l.length h.c h.l/\∀b f,0<h.l.length->h.A=some ⟨b,f,none⟩->o b=.data
theorem j9.go{h:Hd UInt8}(H:j9 w o h)(m:Mv L o w o' w')(hl:¬L .data):j9 w' o' h :=
 ⟨H.1.fr m.f λb f hn e=>by rw[H.2 b f hn e];exact hl,λb f hn e=>(m.a b (H.1.lt_ hn e)).trans (H.2 b f hn e)⟩
theorem j9.nil:j9 w o ⟨none,0,[]⟩:=⟨SlB.nil w,λ_ _ h=>absurd h zp⟩
end
theorem q1t.set{o:Gh}{l:Lb}{g:Nat}{t:TypeId}(h:q1t w o l g t cs)(i:Nat)(u:Value):q1t (w.setCell ⟨g,i,none⟩ u) o l g t (cs.setIfInBounds i u):=⟨h.1.set_ i u,h.2⟩
theorem Mv.set1{o:Gh}{w1:World}{l:Lb}(hb:bW w w1)(hq:o q=l)(i:Nat)(v:Value):Mv (λy=>y=l) o w o (w1.setCell ⟨q,i,none⟩ v):=⟨(fO hb _).setCell (p:=⟨q,i,none⟩) (λ_=>hq) v,λ_ _=>rfl⟩
theorem Mv.setC{L:Lb->Prop}{o o':Gh}(h:Mv L o w o' w'){q:Nat}(hq:q<w.heap.size->L (o q))(i:Nat)(v:Value):Mv L o w o' (w'.setCell ⟨q,i,none⟩ v):=⟨h.f.setCell (p:=⟨q,i,none⟩) hq v,h.a⟩
theorem zj.ne{e t:TypeId}{sz:Nat}{xs:List Value}{g:Nat}(h:zj w e sz A n c xs)(hb:Blk w g t cs)(ht:e≠t):¬q02 A g:=by intro hk;rcases h.2 with⟨e1,_⟩|⟨g',cap,cur,e1,_,h3,_⟩;{cases e1;cases hk};{cases e1;cases hk;rw[hb]at h3;injection h3 with h3;injection h3 with h3 h4;exact ht h4.symm}
theorem Blk.ne{g g':Nat}{t t':TypeId}{cs':Array Value}(h:Blk w g t cs)(h':Blk w g' t' cs')(ht:t≠t'):g≠g':=by rintro rfl;rw[Blk,h]at h';injection h' with h';injection h' with h1 h2;exact ht h2
theorem zj.head{e:TypeId}{sz:Nat}{xs:List Value}(h:zj w e sz A n c xs)(hn:0<n):∃g,A=some ⟨g,0,none⟩:=by rcases h.2 with⟨_,h⟩|⟨g,cap,cur,e1,_⟩;{omega};{cases e1;exact⟨g,rfl⟩}
theorem q2l{l:List UInt8}(h:SlB w A n c l)(hn:l.length<=1000000) :
  cP 98 #[.slice A n c] w λe w'=>∃(vA:Option Addr) (vc:Nat),e=.returned (.slice vA n vc)/\SlB w' vA n vc l/\(∀b f,vA=some ⟨b,f,none⟩->w.heap.size<=b)/\bW w w':=by refine(q7g h (by have:=h.2;omega)).mono ?_;rintro _ w'⟨v,rfl,h1,h2⟩;obtain⟨A,c,rfl,a1,a2⟩:=SlB.of_own h1;exact⟨A,c,rfl,a1,a2,h2⟩
theorem qmx:ElemOf 357 38 1 24:=q1l (z := nS) zk zk rfl zd zd
def q2r{α:Type}(l:List α)(k:Int):Bool:=decide (0<=k)&&decide (k<l.length)
theorem qr2{α:Type}{l:List α}{k:Int}:q2r l k=true↔0<=k/\k<l.length:=by simp[q2r]
theorem q0o{α:Type}{l:List α}{k:Int}(h:q2r l k=true):∃j:Nat,k=j/\j<l.length:=by obtain⟨h1,h2⟩:=qr2.1 h;obtain⟨j,rfl⟩:=Zf h1;exact⟨j,rfl,zo⟩
inductive Bx where
 |que (l:List (List UInt8)) (d:Int)
 |smp (b:List UInt8) (th fr:Bool)
structure Ps where
 c:Po
 box:Bx
 lost:Int
def zn:Ps:=⟨zS,.smp [] false false,0⟩
def q3q(c:Po):Ps:=⟨c,if c.q then .que [] c.depth else .smp [] false false,0⟩
def q39:Bx->List UInt8->Bx×Bool
 | .que l d,b=>if d<=l.length then(.que l d,false) else(.que (l ++ [b]) d,true)
 | .smp _ _ _,b=>(.smp b true true,true)
def q3a:Bx->List UInt8×Bool×Bx
 | .que [] d=>([],false,.que [] d)
 | .que (b::l) d=>(b,true,.que l d)
 | .smp b th fr=>(b,th,.smp b th fr)
def qa8(l:List Ps)(k:Int)(q inn:Bool):Bool:=q2r l k&&(z6 zn l k.toNat).c.q==q&&(z6 zn l k.toNat).c.inn==inn
def q1m(l:List Ps)(k:Int):Int:=if q2r l k=true then(z6 zn l k.toNat).c.size else 0
def q10(l:List Ps)(k:Int)(q:Bool)(b:List UInt8):Int×List Ps :=
 if qa8 l k q false=false then(3,l)
 else if b.length<1\/(z6 zn l k.toNat).c.size<b.length then(2,l)
 else if(q39 (z6 zn l k.toNat).box b).2=false then(1,l)
 else(0,l.set k.toNat {z6 zn l k.toNat with box:=(q39 (z6 zn l k.toNat).box b).1})
def q44(l:List Ps)(k:Int)(q:Bool):List UInt8×Int×List Ps :=
 if qa8 l k q true=false then([],3,l)
 else if(q3a (z6 zn l k.toNat).box).2.1=false then([],1,l)
 else((q3a (z6 zn l k.toNat).box).1,0,l.set k.toNat {z6 zn l k.toNat with box:=(q3a (z6 zn l k.toNat).box).2.2})
def qbe:Bx->List (List UInt8)×Bx
 | .que l d=>(l,.que [] d)
 | .smp b th true=>([b],.smp b th false)
 | .smp b th false=>([],.smp b th false)
def q0x(l:List Ps)(k:Int):List (List UInt8)×List Ps :=
 if q2r l k=false\/(z6 zn l k.toNat).c.inn=true then([],l)
 else((qbe (z6 zn l k.toNat).box).1,l.set k.toNat {z6 zn l k.toNat with box:=(qbe (z6 zn l k.toNat).box).2})
def q0u(l:List Ps)(k:Int)(b:List UInt8):Bool×List Ps :=
 if q2r l k=false\/(z6 zn l k.toNat).c.inn=false then(false,l)
 else if(q39 (z6 zn l k.toNat).box b).2=false then(false,l.set k.toNat {z6 zn l k.toNat with lost:=wrap64 ((z6 zn l k.toNat).lost+1)})
 else(true,l.set k.toNat {z6 zn l k.toNat with box:=(q39 (z6 zn l k.toNat).box b).1})
def q3r(l:List Ps):List Ps:=l.map λx=>q3q x.c
def qgy(l:List Po):List Ps:=(l.take 8).map q3q
structure Pq where
 c:Pl
 l:List (List UInt8)
structure Sa where
 size:Int
 b:List UInt8
 sh:Bool
structure Se where
 c:Sm
 n:Int
structure Ob where
 sems:List Se
 flags:List Bool
 pools:List Pq
 slates:List Sa
def qn:Se:=⟨qE,0⟩
def qi:Pq:=⟨qD,[]⟩
def qp:Sa:=⟨0,[],false⟩
def q4r(cf:Pt):Ob:=⟨(cf.sems.l.take 4).map λc=>⟨c,c.first⟩,List.replicate (max 0 (min cf.flags 8)).toNat false,(cf.pools.l.take 4).map λc=>⟨c,[]⟩,(cf.slates.l.take 4).map λn=>⟨n,[],false⟩⟩
def q2z(x:Ob)(k:Int):Int×Ob :=
 if q2r x.sems k=false then(3,x) else if(z6 qn x.sems k.toNat).n<1 then(1,x)
 else(0,{x with sems:=x.sems.set k.toNat {z6 qn x.sems k.toNat with n:=wrap64 ((z6 qn x.sems k.toNat).n-1)} })
def q30(x:Ob)(k:Int):Int×Ob :=
 if q2r x.sems k=false then(3,x) else if(z6 qn x.sems k.toNat).c.most<=(z6 qn x.sems k.toNat).n then(6,x)
 else(0,{x with sems:=x.sems.set k.toNat {z6 qn x.sems k.toNat with n:=wrap64 ((z6 qn x.sems k.toNat).n+1)} })
def q29(x:Ob)(k:Int)(up:Bool):Int×Ob:=if q2r x.flags k=false then(3,x) else(0,{x with flags:=x.flags.set k.toNat up})
def qdy(x:Ob)(k:Int):Bool×Int:=if q2r x.flags k=false then(false,3) else(z6 false x.flags k.toNat,0)
def q45(x:Ob)(k:Int)(b:List UInt8):Int×Ob :=
 if q2r x.pools k=false then(3,x) else if ¬(0<b.length/\b.length<=(z6 qi x.pools k.toNat).c.size) then(2,x)
 else if(z6 qi x.pools k.toNat).c.depth<=(z6 qi x.pools k.toNat).l.length then(1,x)
 else(0,{x with pools:=x.pools.set k.toNat {z6 qi x.pools k.toNat with l:=(z6 qi x.pools k.toNat).l ++ [b]} })
def q3b(x:Ob)(k:Int):List UInt8×Int×Ob :=
 if q2r x.pools k=false then([],3,x) else match(z6 qi x.pools k.toNat).l with
  |[]=>([],1,x)
  |b::l=>(b,0,{x with pools:=x.pools.set k.toNat {z6 qi x.pools k.toNat with l:=l} })
def q2a(x:Ob)(k:Int)(b:List UInt8):Int×Ob :=
 if q2r x.slates k=false then(3,x) else if ¬(0<b.length/\b.length<=(z6 qp x.slates k.toNat).size) then(2,x)
 else(0,{x with slates:=x.slates.set k.toNat {z6 qp x.slates k.toNat with b:=b,sh:=true} })
def q35(x:Ob)(k:Int):List UInt8×Int:=if q2r x.slates k=false then([],3) else if(z6 qp x.slates k.toNat).sh=false then([],1) else((z6 qp x.slates k.toNat).b,0)
def q3s(x:Ob)(k:Int):Int×Ob:=if q2r x.slates k=false then(3,x) else(0,{x with slates:=x.slates.set k.toNat {z6 qp x.slates k.toNat with b:=[],sh:=false} })
def q0t(x:Ob)(p s:Int):Int:=if 0<=s then(if q2r x.slates s=true then(z6 qp x.slates s.toNat).size else 0) else if q2r x.pools p=true then(z6 qi x.pools p.toNat).c.size else 0
end Go.Proofs.YtncfcbohiodnnaaGreat
