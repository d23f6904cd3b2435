/- Parts of this seat's claims. -/
import Derived.Test.YtncfcbohiodnnaaGreatW9
import Derived.Test.YtncfcbohiodnnaaGreatWX0
set_option maxRecDepth 100000
set_option maxHeartbeats 6400000
namespace Go.Proofs.YtncfcbohiodnnaaGreat
open Go.RowKit
variable{w w' W wa wo W':World}{c n pt r B j b m mb q base cap id B0:Nat}{A:Option Addr}{a code what:Int}{cs:Array Value}
def q02(A:Option Addr):Nat->Prop:=λk=>A=some ⟨k,0,none⟩
noncomputable instance (A:Option Addr):DecidablePred (q02 A):=λ_=>Classical.propDecidable _
def zj(w:World)(e:TypeId)(sz:Nat)(A:Option Addr)(n c:Nat)(xs:List Value):Prop:=w.ownsRow 0 e sz (.slice A n c) n xs
section
variable{w w':World}{e:TypeId}{sz:Nat}{A:Option Addr}{n c:Nat}{xs:List Value}
theorem zj.nil(w:World)(e:TypeId)(sz:Nat):zj w e sz none 0 0 []:=Qk _ _ _ _
theorem zj.sl(h:zj w e sz A n c xs):Sl w A n c sz xs:=by obtain⟨A',c',e1,e2,_⟩:=Sl.of_own h;cases e1;exact e2
theorem zj.blk(h:zj w e sz A n c xs){k:Nat}(hk:(Value.slice A n c).ownBlock=some k):q02 A k:=by rcases h.2 with⟨e1,_⟩|⟨g,cap,cur,e1,_⟩;{cases e1;cases hk};{cases e1;cases hk;rfl}
theorem zj.fr{S:Nat->Prop}(h:zj w e sz A n c xs)(hf:Fr S w w')(hS:∀k,q02 A k->¬S k):zj w' e sz A n c xs:=q5d h hf λk _ hk=>hS k (h.blk hk)
theorem zj.keep(h:zj w e sz A n c xs)(hf:bW w w'):zj w' e sz A n c xs:=q74 h hf
theorem zj.lt(h:zj w e sz A n c xs){k:Nat}(hk:q02 A k):k<w.heap.size:=by rcases h.2 with⟨e1,_⟩|⟨g,cap,cur,e1,_,h3,_⟩;{cases e1;cases hk};{cases e1;cases hk;exact(Z8.1 h3).1}
theorem zj.of{v:Value}(h:w.ownsRow base e sz v n xs):∃A c,v=.slice A n c/\zj w e sz A n c xs/\∀k,q02 A k->base<=k:=by obtain⟨A,c,rfl,_,h3⟩:=Sl.of_own h;exact⟨A,c,rfl,qcm h (Za _),λk hk=>h3 k 0 hk⟩
end
structure ElemOf(ty e:TypeId)(sz bytes:Nat):Prop where
 u:Tryz.prog.underlying ty=some (.slice e)
 i:∃i z,Tryz.prog.info? e=some i/\i.zero=some z/\i.size=sz/\i.bytes=bytes/\z.cells.size=sz
 p:0<sz
 b:bytes<=1000
theorem q2k{ty e:TypeId}{sz bytes:Nat}(E:ElemOf ty e sz bytes){ops:Array Oper}{rest:List Oper}{o:Oper}{a:Act}{Q:Exit->Act->World->Prop}(w:World)(hgd:o.guard=none)(s x:Operand)
 (ho:o.op=.call {callee := .builtin .append,args:=#[s,x],argTypes:=#[ty,ty]})
 {A:Option Addr}{n c:Nat}{xs:List Value}(hs:a.eval s=.slice A n c)(hown:zj w e sz A n c xs)(cs:Array Value)(hcs:cs.size=sz)(h1:∀u∈cs.toList,u.oneCell'=true)
 (hx:a.eval x=.slice (some ⟨w.heap.size,0,none⟩) 1 1)(hn:n<=100000000000)
 (h:∀A' c' w',zj w' e sz A' (n+1) c' (xs++cs.toList)->Fr (q02 A) w w'->(∀k,q02 A' k->q02 A k\/w.heap.size<=k)->wpList Tryz.prog ops Q rest (a.put o.dst (.slice A' (n+1) c')) w') :
  wpList Tryz.prog ops Q (o::rest) a (w.alloc (.cells cs e)):=by obtain⟨i,z,e1,e2,e3,e4,e5⟩:=E.i;refine q6r w hgd s x ty ho 0 e i z sz bytes E.u e1 e2 e3 e4 e5 E.p E.b _ n xs hs hown cs hcs h1 hx hn (Za _) ?_;intro v' w' a1 a2 a3;obtain⟨A',c',rfl,a4,_⟩:=zj.of a1;refine h A' c' w' a4 ⟨a2.os,a2.tape,a2.output,a2.size,λk hk hn=>a2.block k hk λq=>hn (hown.blk q)⟩ λk hk=>?_;cases hk;rcases a3 with a3|⟨g,a3,a5⟩;{exact .inl (hown.blk a3.symm)};{cases a3;exact .inr a5}
theorem q8a{ty e:TypeId}{sz bytes:Nat}(E:ElemOf ty e sz bytes){o:Oper}{a:Act}{K:Act->World->Prop}{Q:Exit->Act->World->Prop}(w:World)(s x:Operand)
 (ho:o.op=.call {callee := .builtin .append,args:=#[s,x],argTypes:=#[ty,ty]})
 {A:Option Addr}{n c:Nat}{xs:List Value}(hs:a.eval s=.slice A n c)(hown:zj w e sz A n c xs)(h:Nat)(cs:Array Value)(hcs:cs.size=sz)(h1:∀u∈cs.toList,u.oneCell'=true)
 (hblk:Blk w h e cs)(hx:a.eval x=.slice (some ⟨h,0,none⟩) 1 1)(hn:n<=100000000000)
 (H:∀g cap w',zj w' e sz (some ⟨g,0,none⟩) (n+1) cap (xs++cs.toList)->Fr (q02 A) w w'->(q02 A g\/g=w.heap.size)->K (a.put o.dst (.slice (some ⟨g,0,none⟩) (n+1) cap)) w') :
  o.wp Tryz.prog a w K Q:=by obtain⟨i,z,e1,e2,e3,e4,e5⟩:=E.i;refine qbn w s x ty ho 0 e i z sz bytes E.u e1 e2 e3 e4 e5 E.p E.b _ n xs hs hown h cs hcs h1 hblk hx hn (Za _) ?_;intro g cap w' a1 a2 a3;exact H g cap w' a1 ⟨a2.os,a2.tape,a2.output,a2.size,λk hk hn=>a2.block k hk λq=>hn (hown.blk q)⟩ (a3.imp (λq=>hown.blk q) id)
theorem q1l{ty e:TypeId}{z:Value}{sz bytes:Nat}(hu:Tryz.prog.underlying ty=some (.slice e))(h:(Tryz.prog.info? e).map (λi=>(i.zero,i.size,i.bytes))=some (some z,sz,bytes))(hz:z.cells.size=sz)(hp:0<sz)(hb:bytes<=1000):ElemOf ty e sz bytes:=by obtain⟨i0,h0,h1,h2,h3⟩:=Xv h;exact⟨hu,⟨i0,z,h0,h1,h2,h3,hz⟩,hp,hb⟩
theorem q27:ElemOf 29 3 1 8:=q1l (z:=ii 0) zk zk rfl zd zd
theorem q68{e:TypeId}{sz:Nat}{xs:List Value}(hB:bW W w)(_h:zj w e sz A n c xs)(hf:Fr (q02 A) w w')(hA:∀k,q02 A k->W.heap.size<=k):bW W w' :=
 ⟨hf.os.trans hB.os,hf.tape.trans hB.tape,hf.output.trans hB.output,Zb hB.size hf.size,λk hk=>(hf.block k (by have:=hB.size;omega) λq=>by have:=hA k q;omega).trans (hB.block k hk)⟩
def qi2(w:World)(l:List Int)(e:Ending)(w':World):Prop:=∃A c,e=.returned (.slice A l.length c)/\zj w' 3 1 A l.length c (l.map (.int .i64))/\(∀k,q02 A k->w.heap.size<=k)/\bW w w'
theorem qa2{α:Type}(d:α)(f:α->α)(l:List α){k:Nat}(h:k<l.length):((l.take k).map f++l.drop k).set k (f (z6 d l k))=(l.take (k+1)).map f++l.drop (k+1):=by rw[List.set_append_right _ _ aO,drop_atD d l h,Zh,Zq,QF zo,Nat.sub_self,ZW,Zm h,Zk,q0s h];simp
theorem qgs{α:Type}(d:α)(f:α->α)(l:List α){k:Nat}(h:k<l.length):z6 d ((l.take k).map f++l.drop k) k=z6 d l k:=by unfold z6;rw[Z7,Z7,Xc aO,Zh,Zq,QF zo,Nat.sub_self,XK,Qa]
def qd0(l:List Rw):List Rw:=l.map λx=>{x with park:=false}
def qdw(win:Int)(x:Rw):Bool:=x.state==2&&decide (0<=x.wake)&&decide (x.wake<=win)
def qbc(p:Rw->Bool)(l:List Rw)(k:Nat):List Int:=((List.range k).filter λj=>p (z6 zh l j)).map λ(j:Nat)=>(j:Int)
theorem qmo(p:Rw->Bool)(l:List Rw)(k:Nat):qbc p l (k+1)=qbc p l k++(if p (z6 zh l k) then[(k:Int)] else[]):=by unfold qbc;rw[ZY,QE,Zk];cases h:p (z6 zh l k) <;> simp[h]
theorem q99(p:Rw->Bool)(l:List Rw)(k:Nat):(qbc p l k).length<=k:=by unfold qbc;rw[Zh];exact Zb (Qs _ _) zp
section
variable{w:World}{t mb:Nat}{l:List Rw}{tn:Int}(H:TbR w t mb l tn)
include H
theorem qmp:cP 244 #[pp t] w λe w'=>e=.returned (.tuple #[])/\TbR w' t mb (qd0 l) tn/\Fr (qw t mb) w w':=by have hl8:=H.n;have hL:=q7f H;obtain⟨wo,rfl⟩:=aU w;refine zi ?_;go_wp2_with(first|(go_fit hL;rintro _ _⟨rfl,rfl⟩));go_loopw[6] (λi wr=>∃k:Nat,i=.int .i64 k/\k<=l.length/\TbR wr t mb ((l.take k).map (λx=>{x with park:=false})++l.drop k) tn/\Fr (qw t mb) wo wr) (λi _=>l.length-(intOf i).toNat);(case atStart=>exact⟨0,rfl,Za _,by simpa using H,Fr.refl _ _⟩);case round=>clear hL;obtain⟨k,rfl,hkn,h',hF⟩:=hrel;by_cases hk:k<l.length;{have hx:=qgs zh (λx:Rw=>{x with park:=false}) l hk;have hs:=qa2 zh (λx:Rw=>{x with park:=false}) l hk;have hm:((l.take k).map (λx:Rw=>{x with park:=false})++l.drop k).length=l.length:=aO;generalize(l.take k).map (λx:Rw=>{x with park:=false})++l.drop k=m at*;have h0:=qa0 h'.km zo (show k<m.length by omega) false;have hw1:=iW k;rw[hx]at h0;generalize z6 zh l k=x at*;simp only[Rw.v,Z0 (show ¬(false=true) by simp)]at h0;obtain⟨tc,lt⟩:=h'.kt.cl;have HS:=zhd hs;clear hs hx;go_upto_region 5 with fail;have b9:bW wr (wr.alloc (.cells #[ii x.c.prio,ii x.c.per,ii x.c.cost,ii x.call,ii x.what,ii x.wake,ii x.state,ii x.prio,ii x.turn,ii x.next,.bool false] 309)):=zv;have kb:=Blk.new wr 309 #[ii x.c.prio,ii x.c.per,ii x.c.cost,ii x.call,ii x.what,ii x.wake,ii x.state,ii x.prio,ii x.turn,ii x.next,.bool false];generalize wr.alloc (.cells #[ii x.c.prio,ii x.c.per,ii x.c.cost,ii x.call,ii x.what,ii x.wake,ii x.state,ii x.prio,ii x.turn,ii x.next,.bool false] 309)=w2 at*;obtain⟨w3,h1,h3,f3⟩:=h'.upd b9 (show k<m.length by omega) {x with park:=false};clear h0 tc lt;have kc:=kb.cell;obtain⟨tc,lt⟩:=(h'.keep b9).kt.cl;have lg:=kb.lt;simp only[Rw.v]at h1;go_still_tail 6,zk;go_wp2;exact⟨⟨k+1,by go_num,hk,by rw[HS.out]at h3;exact h3,hF.trans f3⟩,by simp[intOf];omega⟩};{obtain rfl:k=l.length:=zo;go_wp2;go_returns;rw[ZF,Xf,ZG]at h';exact⟨rfl,h',hF⟩}
theorem qqo{win:Int}:cP 295 #[pp t,ii win] w λe w'=>qi2 w (qbc (qdw win) l l.length) e w':=by have hl8:=H.n;have hL:=q7f H;have hn:=H.n;obtain⟨wo,rfl⟩:=aU w;refine zi ?_;go_wp2_with(first|(go_fit hL;rintro _ _⟨rfl,rfl⟩));go_loopw[5,10] (λv i wr=>∃(k:Nat) (A:Option Addr) (c:Nat),i=.int .i64 k/\k<=l.length/\v=.slice A (qbc (qdw win) l k).length c/\zj wr 3 1 A (qbc (qdw win) l k).length c ((qbc (qdw win) l k).map (.int .i64))/\(∀k,q02 A k->wo.heap.size<=k)/\bW wo wr) (λ_ i _=>l.length-(intOf i).toNat);(case atStart=>exact⟨0,none,0,rfl,Za _,rfl,zj.nil _ _ _,(λk h=>by cases h),bR⟩);case round=>clear hL;obtain⟨k,A,c,rfl,hkn,rfl,hO,hA,hB⟩:=hrel;by_cases hk:k<l.length;{have h':=H.keep hB;have h0:=qa0 h'.km zo hk false;have hw1:=iW k;have hsz:=hB.size;have hi:=q99 (qdw win) l k;have hs:=qmo (qdw win) l k;generalize z6 zh l k=x at*;simp only[Rw.v,Z0 (show ¬(false=true) by simp)]at h0;obtain⟨tc,lt⟩:=h'.kt.cl;rw[show qdw win x=(x.state==2&&decide (0<=x.wake)&&decide (x.wake<=win)) from rfl]at hs;generalize qbc (qdw win) l k=y at*;by_cases q:(x.state==2&&decide (0<=x.wake)&&decide (x.wake<=win))=true;{have HS:=zhd (hs.trans (by rw[Z1 q]));clear hs;obtain⟨⟨q1,q2⟩,q3⟩:=(by simpa using q:(x.state=2/\0<=x.wake)/\x.wake<=win);clear q;have b1:(x.state==2)=true:=by{simp[q1]};have b2:decide (0<=x.wake)=true:=by{simp[q2]};have b3:decide (x.wake<=win)=true:=by{simp[q3]};clear q1 q2 q3;go_upto_region 7 with fail;have b9:bW wr (wr.alloc (.cells #[ii x.c.prio,ii x.c.per,ii x.c.cost,ii x.call,ii x.what,ii x.wake,ii x.state,ii x.prio,ii x.turn,ii x.next,.bool x.park] 309)):=zv;generalize wr.alloc (.cells #[ii x.c.prio,ii x.c.per,ii x.c.cost,ii x.call,ii x.what,ii x.wake,ii x.state,ii x.prio,ii x.turn,ii x.next,.bool x.park] 309)=w2 at*;have B2:=bt hB b9;go_wp2_with(at_builtin;refine q2k q27 w2 zr _ _ zr zr (hO.keep b9) #[ii k] rfl aE zr zo ?_;intro A' c' w4 hown4 hf4 hat4);refine⟨⟨k+1,A',c',by go_num,hk,by rw[HS.out];simp,by rw[HS.out];simpa using hown4,λk hk=>(hat4 k hk).elim (hA k) (λh=>Zb B2.size h),q68 B2 (hO.keep b9) hf4 hA⟩,by simp[intOf];omega⟩};{have HS:=zhd (hs.trans (by rw[Z0 q,ZG]));have b1:(x.state==2&&decide (0<=x.wake)&&decide (x.wake<=win))=false:=by{simpa using q};clear hs q;cases b2:(x.state==2) <;> rw[b2]at b1 <;> cases b3:decide (0<=x.wake) <;> rw[b3]at b1 <;> simp only[XO,Bool.false_and]at b1;all_goals(go_wp2_with fail;refine⟨⟨k+1,A,c,by go_num,hk,by rw[HS.out],by rw[HS.out];exact hO.keep zv,hA,bt hB zv⟩,by simp[intOf];omega⟩)}};{obtain rfl:k=l.length:=zo;go_wp2;go_returns;exact⟨A,c,rfl,hO,hA,hB⟩}
end
end Go.Proofs.YtncfcbohiodnnaaGreat
