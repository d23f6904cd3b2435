/- Parts of this seat's claims. -/
import Derived.Test.YtncfcbohiodnnaaGreatWX23
set_option maxRecDepth 100000
set_option maxHeartbeats 6400000
namespace Go.Proofs.YtncfcbohiodnnaaGreat
open Go.RowKit
variable{w w' W wa wo W':World}{c n pt r B j b m mb q base cap id B0:Nat}{A:Option Addr}{a code what:Int}{cs:Array Value}
structure ExE(s s':Ce):Prop where
 cf:s'.cf=s.cf
 pa:s'.part=s.part
 ev:∃l,s'.evs=s.evs++l/\q3g s.cf.acts.l s.part l
theorem ExE.of{s s':Ce}(h1:s'.cf=s.cf)(h2:s'.part=s.part)(h3:s'.evs=s.evs):ExE s s':=⟨h1,h2,[],by simp[h3],trivial⟩
theorem ExE.refl(s:Ce):ExE s s:=ExE.of rfl rfl rfl
theorem ExE.trans{a b c:Ce}(h:ExE a b)(k:ExE b c):ExE a c:=by obtain⟨l,h1,h2⟩:=h.ev;obtain⟨m,k1,k2⟩:=k.ev;rw[h.cf,h.pa]at k2;exact⟨k.cf.trans h.cf,k.pa.trans h.pa,l++m,by rw[k1,h1,ZU],h2.app k2⟩
theorem Ext.e{s s':Ce}(h:Ext n s s'):ExE s s':=by obtain⟨l,h1,_,h3⟩:=h.ev;exact⟨h.cf,h.pa,l,h1,h3⟩
theorem qp0(s:Ce)(n:Int):ExE s (qb3 s n):=by unfold qb3;split;{exact ExE.refl s};{rename_i hr;have hw:¬q06 s<0:=λq=>by{have:q58 s=0:=Z1 q;unfold q5x at hr;omega};have hk:(q06 s).toNat<s.tab.length:=by{unfold q06 at hw⊢;split at hw;{omega};{rename_i h;rw[Z0 h];have:=q69 q4n s.tab s.tab.length;unfold q7h at hw⊢;omega}};dsimp only;have h1:ExE s (q0q s (q06 s).toNat (q5x s n)):=ExE.of rfl rfl rfl;have h0:(q0q s (q06 s).toNat (q5x s n)).slk≠none:=by{simp[q0q]};have h5:(q0q s (q06 s).toNat (q5x s n)).tab=s.tab:=rfl;generalize q0q s (q06 s).toNat (q5x s n)=s1 at*;refine h1.trans ?_;split;{have h2:ExE s1 (q1d s1 (q06 s).toNat ((z6 za s1.tk (q06 s).toNat).set ((z6 za s1.tk (q06 s).toNat).at_+1))):=ExE.of rfl rfl rfl;have h4:(q1d s1 (q06 s).toNat ((z6 za s1.tk (q06 s).toNat).set ((z6 za s1.tk (q06 s).toNat).at_+1))).slk≠none:=h0;have h6:(q1d s1 (q06 s).toNat ((z6 za s1.tk (q06 s).toNat).set ((z6 za s1.tk (q06 s).toNat).at_+1))).tab=s.tab:=h5;generalize q1d s1 (q06 s).toNat ((z6 za s1.tk (q06 s).toNat).set ((z6 za s1.tk (q06 s).toNat).at_+1))=s2 at*;have h3:=q9k (s:=s2) (k:=(q06 s).toNat) (y:=(z6 za s1.tk (q06 s).toNat).step) (by rw[h6];exact hk) h4;exact h2.trans (h3.e.trans (q17 (h3.slk h4)).e)};{exact(q17 h0).e}}
theorem qau(s:Ce):ExE s (q2g s):=by have h1:ExE s (beginS s):=ExE.of rfl rfl rfl;have h0:(beginS s).slk≠none:=by{simp[beginS]};show ExE s (if(beginS s).mode≠3 then beginS s else q2n (q36 (qn2 (q0c (beginS s)))));generalize beginS s=s1 at*;split;{exact h1};{have e1:=q64 s1;have e2:=q7y (q0c s1) 8;have e3:=q2u q9h (qbc (qdw ((List.range 8).foldl q4g (q0c s1)).win) ((List.range 8).foldl q4g (q0c s1)).tab ((List.range 8).foldl q4g (q0c s1)).tab.length) ((List.range 8).foldl q4g (q0c s1));have e:=(e1.trans e2).trans e3;exact h1.trans (e.e.trans (q17 (e.slk h0)).e)}
theorem qp1(cf:Pt)(k:Int)(progs:List (List St)):(q8b cf k progs).cf=cf/\(q8b cf k progs).part=k/\(q8b cf k progs).evs = []:=by have h:=q6g (f:=λs k=>q0m s k 0) (λs k=>q4t s k 0) (qab cf k progs) (qd1 cf.procs.l).length;obtain⟨l,h1,h2,_⟩:=h.ev;have:l = []:=QT.1 zo;subst this;exact⟨h.cf,h.pa,by rw[show q8b cf k progs=_ from rfl];rw[q8b,h1];rfl⟩
theorem q6j{α:Type}(z:α)(l:List α)(p q:Nat)(v:α)(hp:p<l.length):z6 z (l.set p v) q=if q=p then v else z6 z l q:=Me.atD_set _ _ _ _ _ hp
structure CsP(p:Nat)(s s':Sy):Prop where
 n:s'.cs.length=s.cs.length
 e:ExE (z6 z9 s.cs p) (z6 z9 s'.cs p)
 o:∀q,q≠p->z6 z9 s'.cs q=z6 z9 s.cs q
 ev:s'.evs=s.evs
 sn:s'.seen=s.seen
theorem CsP.refl(p:Nat)(s:Sy):CsP p s s:=⟨rfl,ExE.refl _,λ_ _=>rfl,rfl,rfl⟩
theorem CsP.trans{p:Nat}{a b c:Sy}(h:CsP p a b)(k:CsP p b c):CsP p a c:=⟨k.n.trans h.n,h.e.trans k.e,λq hq=>(k.o q hq).trans (h.o q hq),k.ev.trans h.ev,k.sn.trans h.sn⟩
theorem CsP.set{p:Nat}{s s':Sy}{c:Ce}(hp:p<s.cs.length)(he:ExE (z6 z9 s.cs p) c)(h:s'.cs=s.cs.set p c)(h1:s'.evs=s.evs)(h2:s'.seen=s.seen):CsP p s s':=by refine⟨by rw[h,Zd],?_,λq hq=>?_,h1,h2⟩;{rw[h,q6j _ _ _ _ _ hp,Z1 rfl];exact he};{rw[h,q6j _ _ _ _ _ hp,Z0 hq]}
theorem qdp(cf:Cf){p:Nat}(en:Int):∀(n:Nat) (s:Sy),p<s.cs.length->CsP p s (q3e cf p en n s)
 |0,s,_=>CsP.refl p s
 |n+1,s,hp=>by unfold q3e;split;{exact CsP.refl p s};{have h:CsP p s (q5z cf p en s):=CsP.set hp (qp0 _ _) rfl rfl rfl;exact h.trans (qdp cf en n _ (by rw[h.n];exact hp))}
structure EvI(cf:Cf)(s:Sy):Prop where
 n:s.cs.length=cf.parts.l.length
 sn:s.seen.length=cf.parts.l.length
 c:∀p,p<cf.parts.l.length->(z6 z9 s.cs p).cf=z6 ze cf.parts.l p/\(z6 z9 s.cs p).part=p/\q3g (z6 ze cf.parts.l p).acts.l p (z6 z9 s.cs p).evs
 f:∀p:Nat,p<cf.parts.l.length->s.evs.filter (λe=>e.part==(p:Int))=(z6 z9 s.cs p).evs
 z:∀p,p<cf.parts.l.length->s.seen.getD p 0=(z6 z9 s.cs p).evs.length
 r:∀e∈s.evs,0<=e.part/\e.part<cf.parts.l.length
theorem q3g.parts{acts:List Int}{pt:Int}:∀ {l:List Ev},q3g acts pt l->∀e∈l,e.part=pt
 |[],_,e,h=>absurd h ZB
 |[v],h,e,he=>by rw[Zc.1 he];exact h.2
 |v::u::l,h,e,he=>by rcases Zx.1 he with rfl|he;{exact h.1.2};{exact q3g.parts h.2 e he}
theorem EvI.collect{cf:Cf}{s s1:Sy}{p:Nat}(I:EvI cf s)(hp:p<cf.parts.l.length)(h:CsP p s s1):EvI cf (q2t s1 p):=by have hp1:p<s1.cs.length:=by{rw[h.n,I.n];exact hp};obtain⟨l,e1,e2⟩:=h.e.ev;obtain⟨c1,c2,c3⟩:=I.c p hp;rw[c1,c2]at e2;have hl:=e2.parts;have hd:(z6 z9 s1.cs p).evs.drop (s1.seen.getD p 0)=l:=by{rw[h.sn,I.z p hp,e1,List.drop_left]};have h0:(q2t s1 p).evs=s.evs++l:=by{unfold q2t;dsimp only;rw[hd,h.ev]};refine⟨?_,?_,λq hq=>?_,λq hq=>?_,λq hq=>?_,λe he=>?_⟩;{exact h.n.trans I.n};{unfold q2t;dsimp only;rw[Zd,h.sn];exact I.sn};{show(z6 z9 s1.cs q).cf=_/\(z6 z9 s1.cs q).part=_/\q3g _ _ (z6 z9 s1.cs q).evs;by_cases e:q=p;{subst e;exact⟨h.e.cf.trans c1,h.e.pa.trans c2,by rw[e1];exact c3.app e2⟩};{rw[h.o q e];exact I.c q hq}};{rw[h0,QE,I.f q hq];show _=(z6 z9 s1.cs q).evs;by_cases e:q=p;{subst e;rw[e1,List.filter_eq_self.2 (λx hx=>by simp[hl x hx])]};{rw[h.o q e,List.filter_eq_nil_iff.2 (λx hx=>by simp[hl x hx];omega),ZG]}};{show(s1.seen.set p (z6 z9 s1.cs p).evs.length).getD q 0=(z6 z9 s1.cs q).evs.length;have hs:p<s1.seen.length:=by{rw[h.sn,I.sn];exact hp};rw[Z7,Qw];by_cases e:q=p;{subst e;simp[hs]};{rw[Z0 (λe'=>e e'.symm),h.o q e,h.sn,<- Z7,I.z q hq]}};{rw[h0]at he;rcases ZE.1 he with he|he;{exact I.r e he};{rw[hl e he];omega}}
theorem EvI.work{cf:Cf}{s:Sy}{p:Nat}(I:EvI cf s)(hp:p<cf.parts.l.length)(en:Int):EvI cf (q5i cf s p en):=by have h0:p<s.cs.length:=by{rw[I.n];exact hp};have h1:CsP p s {s with cs:=s.cs.set p (q2g (z6 z9 s.cs p)),g:=qf4 s.g}:=CsP.set h0 (qau _) rfl rfl rfl;exact I.collect hp (h1.trans (qdp cf en _ _ (by rw[h1.n];exact h0)))
structure SmE(a b:List Ce):Prop where
 n:b.length=a.length
 e:∀q,∃l,z6 z9 b q=setPts (z6 z9 a q) l
theorem SmE.refl(a:List Ce):SmE a a:=⟨rfl,λ_=>⟨_,rfl⟩⟩
theorem SmE.trans{a b c:List Ce}(h:SmE a b)(k:SmE b c):SmE a c:=⟨k.n.trans h.n,λq=>by obtain⟨l,e⟩:=h.e q;obtain⟨m,f⟩:=k.e q;exact⟨m,by rw[f,e];rfl⟩⟩
theorem SmE.set(a:List Ce)(p:Nat)(l:List Ps):SmE a (a.set p (setPts (z6 z9 a p) l)):=by refine⟨Zd,λq=>?_⟩;by_cases hp:p<a.length;{rw[q6j _ _ _ _ _ hp];by_cases e:q=p;{subst e;rw[Z1 rfl];exact⟨_,rfl⟩};{rw[Z0 e];exact⟨_,rfl⟩}};{rw[ZN zo];exact⟨_,rfl⟩}
theorem SmE.deliver(cf:Cf)(a:List Ce)(m:Mg):SmE a (q0v cf a m):=by unfold q0v;split;{exact SmE.refl a};{dsimp only;split;{exact SmE.refl a};{exact SmE.set a _ _}}
theorem SmE.fold(cf:Cf):∀(l:List Mg) (a:List Ce),SmE a (l.foldl (q0v cf) a)
 |[],a=>SmE.refl a
 |m::l,a=>(SmE.deliver cf a m).trans (SmE.fold cf l _)
theorem EvI.same{cf:Cf}{s s':Sy}(I:EvI cf s)(h:SmE s.cs s'.cs)(h1:s'.evs=s.evs)(h2:s'.seen=s.seen):EvI cf s':=by refine⟨h.n.trans I.n,by rw[h2];exact I.sn,λq hq=>?_,λq hq=>?_,λq hq=>?_,by rw[h1];exact I.r⟩;{obtain⟨l,e⟩:=h.e q;rw[e];exact I.c q hq};{obtain⟨l,e⟩:=h.e q;rw[h1,e];exact I.f q hq};{obtain⟨l,e⟩:=h.e q;rw[h2,e];exact I.z q hq}
theorem EvI.slot{cf:Cf}{s:Sy}{x:Wn}(I:EvI cf s)(h0:0<=x.part)(h1:x.part<cf.parts.l.length)(at_:Int)(r:Bool):EvI cf (qbf cf s x at_ r):=by unfold qbf;dsimp only;have I1:EvI cf (q1w {s with g:=q2p cf.pw s.g (wrap64 (at_+x.start))} (wrap64 (at_+x.start)) x.part):=I.same (SmE.refl _) rfl rfl;generalize q1w {s with g:=q2p cf.pw s.g (wrap64 (at_+x.start))} (wrap64 (at_+x.start)) x.part=s1 at*;have I2:EvI cf (if r=true then s1 else q5i cf s1 x.part.toNat (wrap64 (wrap64 (at_+x.start)+x.len))):=by{split;{exact I1};{exact I1.work zo _}};generalize(if r=true then s1 else q5i cf s1 x.part.toNat (wrap64 (wrap64 (at_+x.start)+x.len)))=s2 at*;have I3:EvI cf (q1w {s2 with g:=q2p cf.pw s2.g (wrap64 (wrap64 (at_+x.start)+x.len))} (wrap64 (wrap64 (at_+x.start)+x.len)) (-1)):=I2.same (SmE.refl _) rfl rfl;split;{exact I3};{exact I3.same ((SmE.set _ _ _).trans (SmE.fold cf _ _)) rfl rfl}
theorem EvI.slots{cf:Cf}{p:Ca.Pg}:∀(l:List Wn) {s:Sy},EvI cf s->(∀x∈l,0<=x.part/\x.part<cf.parts.l.length)->EvI cf (l.foldl (q4e cf p) s)
 |[],_,I,_=>I
 |x::l,s,I,h=>EvI.slots l (I.slot (h x zp).1 (h x zp).2 _ _) (λy hy=>h y (by simp[hy]))
theorem EvI.frame{cf:Cf}{s:Sy}{p:Ca.Pg}{f:Fm}(I:EvI cf s)(h:∀x∈(z6 zq cf.modes.l p.mode.toNat).wins.l,0<=x.part/\x.part<cf.parts.l.length):EvI cf (q1x cf s p f) :=
 (EvI.slots _ (I.same (s':=qna cf s f) (SmE.refl _) rfl rfl) h).same (SmE.refl _) rfl rfl
theorem EvI.run{cf:Cf}:∀(l:List (Ca.Pg×Fm)) {s:Sy},EvI cf s->(∀y∈l,∀x∈(z6 zq cf.modes.l y.1.mode.toNat).wins.l,0<=x.part/\x.part<cf.parts.l.length)->EvI cf (qdz cf s l)
 |[],_,I,_=>I
 |y::l,s,I,h=>EvI.run l (I.frame (h y zp)) (λz hz=>h z (by simp[hz]))
theorem q3g.next{acts:List Int}{pt:Int}:∀ {l:List Ev},q3g acts pt l->∀k,k<l.length->qxb (z6 xe l k)->k+1<l.length/\qvz acts (z6 xe l k) (z6 xe l (k+1))
 |[],_,k,hk,_=>by simp at hk
 |[v],h,k,hk,hb=>by obtain rfl:k=0:=by{simpa using hk};exact absurd hb h.1
 |v::u::l,h,k,hk,hb=>by cases k with|zero=>{exact⟨zp,h.1.1 hb⟩}|succ k=>{have:=q3g.next h.2 k (by simpa using hk) hb;exact⟨by simpa using this.1,this.2⟩}
theorem qp2:∀(l:List Sp) (x:Pn),i64 x.now->i64 (qT x l).2.now
 |[],_,h=>h
 |s::l,x,h=>by unfold qT;split;{exact qp2 l _ (q3v _)};{exact h}
theorem q4v(x:Pn)(l:List Sp)(h:i64 x.now):i64 (q0r x l).2.now:=by unfold q0r;split;{exact qp2 l x h};{exact h}
theorem qp3(c:Pw)(x:Pn)(u:Int)(h:i64 x.now):i64 (q7k c x u).2.now:=by unfold q7k;split;{exact h};{split;{exact h};{dsimp only;split <;> exact q4v _ _ h}}
theorem qj3(c:Pw)(x:Pn)(u:Int):(q7k c x u).2.level=x.level:=by unfold q7k;split;{rfl};{split;{rfl};{dsimp only;split <;> exact q80 _ _}}
theorem qg1(c:Pw)(x:Pn)(k:Int)(h:i64 x.now):i64 (turnS c x k).2.now:=by unfold turnS;by_cases h1:k<0\/(c.levels.l.length:Int)<=k;{rw[Z1 h1];exact h};rw[Z0 h1];by_cases h2:k=x.level;{rw[Z1 h2];exact h};rw[Z0 h2];by_cases h3:(q0r x [⟨3,0,c.change,c.sw⟩]).1=0;{rw[Z1 h3];exact q4v _ _ h};{rw[Z0 h3];exact q4v _ _ h}
theorem qsw(c:Pw)(x:Pn)(k n d:Int)(h:i64 x.now):i64 (qex c x k n d).2.now:=by unfold qex;split;{exact h};{split;{exact h};{dsimp only;split <;> exact q4v _ _ h}}
theorem qp4(c:Pw)(x:Pn)(k n d:Int):(qex c x k n d).2.level=x.level:=by unfold qex;split;{rfl};{split;{rfl};{dsimp only;split <;> exact q80 _ _}}
theorem qsx(c:Pw)(x:Pn)(k n:Int)(h:i64 x.now):i64 (qi9 c x k n).2.now:=by unfold qi9;split;{exact h};{split;{exact h};{split <;> exact q4v _ _ h}}
theorem qp5(c:Pw)(x:Pn)(k n:Int):(qi9 c x k n).2.level=x.level:=by unfold qi9;split;{rfl};{split;{rfl};{split <;> exact q80 _ _}}
theorem qhm(s:Gv):(q05 s).2.pl=s.pl/\(q05 s).2.base=s.base/\(q05 s).2.done=s.done:=by unfold q05;split <;> exact⟨rfl,rfl,rfl⟩
theorem GvI.choose{c:Pw}{s:Gv}(I:GvI c s):GvI c (q05 s).2:=by obtain⟨h1,h2,h3⟩:=qhm s;exact⟨by rw[h1];exact I.now,by rw[h2];exact I.base,by rw[h3];exact I.done,by rw[h1];exact I.l0,by rw[h1];exact I.l1⟩
theorem GvI.wait{c:Pw}{s:Gv}(I:GvI c s)(u:Int):GvI c (q2p c s u):=by rw[qiz];split;{exact I};{have hA:GvI c (qot c s u):=by{unfold qot;split;{have J:=I.choose;exact⟨qsw _ _ _ _ _ J.now,J.base,J.done,by dsimp only;rw[qp4];exact J.l0,by dsimp only;rw[qp4];exact J.l1⟩};{exact I.choose}};unfold qsm;split;{exact⟨qp3 _ _ _ hA.now,hA.base,hA.done,by dsimp only;rw[qj3];exact hA.l0,by dsimp only;rw[qj3];exact hA.l1⟩};{exact hA}}
theorem GvI.sync{c:Pw}{s:Gv}(I:GvI c s):GvI c (qf4 s):=⟨I.now,I.now,by simp[qf4,i64],I.l0,I.l1⟩
theorem GvI.run{c:Pw}{s:Gv}(I:GvI c s)(part n l en:Int):GvI c (qtx c s part n l en):=by rw[qox];have J:=I.choose;have hT:GvI c (q42 c (q05 s).2 (q7m c s l en)):=by{have hl:=q81 (c:=c) (q7m c s l en) J.l0 J.l1;unfold q42 at hl⊢;split at hl;{rename_i h;rw[Z1 h];exact⟨qg1 _ _ _ J.now,qg1 _ _ _ J.now,by simp[i64],hl.1,hl.2⟩};{rename_i h;rw[Z0 h];exact J}};exact⟨qsx _ _ _ _ hT.now,hT.base,q3v _,by unfold qzy;dsimp only;rw[qp5];exact hT.l0,by unfold qzy;dsimp only;rw[qp5];exact hT.l1⟩
structure CeI(W:World)(s:Ce):Prop where
 H:Sta W s
 l:s.tab.length=s.tk.length
 h0:0<s.cf.procs.l.length
 h1:s.cf.procs.l.length<=1000
 hh:s.tk.length<=s.cf.procs.l.length
 z:Sz s
theorem CeI.ext{s s':Ce}(I:CeI W s)(E:Ext n s s'):CeI W s':=⟨E.sta I.H,by rw[E.tb,E.tk];exact I.l,by rw[E.cf];exact I.h0,by rw[E.cf];exact I.h1,by rw[E.tk,E.cf];exact I.hh,E.z I.z⟩
theorem CeI.beginS{s:Ce}(I:CeI W s):CeI W (beginS s):=by have h1:(Go.Proofs.YtncfcbohiodnnaaGreat.beginS s).tk.length=s.tk.length:=by{simp[Go.Proofs.YtncfcbohiodnnaaGreat.beginS]};have h2:(Go.Proofs.YtncfcbohiodnnaaGreat.beginS s).tab.length=s.tab.length:=by{simp[Go.Proofs.YtncfcbohiodnnaaGreat.beginS,qd0]};exact⟨⟨I.H.cf,I.H.dp,by rw[h1];exact I.H.n8,I.H.p8⟩,by rw[h1,h2];exact I.l,I.h0,I.h1,by rw[h1];exact I.hh,⟨I.z.p,I.z.q,I.z.l,I.z.cq,I.z.cl⟩⟩
theorem qav{s:Ce}(I:CeI W s):Ext 200 (beginS s) (q2g s):=by have J:=I.beginS;have h5:(beginS s).slk≠none:=by{simp[beginS]};show Ext 200 (beginS s) (if(beginS s).mode≠3 then beginS s else q2n (q36 (qn2 (q0c (beginS s)))));generalize beginS s=s1 at*;split;{exact(Ext.refl s1).mono zo};{have e1:=q64 s1;have e2:=q7y (q0c s1) 8;have h0:=e1.trans e2;have e3:=q2u q9h (qbc (qdw ((List.range 8).foldl q4g (q0c s1)).win) ((List.range 8).foldl q4g (q0c s1)).tab ((List.range 8).foldl q4g (q0c s1)).tab.length) ((List.range 8).foldl q4g (q0c s1));have e:=h0.trans e3;have e9:=q17 (e.slk h5);have h2:=h0.tb;have h1:=Zb (q99 (qdw ((List.range 8).foldl q4g (q0c s1)).win) ((List.range 8).foldl q4g (q0c s1)).tab ((List.range 8).foldl q4g (q0c s1)).tab.length) (Xd h2);have h3:=e.tk;have h4:=e1.tb;have h8:=J.H.n8;have hl:=J.l;refine(e.trans e9).mono ?_;rw[h3,h4];omega}
theorem qp6{o:Gh}{s:Ce}(I:CeI W s)(B:Bas W w o)(h:s.evs.length+200+n<=99999990000):Rdy W w o (q2g s) n/\(q2g s).sk.room=max 0 s.cf.cap:=by have E:=qav I;have J:=I.beginS;have hd:=qit I.hh;have K:=J.ext E;have hl:=E.len;have he:(beginS s).evs=s.evs:=rfl;rw[he]at hl;refine⟨⟨K.H,B,K.l,E.slk hd.2.1,by rw[E.tk,E.sh];exact hd.2.2,zo,E.dn J.l hd.1,K.z,by rw[E.tk,E.cf];exact J.hh⟩,?_⟩;rw[E.sr];rfl
structure RoomI(s:Ce):Prop where
 a:0<=s.sk.room
 b:s.sk.room<=2000000000
theorem qzd(a b:Int):i64 (qtr a b):=by unfold qtr;split;{simp[i64]};{split;{simp[i64]};{exact q3v _}}
theorem qu6:∀(l:List Int) (z:Int),i64 z->i64 (l.foldl qtr z)
 |[],_,h=>h
 |a::l,z,_=>qu6 l _ (qzd z a)
theorem qwf{s:Ce}(h:RoomI s):i64 (qgz s):=by unfold qgz;split;{simp[i64]};{unfold qgu;have h1:=qu6 (qdx s.sk s.sk.has.length) 0 (by simp[i64]);have h2:=h.a;have h3:=h.b;unfold i64 at h1⊢;omega}
theorem qj4{s:Ce}(h:RoomI s){n:Int}(h1:¬q5x s n<1):(qb3 s n).sk.room=s.sk.room-q5x s n/\q5x s n<=s.sk.room:=by have hw:¬q06 s<0:=λq=>by{have:q58 s=0:=Z1 q;unfold q5x at h1;omega};have hk:(q06 s).toNat<s.tab.length:=by{unfold q06 at hw⊢;split at hw;{omega};{rename_i h;rw[Z0 h];have:=q69 q4n s.tab s.tab.length;unfold q7h at hw⊢;omega}};have h5:q5x s n<=q58 s:=by{unfold q5x;omega};have h9:q58 s=min (min (z6 za s.tk (q06 s).toNat).rest (z7 s.sk.has (q06 s).toNat)) s.sk.room:=Z0 hw;rw[h9]at h5;generalize hm:q5x s n=m at*;have h0:(q0q s (q06 s).toNat m).sk.room=s.sk.room-m:=by{show(q21 s.sk (q06 s).toNat m).2.room=_;unfold q21;rw[Z0 h1];dsimp only;have ha:=h.a;have hb:=h.b;have:min m (min s.sk.room (z7 s.sk.has (q06 s).toNat))=m:=zo;rw[this];unfold wrap64;omega};refine⟨?_,zo⟩;unfold qb3;rw[hm,Z0 h1];dsimp only;have h2:(q0q s (q06 s).toNat m).slk≠none:=by{simp[q0q]};have h7:(q0q s (q06 s).toNat m).tab=s.tab:=rfl;generalize q0q s (q06 s).toNat m=s1 at*;split;{have h4:(q1d s1 (q06 s).toNat ((z6 za s1.tk (q06 s).toNat).set ((z6 za s1.tk (q06 s).toNat).at_+1))).slk≠none:=h2;have h8:(q1d s1 (q06 s).toNat ((z6 za s1.tk (q06 s).toNat).set ((z6 za s1.tk (q06 s).toNat).at_+1))).tab=s.tab:=h7;have h6:(q1d s1 (q06 s).toNat ((z6 za s1.tk (q06 s).toNat).set ((z6 za s1.tk (q06 s).toNat).at_+1))).sk.room=s1.sk.room:=rfl;generalize q1d s1 (q06 s).toNat ((z6 za s1.tk (q06 s).toNat).set ((z6 za s1.tk (q06 s).toNat).at_+1))=s2 at*;have h3:=q9k (s:=s2) (k:=(q06 s).toNat) (y:=(z6 za s1.tk (q06 s).toNat).step) (by rw[h8];exact hk) h4;rw[(q17 (h3.slk h4)).sr,h3.sr,h6,h0]};{rw[(q17 h2).sr,h0]}
theorem qp7{s:Ce}(h8:s.tk.length<=8)(hl:s.tab.length=s.tk.length){n:Int}(h1:¬q5x s n<1):(qb3 s n).evs.length<=s.evs.length+21:=by have hw:¬q06 s<0:=λq=>by{have:q58 s=0:=Z1 q;unfold q5x at h1;omega};have hk:(q06 s).toNat<s.tab.length:=by{unfold q06 at hw⊢;split at hw;{omega};{rename_i h;rw[Z0 h];have:=q69 q4n s.tab s.tab.length;unfold q7h at hw⊢;omega}};generalize hm:q5x s n=m at*;unfold qb3;rw[hm,Z0 h1];dsimp only;have h0:(q0q s (q06 s).toNat m).slk≠none:=by{simp[q0q]};have hb:(q0q s (q06 s).toNat m).tab=s.tab:=rfl;have h9:(q0q s (q06 s).toNat m).evs=s.evs:=rfl;have ha:(q0q s (q06 s).toNat m).tk.length=s.tk.length:=by{simp[q0q]};generalize q0q s (q06 s).toNat m=s1 at*;split;{have h2:(q1d s1 (q06 s).toNat ((z6 za s1.tk (q06 s).toNat).set ((z6 za s1.tk (q06 s).toNat).at_+1))).slk≠none:=h0;have h7:(q1d s1 (q06 s).toNat ((z6 za s1.tk (q06 s).toNat).set ((z6 za s1.tk (q06 s).toNat).at_+1))).tab=s.tab:=hb;have hc:(q1d s1 (q06 s).toNat ((z6 za s1.tk (q06 s).toNat).set ((z6 za s1.tk (q06 s).toNat).at_+1))).evs=s.evs:=h9;have hk2:(q1d s1 (q06 s).toNat ((z6 za s1.tk (q06 s).toNat).set ((z6 za s1.tk (q06 s).toNat).at_+1))).tk.length=s.tk.length:=by{simpa[q1d] using ha};generalize q1d s1 (q06 s).toNat ((z6 za s1.tk (q06 s).toNat).set ((z6 za s1.tk (q06 s).toNat).at_+1))=s2 at*;have h3:=q9k (s:=s2) (k:=(q06 s).toNat) (y:=(z6 za s1.tk (q06 s).toNat).step) (by rw[h7];exact hk) h2;have h4:=h3.len;have h5:=(q17 (h3.slk h2)).len;have h6:=h3.tk;rw[h7,hc]at h4;omega};{have h5:=(q17 h0).len;rw[h9]at h5;omega}
theorem qcd{cf:Cf}{cy:List Int}{p:Nat}{n:Int}(h:¬q6m cf cy p n<1):q6m cf cy p n<=n:=by unfold q6m at h⊢;split at h;{omega};{rename_i h2;rw[Z0 h2];omega}
theorem CeI.same{s s':Ce}(I:CeI W s)(h1:s'.cf=s.cf)(h2:s'.tk.length=s.tk.length)(h3:s'.pts=s.pts)(h4:s'.tab=s.tab)(h5:s'.obs=s.obs):CeI W s' :=
 ⟨⟨by rw[h1];exact I.H.cf,by rw[h1];exact I.H.dp,by rw[h2];exact I.H.n8,by rw[h3];exact I.H.p8⟩,by rw[h4,h2];exact I.l,by rw[h1];exact I.h0,by rw[h1];exact I.h1,by rw[h1,h2];exact I.hh,⟨by rw[h3];exact I.z.p,by rw[h5];exact I.z.q,by rw[h5];exact I.z.l,by rw[h1];exact I.z.cq,by rw[h1];exact I.z.cl⟩⟩
theorem CeI.pts{s:Ce}(I:CeI W s){l:List Ps}(h:l.length=s.pts.length)(hl:∀i,qA (z6 zn l i)):CeI W (setPts s l) :=
 ⟨⟨I.H.cf,I.H.dp,I.H.n8,by show l.length<=1000;rw[h];exact I.H.p8⟩,I.l,I.h0,I.h1,I.hh,⟨hl,I.z.q,I.z.l,I.z.cq,I.z.cl⟩⟩
theorem qwg{s:Ce}(hw:¬q06 s<0):(q06 s).toNat<s.tab.length:=by unfold q06 at hw⊢;split at hw;{omega};{rename_i h;rw[Z0 h];have:=q69 q4n s.tab s.tab.length;unfold q7h at hw⊢;omega}
theorem CeI.ran{s:Ce}(I:CeI W s)(n:Int):CeI W (qb3 s n)/\(qb3 s n).cf=s.cf:=by unfold qb3;split;{exact⟨I,rfl⟩};{rename_i hr;have hw:¬q06 s<0:=λq=>by{have:q58 s=0:=Z1 q;unfold q5x at hr;omega};have hk:=qwg hw;dsimp only;have h1:(q0q s (q06 s).toNat (q5x s n)).slk≠none:=by{simp[q0q]};have h0:(q0q s (q06 s).toNat (q5x s n)).cf=s.cf:=rfl;have h6:(q0q s (q06 s).toNat (q5x s n)).tab=s.tab:=rfl;have I1:CeI W (q0q s (q06 s).toNat (q5x s n)):=I.same rfl (by simp[q0q]) rfl rfl rfl;generalize q0q s (q06 s).toNat (q5x s n)=s1 at*;split;{have h2:(q1d s1 (q06 s).toNat ((z6 za s1.tk (q06 s).toNat).set ((z6 za s1.tk (q06 s).toNat).at_+1))).slk≠none:=h1;have h7:(q1d s1 (q06 s).toNat ((z6 za s1.tk (q06 s).toNat).set ((z6 za s1.tk (q06 s).toNat).at_+1))).tab=s.tab:=h6;have h4:(q1d s1 (q06 s).toNat ((z6 za s1.tk (q06 s).toNat).set ((z6 za s1.tk (q06 s).toNat).at_+1))).cf=s.cf:=h0;have I2:CeI W (q1d s1 (q06 s).toNat ((z6 za s1.tk (q06 s).toNat).set ((z6 za s1.tk (q06 s).toNat).at_+1))):=I1.same rfl (by simp[q1d]) rfl rfl rfl;generalize q1d s1 (q06 s).toNat ((z6 za s1.tk (q06 s).toNat).set ((z6 za s1.tk (q06 s).toNat).at_+1))=s2 at*;have h3:=q9k (s:=s2) (k:=(q06 s).toNat) (y:=(z6 za s1.tk (q06 s).toNat).step) (by rw[h7];exact hk) h2;have h5:=q17 (h3.slk h2);exact⟨(I2.ext h3).ext h5,h5.cf.trans (h3.cf.trans h4)⟩};{have h5:=q17 h1;exact⟨I1.ext h5,h5.cf.trans h0⟩}}
structure SyI(W:World)(cf:Cf)(a b c:Nat)(s:Sy):Prop where
 n:s.cs.length=cf.parts.l.length
 sn:s.seen.length=cf.parts.l.length
 G:GvI cf.pw s.g
 C:∀p,p<cf.parts.l.length->CeI W (z6 z9 s.cs p)
 cap:∀p,p<cf.parts.l.length->(z6 z9 s.cs p).cf.cap<=400
 ev:∀p,p<cf.parts.l.length->(z6 z9 s.cs p).evs.length<=a
 z:∀p,p<cf.parts.l.length->s.seen.getD p 0=(z6 z9 s.cs p).evs.length
 se:s.evs.length<=a
 bd:s.bounds.length<=b
 ms:s.msgs.length<=c
section
variable{W:World}{cf:Cf}{a b c:Nat}{s:Sy}
theorem SyI.wait(I:SyI W cf a b c s)(u:Int):SyI W cf a b c {s with g:=q2p cf.pw s.g u}:=⟨I.n,I.sn,I.G.wait u,I.C,I.cap,I.ev,I.z,I.se,I.bd,I.ms⟩
theorem SyI.bound(I:SyI W cf a b c s)(d p:Int):SyI W cf a (b+1) c (q1w s d p):=⟨I.n,I.sn,I.G,I.C,I.cap,I.ev,I.z,I.se,by show(s.bounds ++ [_]).length<=_;rw[Ze,ZK];have:=I.bd;omega,I.ms⟩
structure LpI(W:World)(cf:Cf)(p:Nat)(s0 s:Sy):Prop where
 P:CsP p s0 s
 C:CeI W (z6 z9 s.cs p)
 cq:(z6 z9 s.cs p).cf=(z6 z9 s0.cs p).cf
 R:RoomI (z6 z9 s.cs p)
 G:GvI cf.pw s.g
 e:(z6 z9 s.cs p).evs.length+21*(z6 z9 s.cs p).sk.room.toNat<=(z6 z9 s0.cs p).evs.length+21*(z6 z9 s0.cs p).sk.room.toNat
 bd:s.bounds=s0.bounds
 ms:s.msgs=s0.msgs
theorem LpI.loop{p:Nat}{en:Int}{s0:Sy}:∀(m:Nat) {s:Sy},p<s.cs.length->LpI W cf p s0 s->LpI W cf p s0 (q3e cf p en m s)
 |0,_,_,I=>I
 |m+1,s,hp,I=>by unfold q3e;split;{exact I};{rename_i h;have h0:q5y cf s p<=q58 (z6 z9 s.cs p):=qcd h;have hr:¬q5x (z6 z9 s.cs p) (q5y cf s p)<1:=by{unfold q5x;omega};obtain⟨r1,r2⟩:=qj4 I.R hr;obtain⟨C1,C2⟩:=I.C.ran (q5y cf s p);have hl:=qp7 I.C.H.n8 I.C.l hr;have hc:z6 z9 (q5z cf p en s).cs p=qb3 (z6 z9 s.cs p) (q5y cf s p):=by{show z6 z9 (s.cs.set p _) p=_;rw[q6j _ _ _ _ _ hp,Z1 rfl]};have hP:CsP p s (q5z cf p en s):=CsP.set hp (qp0 _ _) rfl rfl rfl;refine LpI.loop m (by rw[hP.n];exact hp) ⟨I.P.trans hP,by rw[hc];exact C1,by rw[hc,C2];exact I.cq,?_,?_,?_,I.bd,I.ms⟩;{rw[hc];exact⟨by rw[r1];omega,by rw[r1];have:=I.R.b;omega⟩};{exact I.G.run _ _ _ _};{rw[hc,r1];have:=I.e;have:=I.R.a;omega}}
theorem SyI.work(I:SyI W cf a b c s){p:Nat}(hp:p<cf.parts.l.length)(en:Int):SyI W cf (a+10000) b c (q5i cf s p en):=by have h4:p<s.cs.length:=by{rw[I.n];exact hp};have B:=qav (I.C p hp);have K:=(I.C p hp).beginS.ext B;have h0:(q2g (z6 z9 s.cs p)).sk.room=max 0 (z6 z9 s.cs p).cf.cap:=B.sr;have h3:=I.cap p hp;have h6:(q2g (z6 z9 s.cs p)).cf=(z6 z9 s.cs p).cf:=B.cf;have hlen:(q2g (z6 z9 s.cs p)).evs.length<=(z6 z9 s.cs p).evs.length+200:=B.len;unfold q5i;dsimp only;obtain⟨s1,h1⟩:∃s1:Sy,s1={s with cs:=s.cs.set p (q2g (z6 z9 s.cs p)),g:=qf4 s.g}:=⟨_,rfl⟩;rw[<- h1];have h2:z6 z9 s1.cs p=q2g (z6 z9 s.cs p):=by{rw[h1];show z6 z9 (s.cs.set p _) p=_;rw[q6j _ _ _ _ _ h4,Z1 rfl]};have hP:CsP p s s1:=CsP.set h4 (qau _) (by rw[h1]) (by rw[h1]) (by rw[h1]);have L:LpI W cf p s1 s1:=⟨CsP.refl _ _,by rw[h2];exact K,rfl,by rw[h2];exact⟨by rw[h0];omega,by rw[h0];omega⟩,by rw[h1];exact I.G.sync,nL,rfl,rfl⟩;have L2:=L.loop (en:=en) ((z6 z9 (s.cs.set p (q2g (z6 z9 s.cs p))) p).sk.room.toNat+1) (by rw[hP.n];exact h4);generalize q3e cf p en ((z6 z9 (s.cs.set p (q2g (z6 z9 s.cs p))) p).sk.room.toNat+1) s1=s2 at*;have hQ:=hP.trans L2.P;have h7:=L2.e;rw[h2,h0]at h7;have he0:=I.ev p hp;have h9:=I.z p hp;have hse:=I.se;have h5:s2.bounds=s.bounds:=by{rw[L2.bd,h1]};have h8:s2.msgs=s.msgs:=by{rw[L2.ms,h1]};have hev2:(z6 z9 s2.cs p).evs.length<=(z6 z9 s.cs p).evs.length+9000:=zo;refine⟨hQ.n.trans I.n,?_,L2.G,λq hq=>?_,λq hq=>?_,λq hq=>?_,λq hq=>?_,?_,by rw[show(q2t s2 p).bounds=s2.bounds from rfl,h5];exact I.bd,by rw[show(q2t s2 p).msgs=s2.msgs from rfl,h8];exact I.ms⟩;{show(s2.seen.set p _).length=_;rw[Zd,hQ.sn];exact I.sn};{show CeI W (z6 z9 s2.cs q);by_cases e:q=p;{subst e;exact L2.C};{rw[hQ.o q e];exact I.C q hq}};{show(z6 z9 s2.cs q).cf.cap<=400;by_cases e:q=p;{subst e;rw[L2.cq,h2,h6];exact h3};{rw[hQ.o q e];exact I.cap q hq}};{show(z6 z9 s2.cs q).evs.length<=_;by_cases e:q=p;{subst e;omega};{rw[hQ.o q e];have:=I.ev q hq;omega}};{show(s2.seen.set p (z6 z9 s2.cs p).evs.length).getD q 0=(z6 z9 s2.cs q).evs.length;have hs:p<s2.seen.length:=by{rw[hQ.sn,I.sn];exact hp};rw[Z7,Qw];by_cases e:q=p;{subst e;simp[hs]};{rw[Z0 (λe'=>e e'.symm),hQ.o q e,hQ.sn,<- Z7,I.z q hq]}};{show(s2.evs++(z6 z9 s2.cs p).evs.drop (s2.seen.getD p 0)).length<=_;rw[Ze,Qb,hQ.ev,hQ.sn,h9];omega}
theorem z2h:qA zn:=⟨⟨⟨zd,zd⟩,zd⟩,trivial⟩
theorem qhn{l:List Ps}(h:∀i,qA (z6 zn l i)){k:Nat}{y:Ps}(hy:qA y)(i:Nat):qA (z6 zn (l.set k y) i):=by by_cases hk:k<l.length;{rw[Me.atD_set _ _ _ _ _ hk];split;{exact hy};{exact h i}};{rw[ZN zo];exact h i}
theorem qwh{l:List Ps}(h:∀i,qA (z6 zn l i))(k:Int):(q0x l k).1.length<=256/\(q0x l k).2.length=l.length/\∀i,qA (z6 zn (q0x l k).2 i):=by unfold q0x;split;{exact⟨zp,rfl,h⟩};{have hk:=h k.toNat;obtain⟨h1,h2⟩:=qw1 hk.2;exact⟨h2,Zd,qhn h ⟨hk.1,h1⟩⟩}
theorem qp9{l:List Ps}(h:∀i,qA (z6 zn l i))(k:Int)(bs:List UInt8):(q0u l k bs).2.length=l.length/\∀i,qA (z6 zn (q0u l k bs).2 i):=by have hk:=h k.toNat;unfold q0u;split;{exact⟨rfl,h⟩};{split;{exact⟨Zd,qhn h hk⟩};{exact⟨Zd,qhn h ⟨hk.1,qo1 bs hk.2⟩⟩}}
theorem q9l(cf:Cf)(win:Int):∀(ks:List Nat) (seen:List (Int×List (List UInt8))) (l:List Ps) (out:List Mg),(∀q∈seen,q.2.length<=256)->(∀i,qA (z6 zn l i))->(q2i cf win ks seen l out).1.length<=out.length+256*ks.length/\(q2i cf win ks seen l out).2.length=l.length/\∀i,qA (z6 zn (q2i cf win ks seen l out).2 i)
 |[],_,_,_,_,h=>⟨by simp[q2i],rfl,h⟩
 |k::ks,seen,l,out,hs,h=>by
  unfold q2i;dsimp only;split;{rename_i bs hb;have hm:bs.length<=256:=by{have:∀(sn:List (Int×List (List UInt8))) (hs:∀q∈sn,q.2.length<=256),sn.lookup (z6 zu cf.chans.l k).fr.port=some bs->bs.length<=256:=by{intro sn;induction sn with|nil=>{intro _ h;simp[List.lookup]at h}|cons a sn ih=>{intro hs h;rw[List.lookup_cons]at h;split at h;{injection h with h;rw[<- h];exact hs a zp};{exact ih (λq hq=>hs q (by simp[hq])) h}}};exact this seen hs hb};obtain⟨i1,i2,i3⟩:=q9l cf win ks seen l (out++bs.map λb=>⟨k,win,b⟩) hs h;refine⟨?_,i2,i3⟩;rw[Ze,Zh]at i1;rw[Zj];omega}
  .obtain⟨d1,d2,d3⟩:=qwh h (z6 zu cf.chans.l k).fr.port;obtain⟨i1,i2,i3⟩:=q9l cf win ks (seen ++ [((z6 zu cf.chans.l k).fr.port,(q0x l (z6 zu cf.chans.l k).fr.port).1)]) (q0x l (z6 zu cf.chans.l k).fr.port).2 (out++(q0x l (z6 zu cf.chans.l k).fr.port).1.map λb=>⟨k,win,b⟩) (λq hq=>by
    rcases ZE.1 hq with hq|hq
    .exact hs q hq
    .rw[Zc.1 hq];exact d1) d3
   refine⟨?_,i2.trans d2,i3⟩;rw[Ze,Zh]at i1;rw[Zj];omega
theorem qpa(cf:Cf)(p:Int):(q6v cf p).length<=16:=by unfold q6v;refine Zb (Qs _ _) ?_;rw[Qv];omega
theorem SyI.drain_len(I:SyI W cf a b c s){p:Nat}(hp:p<cf.parts.l.length)(win q:Int):(q2i cf win (q6v cf q) [] (z6 z9 s.cs p).pts []).1.length<=4096:=by have h1:=(q9l cf win (q6v cf q) [] (z6 z9 s.cs p).pts [] zp (I.C p hp).z.p).1;have h2:=qpa cf q;simp only[Qp]at h1;omega
structure PtI(W:World)(m:List Ce)(l:List Ce):Prop where
 n:l.length=m.length
 C:∀p,p<m.length->CeI W (z6 z9 l p)/\(z6 z9 l p).cf=(z6 z9 m p).cf/\(z6 z9 l p).evs=(z6 z9 m p).evs
theorem PtI.set{m l:List Ce}(I:PtI W m l){p:Nat}{pts:List Ps}(h:pts.length=(z6 z9 l p).pts.length)(hl:p<m.length->(∀i,qA (z6 zn (z6 z9 l p).pts i))->∀i,qA (z6 zn pts i)):PtI W m (l.set p (setPts (z6 z9 l p) pts)):=by refine⟨by rw[Zd];exact I.n,λq hq=>?_⟩;have hp:=I.C q hq;by_cases hk:p<l.length;{rw[q6j _ _ _ _ _ hk];by_cases e:q=p;{subst e;rw[Z1 rfl];exact⟨hp.1.pts h (hl hq hp.1.z.p),hp.2.1,hp.2.2⟩};{rw[Z0 e];exact hp}};{rw[ZN zo];exact hp}
theorem PtI.deliver(cf:Cf){m l:List Ce}(I:PtI W m l)(g:Mg):PtI W m (q0v cf l g):=by unfold q0v;split;{exact I};{dsimp only;split;{exact I};{refine I.set ?_ λ_ h=>(qp9 h _ _).2;unfold q0u;split;{rfl};{split <;> exact Zd}}}
theorem PtI.fold(cf:Cf){m:List Ce}:∀(gs:List Mg) {l:List Ce},PtI W m l->PtI W m (gs.foldl (q0v cf) l)
 |[],_,I=>I
 |g::gs,_,I=>PtI.fold cf gs (I.deliver cf g)
theorem SyI.flush(I:SyI W cf a b c s){p:Nat}(hp:p<cf.parts.l.length):SyI W cf a b (c+4096) (q7n cf s p):=by have I0:PtI W s.cs s.cs:=⟨rfl,λq hq=>⟨I.C q (by rw[<- I.n];exact hq),rfl,rfl⟩⟩;have hd:=q9l cf (z6 z9 s.cs p).win (q6v cf p) [] (z6 z9 s.cs p).pts [] zp (I.C p hp).z.p;have J:=(I0.set (p:=p) hd.2.1 λ_ _=>hd.2.2).fold cf ((q2i cf (z6 z9 s.cs p).win (q6v cf p) [] (z6 z9 s.cs p).pts []).1.take 4096);have hn:∀q,q<cf.parts.l.length->q<s.cs.length:=λq hq=>by{rw[I.n];exact hq};refine⟨J.n.trans I.n,I.sn,I.G,λq hq=>(J.C q (hn q hq)).1,λq hq=>?_,λq hq=>?_,λq hq=>?_,I.se,I.bd,?_⟩;{show(z6 z9 (q7n cf s p).cs q).cf.cap<=400;rw[show(z6 z9 (q7n cf s p).cs q).cf=_ from(J.C q (hn q hq)).2.1];exact I.cap q hq};{rw[show(z6 z9 (q7n cf s p).cs q).evs=_ from(J.C q (hn q hq)).2.2];exact I.ev q hq};{rw[show(z6 z9 (q7n cf s p).cs q).evs=_ from(J.C q (hn q hq)).2.2];exact I.z q hq};{show(s.msgs++List.take 4096 _).length<=_;rw[Ze,Zq];have:=I.ms;omega}
theorem SyI.slot(I:SyI W cf a b c s){x:Wn}{p:Nat}(hx:x.part=p)(hp:p<cf.parts.l.length)(at_:Int)(r:Bool):SyI W cf (a+10000) (b+2) (c+4096) (qbf cf s x at_ r):=by unfold qbf;dsimp only;have h0:x.part.toNat=p:=by{rw[hx];rfl};rw[h0];have I1:=(I.wait (wrap64 (at_+x.start))).bound (wrap64 (at_+x.start)) x.part;generalize q1w {s with g:=q2p cf.pw s.g (wrap64 (at_+x.start))} (wrap64 (at_+x.start)) x.part=s1 at*;have I2:SyI W cf (a+10000) (b+1) c (if r=true then s1 else q5i cf s1 p (wrap64 (wrap64 (at_+x.start)+x.len))):=by{split;{exact⟨I1.n,I1.sn,I1.G,I1.C,I1.cap,λq hq=>Zb (I1.ev q hq) zo,I1.z,Zb I1.se zo,I1.bd,I1.ms⟩};{exact I1.work hp _}};generalize(if r=true then s1 else q5i cf s1 p (wrap64 (wrap64 (at_+x.start)+x.len)))=s2 at*;have I3:=(I2.wait (wrap64 (wrap64 (at_+x.start)+x.len))).bound (wrap64 (wrap64 (at_+x.start)+x.len)) (-1);split;{exact⟨I3.n,I3.sn,I3.G,I3.C,I3.cap,I3.ev,I3.z,I3.se,I3.bd,Zb I3.ms zo⟩};{exact I3.flush hp}
end
def z_(f:Nat->Int):Nat->Int
 |0=>0
 |n+1=>z_ f n+f n
theorem ym{f g:Nat->Int}:∀ {n:Nat},(∀i,i<n->f i<=g i)->z_ f n<=z_ g n
 |0,_=>Zw _
 |n+1,h=>Int.add_le_add (ym λi hi=>h i zo) (h n zo)
theorem yd{f:Nat->Int}:∀ {n:Nat},(∀i,i<n->0<=f i)->0<=z_ f n
 |0,_=>Zw _
 |n+1,h=>Int.add_nonneg (yd λi hi=>h i zo) (h n zo)
theorem xO{f:Nat->Int}{k:Nat}:∀ {n:Nat},k<n->(∀i,i<n->0<=f i)->f k<=z_ f n
 |0,h,_=>absurd h (Zn _)
 |n+1,h,h0=>by show f k<=z_ f n+f n;have h1:=h0 n zo;have h2:=yd (n:=n) λi hi=>h0 i zo;by_cases e:k=n;{subst e;omega};{have:=xO (n:=n) (f:=f) (k:=k) zo λi hi=>h0 i zo;omega}
theorem yJ{f g:Nat->Int}{k:Nat}{d:Int}:∀ {n:Nat},k<n->(∀i,i<n->i≠k->g i<=f i)->g k<=f k-d->z_ g n<=z_ f n-d
 |0,h,_,_=>absurd h (Zn _)
 |n+1,h,h1,h2=>by show z_ g n+g n<=z_ f n+f n-d;by_cases e:k=n;{subst e;have:=ym (f:=g) (g:=f) (n:=k) λi hi=>h1 i zo zo;omega};{have:=yJ (n:=n) zo (λi hi he=>h1 i zo he) h2;have:=h1 n zo (λe'=>e e'.symm);omega}
theorem vo{f:Nat->Int}{b:Int}:∀ {n:Nat},(∀i,i<n->f i<=b)->z_ f n<=n*b
 |0,_=>by simp[z_]
 |n+1,h=>by have h1:=vo (n:=n) λi hi=>h i zo;have h2:=h n zo;show z_ f n+f n<=((n+1:Nat):Int)*b;rw[Q7,Xa];omega
def qC(x:Sk)(j:Nat):Int:=if z6 false x.fin j=true then 0 else z7 x.has j
structure SkI(x:Sk):Prop where
 n:x.has.length<=1000
 h:∀j,j<x.has.length->0<=z7 x.has j/\z7 x.has j<=1000000000
 r:0<=x.room/\x.room<=1000000000
theorem yp{x:Sk}(I:SkI x){j:Nat}(hj:j<x.has.length):0<=qC x j/\qC x j<=1000000000:=by have:=I.h j hj;unfold qC;split <;> omega
theorem wm{b:Int}(ha:0<=a)(hb:0<=b)(h:a+b<=9223372036854775807):qtr a b=a+b:=by have hw:wrap64 (a+b)=a+b:=zO aH;unfold qtr;rw[hw,Z0 zo,Z0 zo]
theorem vd{x:Sk}(I:SkI x):∀k,k<=x.has.length->(qdx x k).foldl qtr 0=z_ (qC x) k
 |0,_=>rfl
 |k+1,hk=>by have ih:=vd I k zo;have hb:=I.h k zo;have h1:=yd (n:=k) λi hi=>(yp I (j:=i) zo).1;have h2:=vo (n:=k) λi hi=>(yp I (j:=i) zo).2;have hn:=I.n;unfold qdx at ih⊢;rw[ZY,QE,Zk,ZJ,ih];show _=z_ (qC x) k+qC x k;unfold qC;cases hf:z6 false x.fin k with|true=>{have e:List.filter (λj=>!z6 false x.fin j) [k] = []:=by{simp[hf]};rw[e,Z1 rfl,Xn];rfl}|false=>{have e:List.filter (λj=>!z6 false x.fin j) [k] = [k]:=by{simp[hf]};rw[e,Z0 zp];show qtr _ (z7 x.has k)=_;refine wm h1 hb.1 ?_;have:(k:Int)*1000000000<=1000*1000000000:=Qe zo zd;show z_ (qC x) k+_<=_;omega}
theorem xM{x:Sk}(I:SkI x):qgu x=min (z_ (qC x) x.has.length) x.room:=by unfold qgu;rw[vd I _ nL]
theorem yC{x:Sk}(I:SkI x):0<=qgu x/\qgu x<=x.room:=by rw[xM I];have h1:=yd (n:=x.has.length) λi hi=>(yp I (j:=i) hi).1;have:=I.r;omega
structure CeT(s:Ce):Prop where
 d:DN s
 f:FD s
 l:s.tab.length=s.tk.length
 k:SkI s.sk
 s:s.slk≠none
theorem yI{s s':Ce}(E:Ext n s s')(h:s.slk≠none):s'.slk≠none:=by have:=E.so;intro e;rw[e]at this;cases hs:s.slk with|none=>{exact h hs}|some y=>{rw[hs]at this;simp at this}
theorem CeT.ext{s s':Ce}(T:CeT s)(E:Ext n s s'):CeT s'/\qgu s'.sk<=qgu s.sk:=by have K:SkI s'.sk:=⟨by rw[E.sh];exact T.k.n,by rw[E.sh];exact T.k.h,by rw[E.sr];exact T.k.r⟩;refine⟨⟨E.dn T.l T.d,E.fx.2 T.l T.f,by rw[E.tb,E.tk];exact T.l,K,yI E T.s⟩,?_⟩;rw[xM K,xM T.k,E.sh,E.sr];have:=ym (f:=qC s'.sk) (g:=qC s.sk) (n:=s.sk.has.length) λi hi=>by{have hb:=T.k.h i hi;unfold qC;rw[E.sh];by_cases q:z6 false s.sk.fin i=true;{rw[Z1 q,Z1 (E.fx.1 i q)];exact Zw _};{rw[Z0 q];split <;> omega}};omega
theorem vk{s:Ce}(_hs:s.slk≠none){n:Int}(hr:¬q5x s n<1):∃m,Ext m (q0q s (q06 s).toNat (q5x s n)) (qb3 s n):=by have hw:¬q06 s<0:=λq=>by{have:q58 s=0:=Z1 q;unfold q5x at hr;omega};have hk:=qwg hw;unfold qb3;rw[Z0 hr];dsimp only;have h0:(q0q s (q06 s).toNat (q5x s n)).slk≠none:=by{simp[q0q]};have h4:(q0q s (q06 s).toNat (q5x s n)).tab=s.tab:=rfl;generalize q0q s (q06 s).toNat (q5x s n)=s1 at*;split;{have h2:Ext 0 s1 (q1d s1 (q06 s).toNat ((z6 za s1.tk (q06 s).toNat).set ((z6 za s1.tk (q06 s).toNat).at_+1))):=q5b rfl;have h1:=yI h2 h0;have h5:(q1d s1 (q06 s).toNat ((z6 za s1.tk (q06 s).toNat).set ((z6 za s1.tk (q06 s).toNat).at_+1))).tab=s.tab:=h4;generalize q1d s1 (q06 s).toNat ((z6 za s1.tk (q06 s).toNat).set ((z6 za s1.tk (q06 s).toNat).at_+1))=s2 at*;have h3:=q9k (s:=s2) (k:=(q06 s).toNat) (y:=(z6 za s1.tk (q06 s).toNat).step) (by rw[h5];exact hk) h1;exact⟨_,(h2.trans h3).trans (q17 (yI h3 h1))⟩};{exact⟨_,q17 h0⟩}
theorem yu(l:List Int)(k i:Nat)(v:Int)(hk:k<l.length):z7 (l.set k v) i=if i=k then v else z7 l i:=by unfold z7;rw[Z7,Qw,Z7];by_cases e:i=k;{subst e;simp[hk]};{rw[Z0 (λe'=>e e'.symm),Z0 e]}
theorem wh{s:Ce}(hw:¬q06 s<0):∃k:Nat,q06 s=k/\k<s.tab.length/\(z6 zh s.tab k).state=1/\(z6 zh s.tab k).park=false/\s.mode=3:=by unfold q06 at hw⊢;split at hw;{omega};{rename_i h;rw[Z0 h];unfold q7h at hw⊢;obtain⟨j,h1,h2,h3⟩:=qdd (show 0<=q22 q4n s.tab s.tab.length by omega);unfold q4n at h3;simp only[Z6,ZM,Qx]at h3;exact⟨j,h1,h2,h3.1,h3.2,by by_cases e:s.mode=3;exact e;exact absurd (.inr e) h⟩}
theorem vr{s:Ce}(hw:¬q06 s<0):q58 s<=(z6 za s.tk (q06 s).toNat).rest/\q58 s<=z7 s.sk.has (q06 s).toNat/\q58 s<=s.sk.room:=by unfold q58;rw[Z0 hw];omega
theorem vS{s:Ce}(T:CeT s){n:Int}(hr:¬q5x s n<1):CeT (qb3 s n)/\qgu (qb3 s n).sk<=qgu s.sk-q5x s n/\q5x s n<=qgu s.sk/\qgz s=qgu s.sk/\(qb3 s n).sk.room=s.sk.room-q5x s n:=by
 have hw:¬q06 s<0:=λq=>by{have:q58 s=0:=Z1 q;unfold q5x at hr;omega};obtain⟨m,E⟩:=vk T.s hr;obtain⟨k,k1,k2,k3,k4,-⟩:=wh hw;obtain⟨w1,w2,w3⟩:=vr hw;have hk:(q06 s).toNat=k:=zo;rw[hk]at E w2;have hN:q5x s n<=q58 s:=by{unfold q5x;omega};have hl:qgz s=qgu s.sk:=by{unfold qgz;rw[Z0 hw]};generalize q5x s n=d at*;have h0:k<s.sk.has.length:=by{rcases ZH k s.sk.has.length with h|h;{exact h};{have:z7 s.sk.has k=0:=by{unfold z7;rw[Z7,Q_ h];rfl};omega}};have hb:=T.k.h k h0;have hr0:=T.k.r;have h7:min d (min s.sk.room (z7 s.sk.has k))=d:=zo;have h6:(q0q s k d).sk=(⟨s.sk.room-d,s.sk.has.set k (z7 s.sk.has k-d),s.sk.fin⟩:Sk):=by{show(q21 s.sk k d).2=_;unfold q21;rw[Z0 hr,h7,zO (a:=z7 s.sk.has k-d) aH,zO (a:=s.sk.room-d) aH]};have h4:(z6 za s.tk k).done=false:=by{cases h:(z6 za s.tk k).done with|false=>{rfl}|true=>{have:=T.d k (by rw[<- T.l];exact k2) h;rw[k4]at this;cases this}};have h5:z6 false s.sk.fin k=false:=by{cases h:z6 false s.sk.fin k with|false=>{rfl}|true=>{have:=T.f k h;rw[h4]at this;cases this}};have h8:∀i,(z6 za (q0q s k d).tk i).done=(z6 za s.tk i).done:=λi=>by{show(z6 za (s.tk.set k _) i).done=_;rw[Me.atD_set _ _ _ _ _ (by rw[<- T.l];exact k2)];by_cases e:i=k;{subst e;rw[Z1 rfl]};{rw[Z0 e]}};have K1:SkI (q0q s k d).sk:=by{rw[h6];refine⟨by dsimp only;rw[Zd];exact T.k.n,λj hj=>?_,by dsimp only;omega⟩;dsimp only at hj⊢;rw[Zd]at hj;rw[yu _ _ _ _ h0];have:=T.k.h j hj;split <;> omega};have T1:CeT (q0q s k d):=by{refine⟨λi hi hd=>?_,λi hi=>?_,?_,K1,by simp[q0q]⟩;{rw[h8]at hd;exact T.d i (by simpa[q0q] using hi) hd};{rw[h8];rw[h6]at hi;exact T.f i hi};{show s.tab.length=(s.tk.set k _).length;rw[Zd];exact T.l}}
 have h1:qgu (q0q s k d).sk<=qgu s.sk-d:=by
  rw[xM K1,xM T.k,h6];dsimp only;rw[Zd];have:=yJ (f:=qC s.sk) (g:=qC (⟨s.sk.room-d,s.sk.has.set k (z7 s.sk.has k-d),s.sk.fin⟩:Sk)) (d:=d) h0 (λi hi he=>by
   unfold qC;dsimp only;rw[yu _ _ _ _ h0,Z0 he];exact Zw _) (by
   unfold qC;dsimp only;rw[h5,Z0 zp,Z0 zp,yu _ _ _ _ h0,Z1 rfl];exact Zw _)
  omega
 obtain⟨T2,h2⟩:=T1.ext E;refine⟨T2,zo,?_,hl,by rw[E.sr,h6]⟩;rw[xM T.k];have h3:qC s.sk k=z7 s.sk.has k:=by{unfold qC;rw[h5,Z0 zp]};have:=xO (f:=qC s.sk) h0 λi hi=>(yp T.k hi).1;omega
def yt(w:World)(p:Int->Prop)(e:Ending)(w':World):Prop:=∃z f:Int,e=.returned (.tuple #[ii z,ii f])/\(f=0->p z)/\bW w w'
theorem yZ{l:List Int}(h:zI w A n c l):cP 25 #[.slice A n c] w (yt w λz=>z=z_ (z7 l) n):=by have hn:=h.1.len_le;obtain⟨wo,rfl⟩:=aU w;refine zi ?_;go_wp2_with fail;go_loopw[4,5,6] (λm ov i wr=>∃(k:Nat) (z:Int) (b:Bool),k<=n/\i=.int .i64 (k:Int)/\m=.int .i64 z/\ov=.bool b/\(b=false->z=z_ (z7 l) k/\0<=z/\z<=9223372036854775807)/\wo=wr) (λ_ _ i _=>n-(intOf i).toNat);(case atStart=>exact⟨0,0,false,Za _,rfl,rfl,rfl,(λ_=>⟨rfl,zd,zd⟩),rfl⟩);case round=>obtain⟨k,z,b,hk,rfl,rfl,rfl,hz,rfl⟩:=hrel;have HZ:=zhd hz;clear hz;by_cases h4:k<n;{obtain⟨sb,so,rfl,hsb,s0⟩:=h.at_ h4;have HS:Hid (z_ (z7 l) (k+1)=z_ (z7 l) k+z7 l k):=rfl;generalize z7 l k=y at s0 HS;by_cases q1:y<0;{go_wp2;go_returns;exact⟨_,_,rfl,(λh=>by cases h),bR⟩};{have _d:=True.intro;cases b with|true=>{go_wp2;exact⟨⟨k+1,_,true,zo,by go_num,rfl,rfl,(λh=>by cases h),by first|trivial|rfl⟩,by simp[intOf];omega⟩}|false=>{have e1:wrap64 (9223372036854775807-z)=9223372036854775807-z:=by{obtain⟨-,h1,h2⟩:=HZ.out rfl;unfold wrap64;omega};by_cases q2:wrap64 (9223372036854775807-z)<y;{have _d:=True.intro;have HE:=zhd e1;clear e1;go_wp2;exact⟨⟨k+1,_,true,zo,by go_num,rfl,rfl,(λh=>by cases h),by first|trivial|rfl⟩,by simp[intOf];omega⟩};{have HE:Hid (∃z',wrap64 (z+y)=z'/\z'=z_ (z7 l) (k+1)/\0<=z'/\z'<=9223372036854775807):=by{obtain⟨h0,h1,h2⟩:=HZ.out rfl;rw[e1]at q2;refine⟨z+y,by unfold wrap64;omega,?_,zo,zo⟩;rw[HS.out,h0]};clear e1;have _d:=True.intro;obtain⟨z',e2,h3⟩:=HE.out;replace h3:=zhd h3;clear HE HZ HS;go_wp2;exact⟨⟨k+1,z',false,zo,by go_num,by rw[e2],rfl,(λ_=>h3.out),by first|trivial|rfl⟩,by simp[intOf];omega⟩}}}};{obtain rfl:k=n:=zo;cases b with|true=>{go_wp2;go_returns;exact⟨_,_,rfl,(λh=>by cases h),bR⟩}|false=>{go_wp2;go_returns;exact⟨_,_,rfl,(λ_=>(HZ.out trivial).1),bR⟩}}
theorem yx{b c:Int}(up:Bool)(ha:0<=a)(hb:0<=b)(hc:1<=c)(hm:a*b<=1000000000000000)(ha2:a<=1000000000000000)(hb2:b<=1000000000000000)(hc2:c<=9223372036854775807) :
  cP 52 #[ii a,ii b,ii c,.bool up] w λe w'=>e=.returned (.tuple #[ii (q0b a b c up).1,ii 0])/\w=w':=by have h0:0<=a*b:=QO ha hb;have h3:0<=a*b / c:=XY h0 zo;have h4:a*b / c<=a*b:=Int.ediv_le_self _ h0;have hr:=Int.mul_ediv_add_emod (a*b) c;have h5:=XB (a*b) (show c≠0 by omega);have h6:=QY (a*b) (show 0<c by omega);have hT:Int.tdiv (a*b) c=a*b / c:=Int.tdiv_eq_ediv_of_nonneg h0;have h2:Int.tmod (a*b) c=a*b%c:=Int.tmod_eq_emod_of_nonneg h0;have HE:Hid ((q0b a b c up).1=if up=true/\0<a*b%c then a*b / c+1 else a*b / c):=by{unfold Hid q0b;rw[Z0 zo];have e:(a*b+(if up=true then c-1 else 0)) / c=if up=true/\0<a*b%c then a*b / c+1 else a*b / c:=by{cases up with|false=>{simp}|true=>{simp only[Xy,true_and];split;{rename_i q;refine Int.le_antisymm (Int.le_of_lt_add_one (Int.ediv_lt_of_lt_mul zo ?_)) (Int.le_ediv_of_mul_le zo ?_);{rw[Xa,Xa,XG (a*b / c) c];omega};{rw[Xa,XG (a*b / c) c];omega}};{rename_i q;refine Int.le_antisymm (Int.le_of_lt_add_one (Int.ediv_lt_of_lt_mul zo ?_)) (Int.le_ediv_of_mul_le zo ?_);{rw[Xa,XG (a*b / c) c];omega};{rw[XG (a*b / c) c];omega}}}};rw[e,Z1 (by split <;> omega)]};have hmw:IntKind.i64.wrap (a*b)=a*b:=Q4 _ zo;have hX:(q0b a b c up).1=if up=true/\0<(a*b).tmod c then wrap64 (wrap64 ((a*b).tdiv c)+1) else wrap64 ((a*b).tdiv c):=by{rw[HE.out,hT,h2,show wrap64 (a*b / c)=a*b / c by unfold wrap64;omega,show wrap64 (a*b / c+1)=a*b / c+1 by unfold wrap64;omega]};have t1:decide (a<0)=false:=aO;have t2:decide (b<0)=false:=aO;have t3:decide (c<1)=false:=aO;have HX:=zhd hX;by_cases h1:a=0;{subst h1;have HZ:Hid ((q0b 0 b c up).1=0):=by{rw[Hid,HX.out];simp[wrap64]};clear hX HX HE h0 h3 h4 hr h5 h6 hT h2 hm ha ha2;generalize q0b 0 b c up=R at*;refine zi ?_;go_wp2_with fail;all_goals(go_returns;exact⟨by rw[HZ.out];rfl,rfl⟩)};{have ha1:1<=a:=zo;have hle:b<=9223372036854775807 / a:=Int.le_ediv_of_mul_le zo (by rw[XG];omega);have t4:(a==0)=false:=by{simpa using h1};have hw:IntKind.i64.wrap (a*b)=a*b:=Q4 _ zo;clear hX HE h0 h3 h4 hr h5 h6 hT h2 hm h1;generalize q0b a b c up=R at*;cases up with|false=>{refine zi ?_;go_wp2_with fail;all_goals(go_returns;exact⟨by rw[HX.out];rfl,rfl⟩)}|true=>{cases hq:decide (0<(a*b).tmod c) with|true=>{have HY:Hid (R.1=wrap64 (wrap64 ((a*b).tdiv c)+1)):=by{rw[Hid,HX.out,Z1 ⟨rfl,Xp hq⟩]};clear HX;refine zi ?_;go_wp2_with fail;all_goals(go_returns;exact⟨by rw[HY.out];rfl,rfl⟩)}|false=>{have HY:Hid (R.1=wrap64 ((a*b).tdiv c)):=by{rw[Hid,HX.out,Z0 λh=>Xk hq h.2]};clear HX;refine zi ?_;go_wp2_with fail;all_goals(go_returns;exact⟨by rw[HY.out];rfl,rfl⟩)}}}
end Go.Proofs.YtncfcbohiodnnaaGreat
