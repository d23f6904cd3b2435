/- Parts of this seat's claims. -/
import Derived.Test.YtncfcbohiodnnaaGreatWX32
set_option maxRecDepth 100000
set_option maxHeartbeats 6400000
namespace Go.Proofs.YtncfcbohiodnnaaGreat
open Go.RowKit
variable{w w' W wa wo W':World}{c n pt r B j b m mb q base cap id B0:Nat}{A:Option Addr}{a code what:Int}{cs:Array Value}
def qU(cf:Pt)(c:Nat->Int)(k:Nat):St:=⟨c k,if 0<(z6 zC cf.procs.l k).per then 1 else 3,0,0,0,0⟩
structure StC(cf:Pt)(c:Nat->Int):Prop where
 n8:cf.procs.l.length<=8
 c1:∀k,k<cf.procs.l.length->1<=c k/\c k<=(z6 zC cf.procs.l k).cost
 per:∀k,k<cf.procs.l.length->(z6 zC cf.procs.l k).per<=1000000000
 pn:∀k,k<cf.procs.l.length->0<=(z6 zC cf.procs.l k).per
 sum:z_ (λk=>(z6 zC cf.procs.l k).cost) cf.procs.l.length<=cf.cap
 cap:cf.cap<=1000000
structure StR(cf:Pt)(c:Nat->Int)(k:Nat)(r:Rw)(t:Tk):Prop where
 rc:r.c=z6 zC cf.procs.l k
 st:r.state=1\/r.state=3/\¬0<(z6 zC cf.procs.l k).per\/r.state=4/\0<(z6 zC cf.procs.l k).per
 pr:t.prog = [qU cf c k]
 at_:t.at_=0
 r1:1<=t.rest/\t.rest<=c k
 r2:r.state≠1->t.rest=c k
structure StS(cf:Pt)(c:Nat->Int)(s:Ce):Prop where
 mode:s.mode=3
 hcf:s.cf=cf
 tl:s.tk.length=cf.procs.l.length
 bl:s.tab.length=cf.procs.l.length
 row:∀k,k<cf.procs.l.length->StR cf c k (z6 zh s.tab k) (z6 za s.tk k)
 ev:∀e∈s.evs,0<=e.call
 w0 : -1<=s.win/\s.win<=1000000000
structure StI(cf:Pt)(c:Nat->Int)(s:Ce):Prop where
 S:StS cf c s
 rest:∀k,k<cf.procs.l.length->(z6 za s.tk k).rest=c k
 nx:∀k,k<cf.procs.l.length->0<(z6 zC cf.procs.l k).per->(z6 zh s.tab k).state=1->s.win+1<(z6 zh s.tab k).next
def qN(s:Ce)(k:Nat):Int:=if(z6 zh s.tab k).state=1 then(z6 za s.tk k).rest else 0
structure StW(cf:Pt)(c:Nat->Int)(s:Ce):Prop where
 S:StS cf c s
 sk:s.slk≠none
 hl:s.sk.has.length=cf.procs.l.length
 rd:∀k,k<cf.procs.l.length->(z6 zh s.tab k).state=1->(z6 zh s.tab k).park=false/\(z6 za s.tk k).rest<=z7 s.sk.has k
 hb:∀k,k<cf.procs.l.length->0<=z7 s.sk.has k/\z7 s.sk.has k<=1000000
 room:z_ (qN s) cf.procs.l.length<=s.sk.room
 rb:s.sk.room<=1000000
theorem yQ{p:Rw->Bool}{l:List Rw}:∀ {n:Nat},q22 p l n<0->∀j,j<n->p (z6 zh l j)=false
 |0,_,j,h=>absurd h (Zn _)
 |n+1,h,j,hj=>by unfold q22 at h;split at h;{omega};{rename_i q;have ih:=yQ (n:=n) h;by_cases e:j=n;{subst e;cases hp:p (z6 zh l j) with|false=>{rfl}|true=>{rw[hp]at q;simp[h]at q}};{exact ih j zo}}
section
variable{cf:Pt}{c:Nat->Int}{s:Ce}
theorem StS.no2(S:StS cf c s){k:Nat}(hk:k<s.tab.length):(z6 zh s.tab k).state≠2:=by have:=(S.row k (by rw[<- S.bl];exact hk)).st;omega
theorem StS.first(S:StS cf c s)(a b:Int):q0e s a b<0:=by rcases Int.lt_or_le (q0e s a b) 0 with h|h;{exact h};{obtain⟨j,_,h2,h3⟩:=q3x h;exact absurd h3 (S.no2 h2)}
theorem StW.nextI(S:StW cf c s)(h:q06 s<0):StI cf c s:=by have hp:q7h s<0:=by{unfold q06 at h;have:¬(s.slk.isNone=true\/s.mode≠3):=by{rintro(e|e);{exact S.sk (Option.isNone_iff_eq_none.1 e)};{exact e S.S.mode}};rwa [Z0 this]at h};have h0:∀k,k<cf.procs.l.length->(z6 zh s.tab k).state≠1:=λk hk e=>by{have h1:=yQ hp k (by rw[S.S.bl];exact hk);have h2:=(S.rd k hk e).1;simp[q4n,e,h2]at h1};exact⟨S.S,λk hk=>(S.S.row k hk).r2 (h0 k hk),λk hk _ e=>absurd e (h0 k hk)⟩
theorem StW.next(S:StW cf c s)(h:¬q06 s<0):∃k:Nat,q06 s=k/\k<cf.procs.l.length/\(z6 zh s.tab k).state=1/\q58 s=(z6 za s.tk k).rest:=by
 have hm:¬(s.slk.isNone=true\/s.mode≠3):=by{rintro(e|e);{exact S.sk (Option.isNone_iff_eq_none.1 e)};{exact e S.S.mode}};have hn:q06 s=q7h s:=by{unfold q06;rw[Z0 hm]};obtain⟨k,h1,h2,h3⟩:=qdd (p:=q4n) (l:=s.tab) (k:=s.tab.length) (by show 0<=q7h s;omega);have hk:k<cf.procs.l.length:=by rw[<- S.S.bl];exact h2
 have h0:q06 s=k:=hn.trans h1;simp only[q4n,Z6,ZM,Qx]at h3;have hr:=S.rd k hk h3.1;have hw:qN s k=(z6 za s.tk k).rest:=Z1 h3.1;have hs:=xO (f:=qN s) hk (λi hi=>by
  unfold qN;split
  .have:=(S.S.row i hi).r1;omega
  .exact Zw _)
 have:=S.room;refine⟨k,h0,hk,h3.1,?_⟩;unfold q58;rw[Z0 h,h0,Z4];omega
theorem StW.settle(S:StW cf c s):q2n s=s:=by unfold q2n;refine q1s ?_ _;unfold q0p;rw[Z0 (by rw[S.S.mode];simp)];by_cases h:q7h s<0;{rw[Z1 (.inl h)]};{obtain⟨k,h1,h2,h3⟩:=qdd (p:=q4n) (l:=s.tab) (k:=s.tab.length) (by show 0<=q7h s;omega);have hk:k<cf.procs.l.length:=by{rw[<- S.S.bl];exact h2};have e:q7h s=k:=h1;simp only[q4n,Z6,ZM,Qx]at h3;have hr:=S.rd k hk h3.1;have:=(S.S.row k hk).r1;rw[Z1 (.inr (by rw[e,Z4];omega))]}
theorem StW.upd(S:StW cf c s){k:Nat}(hk:k<cf.procs.l.length){s':Ce}{r':Rw}{t':Tk}{y':Sk}{h' d:Int}(hm:s'.mode=3)(hc:s'.cf=s.cf)(ht:s'.tk=s.tk.set k t')(hr:s'.tab=s.tab.set k r')(hy:s'.slk=some y')
 (he:∀e∈s'.evs,0<=e.call)(hw:s'.win=s.win)(R:StR cf c k r' t')(hh:y'.has=s.sk.has.set k h')(hb:0<=h'/\h'<=1000000)(h1:r'.state=1->r'.park=false/\t'.rest<=h')(h2:(if r'.state=1 then t'.rest else 0)<=qN s k-d)(h3:y'.room=s.sk.room-d)(hd:0<=d):StW cf c s':=by
 have h7:k<s.tk.length:=by{rw[S.S.tl];exact hk};have h5:k<s.tab.length:=by{rw[S.S.bl];exact hk};have h6:k<s.sk.has.length:=by{rw[S.hl];exact hk};have h0:s'.sk=y':=by{unfold Ce.sk;rw[hy];rfl};have et:∀i,z6 za s'.tk i=if i=k then t' else z6 za s.tk i:=λi=>by{rw[ht];exact Me.atD_set _ _ _ _ _ h7};have er:∀i,z6 zh s'.tab i=if i=k then r' else z6 zh s.tab i:=λi=>by{rw[hr];exact Me.atD_set _ _ _ _ _ h5};have eh:∀i,z7 s'.sk.has i=if i=k then h' else z7 s.sk.has i:=λi=>by{rw[h0,hh];exact qcx _ _ _ _ h6};refine⟨⟨hm,hc.trans S.S.hcf,by rw[ht,Zd];exact S.S.tl,by rw[hr,Zd];exact S.S.bl,λi hi=>?_,he,by rw[hw];exact S.S.w0⟩,by rw[hy];simp,by rw[h0,hh,Zd];exact S.hl,λi hi hs=>?_,λi hi=>?_,?_,?_⟩;{rw[et,er];by_cases q:i=k;{rw[Z1 q,Z1 q,q];exact R};{rw[Z0 q,Z0 q];exact S.S.row i hi}};{rw[er]at hs⊢;rw[et,eh];by_cases q:i=k;{rw[Z1 q]at hs⊢;rw[Z1 q,Z1 q];exact h1 hs};{rw[Z0 q]at hs⊢;rw[Z0 q,Z0 q];exact S.rd i hi hs}};{rw[eh];by_cases q:i=k;{rw[Z1 q];exact hb};{rw[Z0 q];exact S.hb i hi}}
 .have:=yJ (f:=qN s) (g:=qN s') (k:=k) (d:=d) (n:=cf.procs.l.length) hk (λi hi q=>by
   unfold qN;rw[et,er,Z0 q,Z0 q];exact Zw _) (by
   show(if(z6 zh s'.tab k).state=1 then(z6 za s'.tk k).rest else 0)<=_;rw[et,er,Z1 rfl,Z1 rfl];exact h2)
  have h4:=S.room;rw[h0,h3];omega
 {have h4:=S.rb;rw[h0,h3];omega}
theorem wu{k:Nat}{t:Tk}(hp:t.prog = [qU cf c k])(ha:t.at_=0):t.step=qU cf c k/\(t.set (t.at_+1)).prog = [qU cf c k]/\(t.set (t.at_+1)).at_=0/\(t.set (t.at_+1)).rest=q8n (c k) 1 1073741824:=by unfold Tk.step Tk.set;rw[hp,ha];exact⟨rfl,rfl,zp,by simp[z6,qU]⟩
theorem ye(h : -1000000000000<=a/\a<=1000000000000):wrap64 a=a:=by unfold wrap64;omega
theorem StW.spent(S:StW cf c s){k:Nat}(hk:k<cf.procs.l.length)(h1:(z6 zh s.tab k).state=1){m:Int}(m1:1<=m)(m2:m<=(z6 za s.tk k).rest) :
  ∃h',(q0q s k m).sk.has=s.sk.has.set k h'/\(q0q s k m).sk.room=s.sk.room-m/\0<=h'/\h'<=1000000/\(z6 za s.tk k).rest-m<=h'/\(q0q s k m).tk=s.tk.set k {z6 za s.tk k with rest:=(z6 za s.tk k).rest-m}/\(q0q s k m).tab=s.tab/\m<=s.sk.room:=by
 have hr:=(S.rd k hk h1).2;have hb:=S.hb k hk;have hw:qN s k=(z6 za s.tk k).rest:=Z1 h1;have hs:=xO (f:=qN s) hk (λi hi=>by
  unfold qN;split
  .have:=(S.S.row i hi).r1;omega
  .exact Zw _)
 have h2:=S.room;have h3:=S.rb;have e:min m (min s.sk.room (z7 s.sk.has k))=m:=zo;have hq:(q0q s k m).sk=(q21 s.sk k m).2:=rfl;refine⟨z7 s.sk.has k-m,?_,?_,zo,zo,zo,?_,rfl,zo⟩;{rw[hq];unfold q21;rw[Z0 zo,e];dsimp only;rw[ye zo]};{rw[hq];unfold q21;rw[Z0 zo,e];dsimp only;rw[ye zo]};{show s.tk.set k {z6 za s.tk k with rest:=wrap64 ((z6 za s.tk k).rest-m)}=_;rw[ye (by have:=(S.S.row k hk).r1;omega)]}
theorem ws{α:Type}(d:α)(l:List α){k:Nat}(hk:k<l.length):l.set k (z6 d l k)=l:=by rw[q0s hk];exact List.set_getElem_self hk
theorem StW.ranP(S:StW cf c s){k:Nat}(hk:k<cf.procs.l.length)(h1:(z6 zh s.tab k).state=1){m:Int}(m1:1<=m)(m2:m<(z6 za s.tk k).rest):StW cf c (q0q s k m)/\(q0q s k m).sk.room=s.sk.room-m:=by obtain⟨h',e1,e2,e3,e4,e5,e6,e7,e8⟩:=S.spent hk h1 m1 zo;have R:=S.S.row k hk;have hw:qN s k=(z6 za s.tk k).rest:=Z1 h1;refine⟨S.upd hk (y':=(q0q s k m).sk) (d:=m) S.S.mode rfl e6 (by rw[e7];exact(ws zh _ (by rw[S.S.bl];exact hk)).symm) rfl S.S.ev rfl ⟨R.rc,R.st,R.pr,R.at_,by have:=R.r1;dsimp only;omega,λh=>absurd h1 h⟩ e1 ⟨e3,e4⟩ (λ_=>⟨(S.rd k hk h1).1,e5⟩) (by rw[Z1 h1,hw];dsimp only;omega) e2 zo,e2⟩
theorem StW.ranD(C:StC cf c)(S:StW cf c s){k:Nat}(hk:k<cf.procs.l.length)(h1:(z6 zh s.tab k).state=1){m:Int}(m1:1<=m)(m2:m=(z6 za s.tk k).rest) :
  StW cf c (q2o (q1d (q0q s k m) k ((z6 za (q0q s k m).tk k).set ((z6 za (q0q s k m).tk k).at_+1))) k (z6 za (q0q s k m).tk k).step)/\(q2o (q1d (q0q s k m) k ((z6 za (q0q s k m).tk k).set ((z6 za (q0q s k m).tk k).at_+1))) k (z6 za (q0q s k m).tk k).step).sk.room=s.sk.room-m:=by obtain⟨h',e1,e2,e3,e4,e5,e6,e7,e8⟩:=S.spent hk h1 m1 zo;have R:=S.S.row k hk;have hw:qN s k=(z6 za s.tk k).rest:=Z1 h1;have h4:k<s.tk.length:=by{rw[S.S.tl];exact hk};have ha:k<s.tab.length:=by{rw[S.S.bl];exact hk};have et:z6 za (q0q s k m).tk k={z6 za s.tk k with rest:=(z6 za s.tk k).rest-m}:=by{rw[e6,Me.atD_set _ _ _ _ _ h4,Z1 rfl]};obtain⟨q1,q2,q3,q4⟩:=wu (cf:=cf) (c:=c) (k:=k) (t:=z6 za (q0q s k m).tk k) (by rw[et];exact R.pr) (by rw[et];exact R.at_);generalize hT:(z6 za (q0q s k m).tk k).set ((z6 za (q0q s k m).tk k).at_+1)=T at*;rw[q1];have hc:=C.c1 k hk;have h7:T.rest=c k:=by{rw[q4];have hcc:c k<=1000000:=by{have h5:=xO (f:=λk=>(z6 zC cf.procs.l k).cost) hk (λi hi=>by have:=C.c1 i hi;omega);have:=C.sum;have:=C.cap;omega};unfold q8n;rw[Z0 zo,Z0 zo]};clear q4 hT et q1;have h3:(q0q s k m).cf=cf:=S.S.hcf;have h6:(q0q s k m).tk.set k T=s.tk.set k T:=by{rw[e6,XV]};have h2:0<=(k:Int)/\(k:Int)<(s.tab.length:Nat):=⟨zo,zo⟩;by_cases hp:0<(z6 zC cf.procs.l k).per;{have hs:qU cf c k=⟨c k,1,0,0,0,0⟩:=by{unfold qU;rw[Z1 hp]};rw[hs];have hE:q2o (q1d (q0q s k m) k T) k ⟨c k,1,0,0,0,0⟩=q57 (q6a (q1d (q0q s k m) k T) (setS s.tab s.tn k 4).2) k:=by{unfold q2o q4a qaa;simp only[q1d,h3,hp];simp;rfl};have h0:setS s.tab s.tn k 4=(true,s.tab.set k (qi1 s.tn (z6 zh s.tab k) 4),qqn s.tn 4):=by{unfold setS;rw[Z1 h2,Z0 zo,Z4]};have hb:∀r:Rw,(qa1 (s.tab.set k r) k).2=s.tab.set k {r with park:=true}:=λr=>by{unfold qa1;rw[Z1 (by rw[Zd];exact h2)];dsimp only;rw[Z4,Me.atD_set _ _ _ _ _ ha,Z1 rfl,XV]};rw[hE,h0];have h9:(q57 (q6a (q1d (q0q s k m) k T) (s.tab.set k (qi1 s.tn (z6 zh s.tab k) 4),qqn s.tn 4)) k).tk=s.tk.set k {T with done:=true}:=by{show((q0q s k m).tk.set k T).set k {z6 za ((q0q s k m).tk.set k T) k with done:=true}=_;rw[h6,Me.atD_set _ _ _ _ _ h4,Z1 rfl,XV]};have h8:(q57 (q6a (q1d (q0q s k m) k T) (s.tab.set k (qi1 s.tn (z6 zh s.tab k) 4),qqn s.tn 4)) k).tab=s.tab.set k {qi1 s.tn (z6 zh s.tab k) 4 with park:=true}:=hb _;refine⟨S.upd hk (y':=qqt (q0q s k m).sk k) (d:=m) S.S.mode rfl h9 h8 rfl S.S.ev rfl ⟨R.rc,.inr (.inr ⟨rfl,hp⟩),q2,q3,by dsimp only;omega,λ_=>h7⟩ e1 ⟨e3,e4⟩ (λh=>absurd (show(4:Int)=1 from h) zd) (by show(if(4:Int)=1 then T.rest else 0)<=_;rw[Z0 zd];omega) e2 zo,e2⟩};{have hs:qU cf c k=⟨c k,3,0,0,0,0⟩:=by{unfold qU;rw[Z0 hp]};rw[hs];have hE:q2o (q1d (q0q s k m) k T) k ⟨c k,3,0,0,0,0⟩=q6a (q0i (q1d (q0q s k m) k T) k 3 0 0) (setS s.tab s.tn k 3).2:=by{unfold q2o q4a qaa;simp only[q1d,h3,hp];simp;rfl};have h0:setS s.tab s.tn k 3=(true,s.tab.set k (qi1 s.tn (z6 zh s.tab k) 3),qqn s.tn 3):=by{unfold setS;rw[Z1 h2,Z0 zo,Z4]};rw[hE,h0];refine⟨S.upd hk (y':=(q0q s k m).sk) (t':=T) (r':=qi1 s.tn (z6 zh s.tab k) 3) (d:=m) S.S.mode rfl h6 rfl rfl (λe he=>?_) rfl ⟨R.rc,.inr (.inl ⟨rfl,hp⟩),q2,q3,zo,λ_=>h7⟩ e1 ⟨e3,e4⟩ (λh=>absurd (show(3:Int)=1 from h) zd) (by show(if(3:Int)=1 then T.rest else 0)<=_;rw[Z0 zd];omega) e2 zo,e2⟩;rcases ZE.1 (show e∈s.evs ++ [_] from he) with h|h;{exact S.S.ev e h};{rw[Zc.1 h];exact(by decide:(0:Int)<=3)}}
theorem StW.ran(C:StC cf c)(S:StW cf c s){n:Int}(h1:1<=n)(h2:n<=q58 s)(hn:¬q06 s<0):StW cf c (qb3 s n)/\(qb3 s n).sk.room=s.sk.room-n:=by obtain⟨k,e1,hk,e2,e3⟩:=S.next hn;have er:q5x s n=n:=by{unfold q5x;omega};have hR:qb3 s n=q2n (if(z6 za (q0q s k n).tk k).rest=0 then q2o (q1d (q0q s k n) k ((z6 za (q0q s k n).tk k).set ((z6 za (q0q s k n).tk k).at_+1))) k (z6 za (q0q s k n).tk k).step else q0q s k n):=by{unfold qb3;rw[er,Z0 zo,e1,Z4]};have h0:k<s.tk.length:=by{rw[S.S.tl];exact hk};obtain⟨h',_,_,_,_,_,e6,_,_⟩:=S.spent hk e2 h1 zo;have et:(z6 za (q0q s k n).tk k).rest=(z6 za s.tk k).rest-n:=by{rw[e6,Me.atD_set _ _ _ _ _ h0,Z1 rfl]};rw[hR];by_cases q:(z6 za s.tk k).rest=n;{rw[Z1 zo];obtain⟨W,w⟩:=S.ranD C hk e2 h1 q.symm;rw[W.settle];exact⟨W,w⟩};{rw[Z0 zo];obtain⟨W,w⟩:=S.ranP hk e2 h1 zo;rw[W.settle];exact⟨W,w⟩}
theorem ve{α β:Type}{f:α->β->α}{s:α}:∀ {l:List β},(∀b∈l,f s b=s)->l.foldl f s=s
 |[],_=>rfl
 |b::l,h=>by rw[QZ,h b zp];exact ve λx hx=>h x (Q5 _ hx)
theorem StS.ports(S:StS cf c s):qn2 s=s:=by refine ve λp _=>?_;have h1:q1z s p=s:=q1s (by unfold q12;rw[Z1 (S.first 11 p)]) _;rw[h1];exact q1s (by unfold q13;rw[Z1 (S.first 12 p)]) _
theorem StS.wakes(S:StS cf c s):q36 s=s:=by have h:qbc (qdw s.win) s.tab s.tab.length = []:=by{unfold qbc;rw[List.map_eq_nil_iff,List.filter_eq_nil_iff];intro j hj;have:=S.no2 (ZQ.1 hj);simp[qdw,this]};unfold q36;rw[h];rfl
end
structure RelP(win:Int)(l0:List Rw)(j:Nat)(x:Rl):Prop where
 m:x.mis = []
 n:x.l.length=l0.length
 hi:∀k,j<=k->z6 zh x.l k=z6 zh l0 k
 lo:∀k,k<j->(z6 zh x.l k).c=(z6 zh l0 k).c/\(z6 zh x.l k).park=(z6 zh l0 k).park/\((z6 zh x.l k).state=(z6 zh l0 k).state\/(z6 zh l0 k).state=4/\(z6 zh x.l k).state=1)
theorem vl{win tn:Int}{l0:List Rw}(h:∀k,k<l0.length->(z6 zh l0 k).state=4\/z1u win (z6 zh l0 k)=true):∀j,j<=l0.length->RelP win l0 j (q5u win l0 tn j)
 |0,_=>⟨rfl,rfl,λ_ _=>rfl,λk hk=>absurd hk (Zn k)⟩
 |j+1,hj=>by
  have I:=vl (tn:=tn) h j zo;rw[qa4];generalize q5u win l0 tn j=x at*;have hx:j<x.l.length:=by{rw[I.n];omega};have e0:=I.hi j nL;unfold qa3;by_cases q:z1u win (z6 zh l0 j)=true
  .rw[e0,Z1 q];exact⟨I.m,I.n,λk hk=>I.hi k zo,λk hk=>by
    by_cases e:k=j
    .subst e;rw[e0];exact⟨rfl,rfl,.inl rfl⟩
    .exact I.lo k zo⟩
  {have h4:(z6 zh l0 j).state=4:=by{rcases h j zo with h|h;{exact h};{exact absurd h q}};rw[e0,Z0 q,Z1 h4];have er:∀(y z:Rw) (k:Nat),z6 zh ((x.l.set j y).set j z) k=if k=j then z else z6 zh x.l k:=λy z k=>by{rw[XV];exact qcy _ _ _ _ hx};refine⟨I.m,by dsimp only;rw[Zd,Zd];exact I.n,λk hk=>?_,λk hk=>?_⟩;{dsimp only;rw[er,Z0 zo];exact I.hi k zo};{dsimp only;rw[er];by_cases e:k=j;{subst e;rw[Z1 rfl];exact⟨rfl,rfl,.inr ⟨h4,rfl⟩⟩};{rw[Z0 e];exact I.lo k zo}}}
theorem vi:∀(l:List Int) (s:Ce),l.foldl (λs k=>q0i s k 1 0 0) s={s with evs:=s.evs++l.map λk=>⟨s.part,s.win,k,1,0,0⟩}
 |[],s=>by simp
 |k::l,s=>by rw[QZ,vi l];simp[q0i]
section
variable{cf:Pt}{c:Nat->Int}{s:Ce}
theorem StC.cost(C:StC cf c){k:Nat}(hk:k<cf.procs.l.length):c k<=(z6 zC cf.procs.l k).cost/\1<=c k/\(z6 zC cf.procs.l k).cost<=1000000:=by have h5:=xO (f:=λk=>(z6 zC cf.procs.l k).cost) hk (λi hi=>by have:=C.c1 i hi;omega);have:=C.sum;have:=C.cap;have:=C.c1 k hk;omega
theorem StI.begin_(C:StC cf c)(I:StI cf c s)(hw:s.win<1000000000):StW cf c (q2g s)/\(q2g s).win=s.win+1/\(q2g s).sk.room=max 0 cf.cap:=by
 obtain⟨S,I1,I2⟩:=I;have w0:=S.w0;have h2:wrap64 (s.win+1)=s.win+1:=ye zo;have h4:(qd0 s.tab).length=s.tab.length:=by{unfold qd0;exact Zh _};have hf:∀k,k<cf.procs.l.length->z6 zh (qd0 s.tab) k={z6 zh s.tab k with park:=false}:=λk hk=>by{unfold qd0;exact q6w zh zh _ _ (by rw[S.bl];exact hk)}
 have hr:=vl (win:=s.win+1) (tn:=s.tn) (l0:=qd0 s.tab) (λk hk=>by
  have h5:k<cf.procs.l.length:=by rw[<- S.bl,<- h4];exact hk
  have R:=S.row k h5;rw[hf k h5];rcases R.st with e|⟨e,-⟩|⟨e,-⟩
  .right;unfold z1u;by_cases hp:0<(z6 zC cf.procs.l k).per
   .have:=I2 k h5 hp e;simp[this]
   .have:(z6 zh s.tab k).c.per<=0:=by rw[R.rc];omega
    simp[this]
  .right;unfold z1u;simp[e]
  .left;exact e) (qd0 s.tab).length nL
 have hB:q2g s=q2n (q36 (qn2 (q0c (beginS s)))):=by{show(if(beginS s).mode≠3 then beginS s else q2n (q36 (qn2 (q0c (beginS s)))))=_;rw[Z0 (by rw[show(beginS s).mode=s.mode from rfl,S.mode];simp)]};have hR:q0c (beginS s)={q6a (beginS s) ((q5u (s.win+1) (qd0 s.tab) s.tn (qd0 s.tab).length).l,(q5u (s.win+1) (qd0 s.tab) s.tn (qd0 s.tab).length).tn) with evs:=s.evs++(q5u (s.win+1) (qd0 s.tab) s.tn (qd0 s.tab).length).rel.map λk=>⟨s.part,s.win+1,k,1,0,0⟩}:=by{unfold q0c;dsimp only;rw[show(beginS s).win=s.win+1 from h2,show(beginS s).tab=qd0 s.tab from rfl,show(beginS s).tn=s.tn from rfl,hr.m];show List.foldl _ _ _=_;rw[vi];show({q6a (beginS s) _ with evs:=s.evs++List.map (λk=>(⟨s.part,wrap64 (s.win+1),k,1,0,0⟩:Ev)) _}:Ce)=_;rw[h2]};generalize hrel:q5u (s.win+1) (qd0 s.tab) s.tn (qd0 s.tab).length=x at*;have h7:(q56 s.cf).has.length=cf.procs.l.length:=by{rw[S.hcf];simp[q56]};have h0:∀k,k<cf.procs.l.length->z7 (q56 s.cf).has k=(z6 zC cf.procs.l k).cost:=λk hk=>by{rw[S.hcf];have:=C.cost hk;show z6 0 (cf.procs.l.map _) k=_;rw[q6w zC 0 _ _ hk];omega};have W:StW cf c (q0c (beginS s)):=by{rw[hR];have et:∀k,k<cf.procs.l.length->z6 za (s.tk.map undone) k=undone (z6 za s.tk k):=λk hk=>q6w za za _ _ (by rw[S.tl];exact hk);have h3:∀k,k<cf.procs.l.length->StR cf c k (z6 zh x.l k) (z6 za (s.tk.map undone) k)/\(z6 zh x.l k).park=false/\(z6 za (s.tk.map undone) k).rest=c k:=λk hk=>by{have R:=S.row k hk;obtain⟨l1,l2,l3⟩:=hr.lo k (by rw[h4,S.bl];exact hk);rw[hf k hk]at l1 l2 l3;rw[et k hk];refine⟨⟨l1.trans R.rc,?_,R.pr,R.at_,R.r1,λ_=>I1 k hk⟩,l2,I1 k hk⟩;rcases l3 with e|⟨_,e⟩;{rw[e];exact R.st};{exact .inl e}};refine⟨⟨S.mode,S.hcf,?_,?_,λk hk=>(h3 k hk).1,?_,?_⟩,?_,h7,λk hk _=>⟨(h3 k hk).2.1,?_⟩,λk hk=>?_,?_,?_⟩;{show(s.tk.map undone).length=_;rw[Zh];exact S.tl};{show x.l.length=_;rw[hr.n,h4];exact S.bl};{intro e he;rcases ZE.1 (show e∈s.evs++_ from he) with h|h;{exact S.ev e h};{obtain⟨k,-,rfl⟩:=Zz.1 h;exact(by decide:(0:Int)<=1)}};{show-1<=wrap64 (s.win+1)/\wrap64 (s.win+1)<=1000000000;rw[h2];omega};{show some (q56 s.cf)≠none;simp};{show _<=z7 (q56 s.cf).has k;rw[h0 k hk,show(z6 za (q6a (beginS s) (x.l,x.tn)).tk k).rest=c k from(h3 k hk).2.2];have:=C.cost hk;omega};{show 0<=z7 (q56 s.cf).has k/\z7 (q56 s.cf).has k<=1000000;rw[h0 k hk];have:=C.cost hk;omega};{show z_ _ _<=max 0 s.cf.cap;have:=ym (f:=qN {q6a (beginS s) (x.l,x.tn) with evs:=s.evs++x.rel.map λk=>⟨s.part,s.win+1,k,1,0,0⟩}) (g:=λk=>(z6 zC cf.procs.l k).cost) (n:=cf.procs.l.length) λi hi=>by{have hc:=C.cost hi;have h1:(z6 za (s.tk.map undone) i).rest=c i:=(h3 i hi).2.2;show(if _ then(z6 za (s.tk.map undone) i).rest else 0)<=_;dsimp only;rw[h1];split <;> omega};have:=C.sum;rw[S.hcf];omega};{show max 0 s.cf.cap<=1000000;rw[S.hcf];have:=C.cap;omega}};have h8:(q0c (beginS s)).win=s.win+1:=by{rw[hR];exact h2};have h6:(q0c (beginS s)).sk.room=max 0 cf.cap:=by{rw[hR,<- S.hcf];rfl};rw[hB,W.S.ports,W.S.wakes,W.settle];exact⟨W,h8,h6⟩
theorem StI.pts(I:StI cf c s)(l:List Ps):StI cf c (setPts s l):=⟨⟨I.S.mode,I.S.hcf,I.S.tl,I.S.bl,I.S.row,I.S.ev,I.S.w0⟩,I.rest,I.nx⟩
theorem StC.nn(_C:StC cf c)(S:StW cf c s):0<=s.sk.room:=by have h1:=S.room;have h2:=yd (f:=qN s) (n:=cf.procs.l.length) λi hi=>by{unfold qN;split;{have:=(S.S.row i hi).r1;omega};{exact Zw _}};omega
end
theorem vn{cf:Cf}{pt:Pt}{c:Nat->Int}(C:StC pt c){p:Nat}{en M:Int}(hM:∀x,0<=x->x<=M->q9y cf x<(z6 ze cf.parts.l p).bud/\(qgd (q97 cf.pw.levels.l) x).2=0)(hM2:M<=100000000000) :
  ∀(n:Nat) {s:Sy},p<s.cs.length->p<s.cy.length->StW pt c (z6 z9 s.cs p)->0<=z7 s.cy p->z7 s.cy p+(z6 z9 s.cs p).sk.room<=M->(z6 z9 s.cs p).sk.room<n ->
   StI pt c (z6 z9 (q3e cf p en n s).cs p)/\(z6 z9 (q3e cf p en n s).cs p).win=(z6 z9 s.cs p).win/\0<=z7 (q3e cf p en n s).cy p/\z7 (q3e cf p en n s).cy p<=z7 s.cy p+(z6 z9 s.cs p).sk.room
 |0,s,_,_,W,_,_,hn=>by have:=C.nn W;omega
 |n+1,s,hp,hq,W,h0,h1,hn=>by have hr0:=C.nn W;have hu:=(hM (z7 s.cy p) h0 zo).1;unfold q3e;split;{rename_i h;refine⟨W.nextI ?_,rfl,h0,zo⟩;rcases Int.lt_or_le (q06 (z6 z9 s.cs p)) 0 with q|q;{exact q};{exfalso;obtain⟨k,-,hk,e2,e3⟩:=W.next zo;have:=(W.S.row k hk).r1;unfold q5y q6m at h;rw[Z0 zo]at h;omega}};{rename_i h;have h2:q5y cf s p<=q58 (z6 z9 s.cs p):=qcd h;have h5:¬q06 (z6 z9 s.cs p)<0:=λq=>by{have:q58 (z6 z9 s.cs p)=0:=Z1 q;omega};obtain⟨W',w'⟩:=W.ran C (n:=q5y cf s p) zo h2 h5;have hN:q5x (z6 z9 s.cs p) (q5y cf s p)=q5y cf s p:=by{unfold q5x;omega};have hwr:=vr h5;have hc:z6 z9 (q5z cf p en s).cs p=qb3 (z6 z9 s.cs p) (q5y cf s p):=by{show z6 z9 (s.cs.set p _) p=_;rw[q6j _ _ _ _ _ hp,Z1 rfl]};have h4:(q5z cf p en s).cy=s.cy.set p (z7 s.cy p+q5y cf s p):=by{show(q5r cf s.cy p (if q5x (z6 z9 s.cs p) (q5y cf s p)<1 then 0 else q5x (z6 z9 s.cs p) (q5y cf s p))).2=_;rw[hN,Z0 h];unfold q5r;rw[Z0 zo,Z0 zo,Z0 (by rw[(hM (z7 s.cy p+q5y cf s p) zo zo).2];simp)]};have h3:z7 (q5z cf p en s).cy p=z7 s.cy p+q5y cf s p:=by{rw[h4,qcx _ _ _ _ hq,Z1 rfl]};obtain⟨i1,i2,i3,i4⟩:=vn C hM hM2 n (s:=q5z cf p en s) (by show p<(s.cs.set p _).length;rw[Zd];exact hp) (by rw[h4,Zd];exact hq) (by rw[hc];exact W') (by rw[h3];omega) (by rw[h3,hc,w'];omega) (by rw[hc,w'];omega);refine⟨i1,i2.trans ?_,i3,?_⟩;{rw[hc];obtain⟨m,E⟩:=vk W.sk (n:=q5y cf s p) (by rw[hN];exact h);exact E.wn};{rw[h3,hc,w']at i4;omega}}
def qk(p:Nat):List Wn->Int
 |[]=>0
 |x::l=>(if x.part=p then 1 else 0)+qk p l
theorem yw(p:Nat):∀l,0<=qk p l
 |[]=>Zw _
 |x::l=>by have:=yw p l;unfold qk;split <;> omega
theorem yW(cf:Cf){p:Nat}(en:Int):∀(n:Nat) (s:Sy),p<s.cy.length->(q3e cf p en n s).cy.length=s.cy.length/\∀q,q≠p->z7 (q3e cf p en n s).cy q=z7 s.cy q
 |0,_,_=>⟨rfl,λ_ _=>rfl⟩
 |n+1,s,hp=>by unfold q3e;split;{exact⟨rfl,λ_ _=>rfl⟩};{have h:(q5z cf p en s).cy.length=s.cy.length/\∀q,q≠p->z7 (q5z cf p en s).cy q=z7 s.cy q:=by{show(q5r cf s.cy p _).2.length=_/\∀q,q≠p->z7 (q5r cf s.cy p _).2 q=_;generalize(if q5x (z6 z9 s.cs p) (q5y cf s p)<1 then 0 else q5x (z6 z9 s.cs p) (q5y cf s p))=m;unfold q5r;(repeat' split);all_goals first|exact⟨rfl,λ_ _=>rfl⟩|exact⟨Zd,λq hq=>by rw[qcx _ _ _ _ hp,Z0 hq]⟩};obtain⟨i1,i2⟩:=yW cf en n (q5z cf p en s) (by rw[h.1];exact hp);exact⟨i1.trans h.1,λq hq=>(i2 q hq).trans (h.2 q hq)⟩}
section
variable{cf:Cf}{S:Nat->Prop}{c:Nat->Nat->Int}
structure SuG(cf:Cf)(S:Nat->Prop)(c:Nat->Nat->Int):Prop where
 C:∀p,p<cf.parts.l.length->S p->StC (z6 ze cf.parts.l p) (c p)
 B:∀p,p<cf.parts.l.length->S p->∀m,m<cf.modes.l.length->∀x,0<=x->x<=qk p (z6 zq cf.modes.l m).wins.l*(z6 ze cf.parts.l p).cap->q9y cf x<(z6 ze cf.parts.l p).bud/\(qgd (q97 cf.pw.levels.l) x).2=0
structure StY(cf:Cf)(S:Nat->Prop)(c:Nat->Nat->Int)(k:Int)(s:Sy):Prop where
 y:s.cy.length=cf.parts.l.length
 i:∀p,p<cf.parts.l.length->S p->StI (z6 ze cf.parts.l p) (c p) (z6 z9 s.cs p)/\(z6 z9 s.cs p).win<=k
def xQ(cf:Cf)(S:Nat->Prop)(u:Nat->Int)(s:Sy):Prop:=∀p,p<cf.parts.l.length->S p->0<=z7 s.cy p/\z7 s.cy p<=u p
theorem StY.slot(G:CfG cf)(H:SuG cf S c){k:Int}{s:Sy}(Y:StY cf S c k s)(hn:s.cs.length=cf.parts.l.length){u:Nat->Int}(U:xQ cf S u s){x:Wn}{p0:Nat}(hx:x.part=p0)(hp0:p0<cf.parts.l.length)(hk:k<1000000000)
 {m:Nat}(hm:m<cf.modes.l.length)(hu:S p0->u p0+(z6 ze cf.parts.l p0).cap<=qk p0 (z6 zq cf.modes.l m).wins.l*(z6 ze cf.parts.l p0).cap)(hwl:(z6 zq cf.modes.l m).wins.l.length<=16)(at_:Int)(r:Bool) :
  StY cf S c (k+1) (qbf cf s x at_ r)/\xQ cf S (λp=>u p+(if x.part=p then(z6 ze cf.parts.l p).cap else 0)) (qbf cf s x at_ r):=by
 have h0:∀p,p<cf.parts.l.length->1<=(z6 ze cf.parts.l p).cap:=λp hp=>(qpk (G.pt p hp)).cap.1;have hd:∀s1 s2:Sy,s1.cs=s.cs->s1.cy=s.cy->(s2.cy.length=s1.cy.length/\(∀q,q≠p0->z6 z9 s2.cs q=z6 z9 s1.cs q)/\(∀q,q≠p0->z7 s2.cy q=z7 s1.cy q)/\(S p0->StI (z6 ze cf.parts.l p0) (c p0) (z6 z9 s2.cs p0)/\(z6 z9 s2.cs p0).win<=k+1/\0<=z7 s2.cy p0/\z7 s2.cy p0<=u p0+(z6 ze cf.parts.l p0).cap)) ->
   ∀s3:Sy,SmE s2.cs s3.cs->s3.cy=s2.cy->StY cf S c (k+1) s3/\xQ cf S (λp=>u p+(if x.part=p then(z6 ze cf.parts.l p).cap else 0)) s3:=by
  intro s1 s2 a1 a2 ⟨b1,b2,b3,b4⟩ s3 e1 e2;refine⟨⟨by rw[e2,b1,a2];exact Y.y,λp hp hS=>?_⟩,λp hp hS=>?_⟩
  .obtain⟨l,e⟩:=e1.e p;rw[e];by_cases q:p=p0
   .subst q;exact⟨(b4 hS).1.pts l,(b4 hS).2.1⟩
   .rw[b2 p q,a1];have:=Y.i p hp hS;exact⟨this.1.pts l,QJ this.2 zo⟩
  .rw[e2];dsimp only;by_cases q:p=p0
   .subst q;rw[Z1 hx];exact(b4 hS).2.2
   .rw[b3 p q,a2,Z0 (by rw[hx];omega),Xn];exact U p hp hS
 unfold qbf;dsimp only;rw[show x.part.toNat=p0 by rw[hx];rfl];obtain⟨s1,hb⟩:∃s1:Sy,s1=q1w {s with g:=q2p cf.pw s.g (wrap64 (at_+x.start))} (wrap64 (at_+x.start)) x.part:=⟨_,rfl⟩;have a1:s1.cs=s.cs:=by{rw[hb];rfl};have a2:s1.cy=s.cy:=by{rw[hb];rfl};rw[<- hb];generalize wrap64 (wrap64 (at_+x.start)+x.len)=en;by_cases hr:r=true;{rw[Z1 hr,Z1 hr];refine hd s1 s1 a1 a2 ⟨rfl,λ_ _=>rfl,λ_ _=>rfl,λhS=>?_⟩ _ (SmE.refl _) rfl;rw[a1,a2];have h1:=Y.i p0 hp0 hS;have h2:=U p0 hp0 hS;have:=h0 p0 hp0;exact⟨h1.1,zo,h2.1,zo⟩};{rw[Z0 hr,Z0 hr];have h9:p0<s1.cs.length:=by{rw[a1,hn];exact hp0};have hc:p0<s1.cy.length:=by{rw[a2,Y.y];exact hp0};obtain⟨s0,ha⟩:∃s0:Sy,s0={s1 with cs:=s1.cs.set p0 (q2g (z6 z9 s1.cs p0)),g:=qf4 s1.g}:=⟨_,rfl⟩;have hw:q5i cf s1 p0 en=q2t (q3e cf p0 en ((z6 z9 s0.cs p0).sk.room.toNat+1) s0) p0:=by{rw[ha];rfl};have q1:s0.cy=s1.cy:=by{rw[ha]};have q2:s0.cs=s1.cs.set p0 (q2g (z6 z9 s1.cs p0)):=by{rw[ha]};have q3:z6 z9 s0.cs p0=q2g (z6 z9 s1.cs p0):=by{rw[q2,q6j _ _ _ _ _ h9,Z1 rfl]};have h6:p0<s0.cs.length:=by{rw[q2,Zd];exact h9};obtain⟨y1,y2⟩:=yW cf en ((z6 z9 s0.cs p0).sk.room.toNat+1) s0 (by rw[q1];exact hc);have P:=qdp cf en ((z6 z9 s0.cs p0).sk.room.toNat+1) s0 h6;refine hd s1 (q5i cf s1 p0 en) a1 a2 ⟨?_,λq hq=>?_,λq hq=>?_,λhS=>?_⟩ _ ((SmE.set _ _ _).trans (SmE.fold cf _ _)) rfl;{rw[hw];exact y1.trans (by rw[q1])};{rw[hw];exact(P.o q hq).trans (by rw[q2,q6j _ _ _ _ _ h9,Z0 hq])};{rw[hw];exact(y2 q hq).trans (by rw[q1])};{have C:=H.C p0 hp0 hS;have h1:=Y.i p0 hp0 hS;have h2:=U p0 hp0 hS;rw[<- a1]at h1;rw[<- a2,<- q1]at h2;obtain⟨W,w1,w2⟩:=h1.1.begin_ C zo;have hM:=H.B p0 hp0 hS m hm;have hc0:=h0 p0 hp0;have h8:qk p0 (z6 zq cf.modes.l m).wins.l*(z6 ze cf.parts.l p0).cap<=100000000000:=by{have:∀l,qk p0 l<=(l.length:Int):=λl=>by{induction l with|nil=>{exact Zw _}|cons x l ih=>{unfold qk;rw[Zj];split <;> omega}};have h3:=this (z6 zq cf.modes.l m).wins.l;have h4:=C.cap;have h5:=Int.mul_le_mul (show qk p0 (z6 zq cf.modes.l m).wins.l<=16 by omega) h4 zo zd;omega};have h7:(z6 z9 s0.cs p0).sk.room=(z6 ze cf.parts.l p0).cap:=by{rw[q3,w2];omega};have hu':=hu hS;obtain⟨i1,i2,i3,i4⟩:=vn C (en:=en) hM h8 ((z6 z9 s0.cs p0).sk.room.toNat+1) (s:=s0) h6 (by rw[q1];exact hc) (by rw[q3];exact W) h2.1 (by rw[h7];omega) zo;rw[hw];refine⟨i1,?_,i3,?_⟩;{show(z6 z9 (q3e cf p0 en _ s0).cs p0).win<=_;rw[i2,q3,w1];omega};{show z7 (q3e cf p0 en _ s0).cy p0<=_;omega}}}
end
structure NsP(cf:Pt)(c:Nat->Int)(progs:List (List St))(j:Nat)(s:Ce):Prop where
 m:s.mode=3
 f:s.cf=cf
 e:s.evs = []
 w:s.win = -1
 t:s.tk.length=cf.procs.l.length
 b:s.tab.length=cf.procs.l.length
 hi:∀k,k<cf.procs.l.length->j<=k->z6 zh s.tab k=qqq (z6 zC cf.procs.l k)/\z6 za s.tk k=q90 progs k
 lo:∀k,k<j->StR cf c k (z6 zh s.tab k) (z6 za s.tk k)/\(z6 za s.tk k).rest=c k/\(z6 zh s.tab k).next=(z6 zC cf.procs.l k).per
theorem v_{cf:Pt}{c:Nat->Int}(C:StC cf c){part:Int}{progs:List (List St)}(hp:∀k,k<cf.procs.l.length->k<progs.length/\z6 [] progs k = [qU cf c k]):StI cf c (q8b cf part progs)/\(q8b cf part progs).win = -1:=by have hn:(qd1 cf.procs.l).length=cf.procs.l.length:=by{rw[qt8];have:=C.n8;omega};have h5:∀j,j<=cf.procs.l.length->NsP cf c progs j (q1h (λs k=>q0m s k 0) (qab cf part progs) j):=by{intro j;induction j with|zero=>{intro _;refine⟨rfl,rfl,rfl,rfl,?_,hn,λk hk _=>⟨?_,?_⟩,λk hk=>absurd hk (Zn k)⟩;{show((List.range (qd1 cf.procs.l).length).map (q90 progs)).length=_;rw[Zh,Qv,hn]};{show z6 zh ((cf.procs.l.take 8).map qqq) k=_;rw[Zs C.n8];exact q6w zC zh _ _ hk};{show z6 za ((List.range (qd1 cf.procs.l).length).map (q90 progs)) k=_;rw[q0s (by rw[Zh,Qv,hn];exact hk),QC,List.getElem_range]}}|succ j ih=>{intro hj;have I:=ih zo;rw[q1p];generalize q1h (λs k=>q0m s k 0) (qab cf part progs) j=s at*;have h4:j<s.tk.length:=by{rw[I.t];omega};have h3:j<s.tab.length:=by{rw[I.b];omega};obtain⟨r0,t0⟩:=I.hi j zo nL;obtain⟨p1,p2⟩:=hp j zo;have h2:(q90 progs j).prog = [qU cf c j]:=by{show(if j<progs.length/\0<(z6 [] progs j).length then z6 [] progs j else _)=_;rw[p2,Z1 ⟨p1,zp⟩]};have hc:=C.cost (show j<cf.procs.l.length by omega);have hper:=C.per j zo;obtain⟨T,hT⟩:∃T:Tk,T={(q90 progs j).set 0 with data:=[]}:=⟨_,rfl⟩;have h1:T.prog = [qU cf c j]/\T.at_=0/\T.rest=c j:=by{rw[hT];refine⟨h2,Nat.zero_mod _,?_⟩;show q8n (z6 St0 (q90 progs j).prog (0%(q90 progs j).prog.length)).cyc 1 1073741824=_;rw[h2];show q8n (c j) 1 1073741824=_;unfold q8n;rw[Z0 zo,Z0 zo]};obtain⟨R,hR⟩:∃R:Rw,R=qi1 s.tn {qqq (z6 zC cf.procs.l j) with prio:=(z6 zC cf.procs.l j).prio,next:=wrap64 (0+(z6 zC cf.procs.l j).per)} 1:=⟨_,rfl⟩;have hS:q6n s.tab s.tn j 0=(true,s.tab.set j R,qqn s.tn 1):=by{unfold q6n;rw[Z1 ⟨zo,zo⟩,Z4,r0,Z1 (show(qqq (z6 zC cf.procs.l j)).state=0 from rfl),hR];rfl};have hE:q0m s j 0=q6a (q1d s j T) (s.tab.set j R,qqn s.tn 1):=by{unfold q0m;dsimp only;rw[t0,Z0 (by show ¬(false=true);simp),<- hT];show q6a (q1d s j T) (q6n s.tab s.tn j 0).2=_;rw[hS]};rw[hE];have et:∀k,z6 za (s.tk.set j T) k=if k=j then T else z6 za s.tk k:=λk=>Me.atD_set _ _ _ _ _ h4;have er:∀k,z6 zh (s.tab.set j R) k=if k=j then R else z6 zh s.tab k:=λk=>qcy _ _ _ _ h3;refine⟨I.m,I.f,I.e,I.w,?_,?_,λk hk hjk=>?_,λk hk=>?_⟩;{show(s.tk.set j T).length=_;rw[Zd];exact I.t};{show(s.tab.set j R).length=_;rw[Zd];exact I.b};{show z6 zh (s.tab.set j R) k=_/\z6 za (s.tk.set j T) k=_;rw[et,er,Z0 zo,Z0 zo];exact I.hi k hk zo};{show StR cf c k (z6 zh (s.tab.set j R) k) (z6 za (s.tk.set j T) k)/\(z6 za (s.tk.set j T) k).rest=c k/\(z6 zh (s.tab.set j R) k).next=_;rw[et,er];by_cases e:k=j;{subst e;rw[Z1 rfl,Z1 rfl];refine⟨⟨by rw[hR];rfl,.inl (by rw[hR];rfl),h1.1,h1.2.1,by rw[h1.2.2];omega,λ_=>h1.2.2⟩,h1.2.2,?_⟩;rw[hR];show wrap64 (0+_)=_;by_cases q : -1000000000000<=(z6 zC cf.procs.l k).per;{rw[ye zo];omega};{exfalso;have:=C.pn k zo;omega}};{rw[Z0 e,Z0 e];exact I.lo k zo}}}};have K:=h5 cf.procs.l.length nL;have hE:q8b cf part progs=q1h (λs k=>q0m s k 0) (qab cf part progs) cf.procs.l.length:=by{unfold q8b;rw[hn]};rw[hE];refine⟨⟨⟨K.m,K.f,K.t,K.b,λk hk=>(K.lo k hk).1,λe he=>?_,by rw[K.w];omega⟩,λk hk=>(K.lo k hk).2.1,λk hk h0 _=>?_⟩,K.w⟩;{rw[K.e]at he;exact absurd he ZB};{rw[K.w,(K.lo k hk).2.2];omega}
structure OnI(W:World)(cf:Cf)(S:Nat->Prop)(c:Nat->Nat->Int)(k:Int)(s:Sy):Prop where
 Y:∃a b d,SyI W cf a b d s
 V:EvI cf s
 T:TmI cf s
 Z:StY cf S c k s
section
variable{W:World}{cf:Cf}{S:Nat->Prop}{c:Nat->Nat->Int}{k:Int}{s:Sy}
theorem OnI.slots(G:CfG cf)(H:SuG cf S c){p:Ca.Pg}{m:Nat}(hm:m<cf.modes.l.length)(ha:0<=p.at_/\p.at_<=100000000000):∀(l:List Wn) (x0:Wn) {k:Int} {s:Sy} {u:Nat->Int},OnI W cf S c k s->0<=x0.start->0<=x0.len->x0.start+x0.len<=(z6 zq cf.modes.l m).frame->zQ (qba cf (z6 zq cf.modes.l m)) x0 l=true->zQ (qx6 cf) x0 l=true->s.g.pl.now<=p.at_+x0.start+x0.len ->
  xQ cf S u s->(∀q,q<cf.parts.l.length->S q->u q+qk q l*(z6 ze cf.parts.l q).cap<=qk q (z6 zq cf.modes.l m).wins.l*(z6 ze cf.parts.l q).cap)->k+l.length<=1000000000 ->
  OnI W cf S c (k+l.length) (l.foldl (q4e cf p) s)/\(l.foldl (q4e cf p) s).g.pl.now<=p.at_+(z6 zq cf.modes.l m).frame
 |[],x0,k,s,u,I,_,_,h3,_,_,hn,_,_,_=>⟨by simpa using I,by show s.g.pl.now<=_;omega⟩
 |x::l,x0,k,s,u,I,h1,h2,h3,h4,h5,hn,U,hu,hk=>by
  have h9:(qba cf (z6 zq cf.modes.l m) x x0&&zQ (qba cf (z6 zq cf.modes.l m)) x l)=true:=h4;have hb:(qx6 cf x x0&&zQ (qx6 cf) x l)=true:=h5;rw[Z6]at h9 hb;obtain⟨f1,f2⟩:=h9;obtain⟨g1,g2⟩:=hb;obtain⟨M1,M2,M3,-⟩:=qb0 G hm;have hp1:=G.p1;unfold qba at f1;simp only[Z6,q2q]at f1;rw[zO (a:=(cf.parts.l.length:Int)-1) aH,zO (a:=x0.start+x0.len) aH]at f1;obtain⟨⟨f3,f4⟩,f5⟩:=f1;rw[zO (a:=(z6 zq cf.modes.l m).frame-x.start) aH]at f5;obtain⟨q,hq⟩:=Zf f3.1;have h0:q<cf.parts.l.length:=zo;have hcap:=(qpk (G.pt q h0)).cap;have h7:=yw q l;unfold qx6 at g1;rw[hq,Z4]at g1;have h8:=vP G.pw g1 ⟨zo,zo⟩;have hc:∀i,qk i (x::l)=(if x.part=i then 1 else 0)+qk i l:=λ_=>rfl;obtain⟨⟨a,b,d,Y⟩,V,T,Z⟩:=I;have Y':=Y.slot (x:=x) hq h0 p.at_ (qH (z6 ze cf.parts.l x.part.toNat).lad p.level);have V':=V.slot (x:=x) zo zo p.at_ (qH (z6 ze cf.parts.l x.part.toNat).lad p.level);obtain⟨T',n'⟩:=T.slot G Y V (x:=x) hq h0 ha zo zo zo h8 (qH (z6 ze cf.parts.l x.part.toNat).lad p.level);obtain⟨Z',U'⟩:=Z.slot G H Y.n U (x:=x) hq h0 (by rw[Zj,Q7]at hk;omega) hm (λhS=>by have h6:=hu q h0 hS;rw[hc,Z1 hq,Xa]at h6;have:=QO h7 (show 0<=(z6 ze cf.parts.l q).cap by omega);omega) M3 p.at_ (qH (z6 ze cf.parts.l x.part.toNat).lad p.level)
  obtain⟨J,hJ⟩:=OnI.slots G H hm ha l x (k:=k+1) (s:=q4e cf p s x) ⟨⟨_,_,_,Y'⟩,V',T',Z'⟩ zo zo zo f2 g2 (by rw[show(q4e cf p s x).g.pl.now=_ from n'];omega) U' (λi hi hS=>by
   have h6:=hu i hi hS;rw[hc,Xa]at h6;split
   .rename_i e;rw[Z1 e]at h6;omega
   .rename_i e;rw[Z0 e]at h6;omega) (by rw[Zj,Q7]at hk;omega)
  refine⟨?_,hJ⟩;rw[Zj,Q7,show k+((l.length:Int)+((1:Nat):Int))=k+1+l.length by omega];exact J
theorem OnI.frame(G:CfG cf)(H:SuG cf S c){p:Ca.Pg}{e:Int}(P:PgG cf e p)(hz:0<=p.at_/\p.at_<=100000000000){f:Fm}(hf : -cf.pw.ppm<=f.drift/\f.drift<=cf.pw.ppm)(I:OnI W cf S c k s)(hn:s.g.pl.now<=p.at_)(hk0:k+16<=1000000000) :
  OnI W cf S c (k+16) (q1x cf s p f)/\(q1x cf s p f).g.pl.now=p.end_:=by obtain⟨m,hm⟩:=Zf P.m0;have h0:m<cf.modes.l.length:=by{have:=P.m1;omega};have hG:=G.md m h0;obtain⟨M1,M2,M3,-⟩:=qb0 G h0;unfold qjh at hG;simp only[Z6]at hG;have hpp:=(z1x G.pw).pp;have h1:q8s f.drift=f.drift:=by{unfold q8s;rw[Z0 zo]};obtain⟨⟨a,b,d,Y⟩,V,T,Z⟩:=I;have I1:OnI W cf S c k (qna cf s f):=by{refine⟨⟨a,b,d,Y.n,Y.sn,⟨Y.G.now,Y.G.base,Y.G.done,Y.G.l0,Y.G.l1⟩,Y.C,Y.cap,Y.ev,Y.z,Y.se,Y.bd,Y.ms⟩,V.same (SmE.refl _) rfl rfl,⟨T.I,?_,T.l,T.r,T.z⟩,⟨?_,Z.i⟩⟩;{show _<=q8s f.drift/\q8s f.drift<=_;rw[h1];exact hf};{show(List.replicate _ _).length=_;exact Qr}};have U1:xQ cf S (λ_=>0) (qna cf s f):=λq hq _=>by{show 0<=z7 (List.replicate _ 0) q/\z7 (List.replicate _ 0) q<=0;have:z7 (List.replicate cf.parts.l.length 0) q=0:=by{unfold z7;rw[Z7,List.getElem?_replicate];split <;> rfl};rw[this];exact⟨Zw _,Zw _⟩};obtain⟨J,hJ⟩:=OnI.slots G H h0 hz (z6 zq cf.modes.l m).wins.l zF (s:=qna cf s f) I1 (Zw _) (Zw _) (by show(0:Int)+0<=_;omega) hG.1.2 hG.2 (by show s.g.pl.now<=p.at_+0+0;omega) U1 (λq _ _=>by omega) zo;unfold q1x;rw[hm,Z4];generalize(z6 zq cf.modes.l m).wins.l.foldl (q4e cf p) (qna cf s f)=s2 at*;have h2:=P.z;rw[hm,Z4]at h2;obtain⟨⟨a2,b2,d2,Y2⟩,V2,T2,Z2⟩:=J;obtain⟨T3,n3⟩:=T2.wait G.pw (u:=p.end_) zo zo;have Y3:=Y2.wait p.end_;refine⟨⟨⟨_,_,_,Y3.n,Y3.sn,Y3.G,Y3.C,Y3.cap,Y3.ev,Y3.z,Y3.se,Y3.bd,Y3.ms⟩,V2.same (SmE.refl _) rfl rfl,⟨T3.I,T3.d,T3.l,T3.r,T3.z⟩,⟨Z2.y,λq hq hS=>?_⟩⟩,n3⟩;have:=Z2.i q hq hS;exact⟨this.1,by have:=this.2;show(z6 z9 s2.cs q).win<=k+16;omega⟩
theorem OnI.run(G:CfG cf)(H:SuG cf S c):∀(fs:List Fm) (p:Ca.Pg) {k:Int} {s:Sy},0<=p.mode/\p.mode<cf.modes.l.length->0<=p.end_->p.end_+fs.length*1000000000<=100000000000->(∀f∈fs,-cf.pw.ppm<=f.drift/\f.drift<=cf.pw.ppm)->s.g.pl.now<=p.end_->k+16*fs.length<=1000000000->OnI W cf S c k s ->
  ∃k',OnI W cf S c k' (qdz cf s ((Ca.pagesS cf p fs).zip fs))
 |[],p,k,s,_,_,_,_,_,_,I=>⟨k,by rw[List.zip_nil_right];exact I⟩
 |f::fs,p,k,s,hm,he,hz,hf,hn,hk,I=>by rw[Zj,Q7]at hz hk;obtain⟨q,hq,Q,z1,z2⟩:=qpm G f hm he zo;have hP:Ca.pagesS cf p (f::fs)=q::Ca.pagesS cf q fs:=by{rw[Ca.pagesS,hq]};have hqa:=Q.a;obtain⟨J,hJ⟩:=I.frame G H Q zo (hf f zp) zo zo;rw[hP,List.zip_cons_cons];exact OnI.run G H fs q (s:=q1x cf s q f) ⟨Q.m0,Q.m1⟩ z2 zo (λg hg=>hf g (by simp[hg])) zo zo J
theorem vU{sc:Sc}(hx:q1k.ok W cf)(G:CfG cf)(H:SuG cf S c)(hcap:∀p,p<cf.parts.l.length->(z6 ze cf.parts.l p).cap<=400)(hp0:0<=cf.pw.ppm)(hpr:∀p,p<cf.parts.l.length->S p->∀k,k<(z6 ze cf.parts.l p).procs.l.length->k<(qe (q2c sc p)).length/\z6 [] (qe (q2c sc p)) k = [qU (z6 ze cf.parts.l p) (c p) k]):OnI W cf S c (-1) (q3i cf sc):=by have P:=(z1x G.pw).ln;have hw:wrap64 ((cf.pw.levels.l.length:Int)-1)=(cf.pw.levels.l.length:Int)-1:=zO aH;refine⟨⟨0,0,0,qzj hx G hcap⟩,qwq hx G,⟨⟨Zw _,Zw _,by show(0:Int)<=1000000*0;omega,Zw _,Zw _⟩,⟨by show-cf.pw.ppm<=(0:Int);omega,hp0⟩,⟨cf.pw.levels.l.length-1,?_,zo⟩,Qr,rfl⟩,⟨Qr,λp hp hS=>?_⟩⟩;{show wrap64 _=_;rw[hw];omega};{show StI _ _ (z6 z9 ((List.range cf.parts.l.length).map (q33 cf sc)) p)/\(z6 z9 ((List.range cf.parts.l.length).map (q33 cf sc)) p).win <= -1;rw[q5c hp];obtain⟨h1,h2⟩:=v_ (H.C p hp hS) (part:=p) (hpr p hp hS);exact⟨h1,by show(q8b _ _ _).win<=_;rw[h2];omega⟩}
theorem wD{sc:Sc}(hx:q1k.ok W cf)(G:CfG cf)(H:SuG cf S c)(hcap:∀p,p<cf.parts.l.length->(z6 ze cf.parts.l p).cap<=400)(hpr:∀p,p<cf.parts.l.length->S p->∀k,k<(z6 ze cf.parts.l p).procs.l.length->k<(qe (q2c sc p)).length/\z6 [] (qe (q2c sc p)) k = [qU (z6 ze cf.parts.l p) (c p) k])
 (hfr:sc.frames.l.length<=64)(hdr:∀f∈sc.frames.l,-cf.pw.ppm<=f.drift/\f.drift<=cf.pw.ppm) :
  (qhr cf sc).late=0/\∀e∈(qhr cf sc).evs,0<=e.part/\e.part<cf.parts.l.length/\(S e.part.toNat->0<=e.call):=by have h0:=(z1x G.pw).pp;have hm:=G.m1;obtain⟨k',I⟩:=OnI.run G H sc.frames.l Ca.Pg0 (s:=q3i cf sc) (k := -1) ⟨Zw _,by show(0:Int)<_;omega⟩ (Zw _) (by show(0:Int)+_<=_;omega) hdr (Zw _) zo (vU hx G H hcap h0.1 hpr);refine⟨I.T.z,λe he=>?_⟩;have hr:=I.V.r e he;refine⟨hr.1,hr.2,λhS=>?_⟩;have hp:e.part.toNat<cf.parts.l.length:=zo;have hf:=I.V.f e.part.toNat hp;have:e∈(z6 z9 (qhr cf sc).cs e.part.toNat).evs:=by{rw[show(z6 z9 (qhr cf sc).cs e.part.toNat).evs=_ from hf.symm];exact QG.2 ⟨he,by simp;omega⟩};exact(I.Z.i e.part.toNat hp hS).1.S.ev e this
end
def yX(cy:List UInt8)(x:Pt)(k:Nat):Int:=if k<cy.length then 1+((xg cy k).toNat:Int)%(z6 zC x.procs.l k).cost else 1
theorem yU(p:Nat):∀l:List Wn,qk p l<=l.length
 |[]=>Zw _
 |x::l=>by have:=yU p l;rw[Zj];unfold qk;split <;> omega
theorem wE{cf:Cf}(G:CfG cf)(cy:List UInt8){S:Nat->Prop}(hcap:∀p,p<cf.parts.l.length->(z6 ze cf.parts.l p).cap<=400)
 (h1:∀p,p<cf.parts.l.length->S p->z_ (λk=>(z6 zC (z6 ze cf.parts.l p).procs.l k).cost) (z6 ze cf.parts.l p).procs.l.length<=(z6 ze cf.parts.l p).cap)
 (h2:∀p,p<cf.parts.l.length->S p->∀m,m<cf.modes.l.length->qk p (z6 zq cf.modes.l m).wins.l*(qgd (q97 cf.pw.levels.l) (z6 ze cf.parts.l p).cap).1<(z6 ze cf.parts.l p).bud) :
  SuG cf S λp=>yX cy (z6 ze cf.parts.l p):=by refine⟨λp hp hS=>?_,λp hp hS m hm x x0 hx=>?_⟩;{have P:=qpk (G.pt p hp);have hc:=hcap p hp;have hy:∀k,k<(z6 ze cf.parts.l p).procs.l.length->qx3 (z6 zC (z6 ze cf.parts.l p).procs.l k)=true:=λk hk=>P.pc _ (q0h (d:=zC) hk);simp only[qx3,Z6,q2q]at hy;refine⟨P.pn.2,λk hk=>?_,λk hk=>?_,λk hk=>?_,h1 p hp hS,zo⟩;{have:=hy k hk;unfold yX;split;{have a:=XB ((xg cy k).toNat:Int) (show(z6 zC (z6 ze cf.parts.l p).procs.l k).cost≠0 by omega);have b:=QY ((xg cy k).toNat:Int) (show 0<(z6 zC (z6 ze cf.parts.l p).procs.l k).cost by omega);omega};{omega}};{have:=hy k hk;omega};{have:=hy k hk;omega}};{have hl:=(z1x G.pw).ln;have hj:cf.pw.levels.l.length-1<cf.pw.levels.l.length:=zo;have ht:q97 cf.pw.levels.l=z6 zw cf.pw.levels.l (cf.pw.levels.l.length-1):=by{unfold q97;rw[Z0 zo]};have hq:=xd G.pw hj;have h6:=(z1x G.pw).lp _ hj;have hc:=hcap p hp;have hc1:=(qpk (G.pt p hp)).cap.1;have hn:=yw p (z6 zq cf.modes.l m).wins.l;have h3:=yU p (z6 zq cf.modes.l m).wins.l;have h4:=(qb0 G hm).2.2.1;have h:=h2 p hp hS m hm;rw[<- ht]at hq h6;unfold q9y;have h5:qk p (z6 zq cf.modes.l m).wins.l<=16:=zo;clear h2 h1 hcap ht h3 h4;generalize q97 cf.pw.levels.l=y at*;generalize(z6 ze cf.parts.l p).cap=C at*;generalize qk p (z6 zq cf.modes.l m).wins.l=N at*;have h0:∀z,0<=z->z<=6400->qgd y z=(qj (z*(1000*y.power)) y.freq,0):=λz z0 z1=>by{have e1:=yD (a:=1000) (b:=y.power) zd zo zo;have e2:z*(1000*y.power)<=6400*(1000*1000000):=QJ (Qe z1 zo) (Qg zo zd);unfold qgd;rw[Z0 zo,e1,Z0 zp];exact xC z0 zo zo (QJ (xL zo (QO z0 zo)) (QJ e2 zd))};have hx2:N*C<=16*400:=QJ (Qe h5 zo) (Qg hc zd);rw[h0 C zo zo]at h;rw[h0 x x0 zo];refine⟨Int.lt_of_le_of_lt ?_ h,rfl⟩;show qj (x*(1000*y.power)) y.freq<=N*qj (C*(1000*y.power)) y.freq;refine x_ zo ?_;have g:=yv (a:=C*(1000*y.power)) (c:=y.freq) zo;have s1:=Qe hx (show 0<=1000*y.power by omega);have s2:=Qg g hn;rw[Int.mul_assoc]at s1⊢;exact QJ s1 s2}
end Go.Proofs.YtncfcbohiodnnaaGreat
