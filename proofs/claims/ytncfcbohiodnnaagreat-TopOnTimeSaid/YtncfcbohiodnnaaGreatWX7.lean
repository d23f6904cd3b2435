/- Parts of this seat's claims. -/
import Derived.Test.YtncfcbohiodnnaaGreatWX3
import Derived.Test.YtncfcbohiodnnaaGreatWX5
import Derived.Stop.RegionWithIn
set_option maxRecDepth 100000
set_option maxHeartbeats 6400000
namespace Go.Proofs.YtncfcbohiodnnaaGreat
open Go.RowKit
variable{w w' W wa wo W':World}{c n pt r B j b m mb q base cap id B0:Nat}{A:Option Addr}{a code what:Int}{cs:Array Value}
def qf0(c:Int->Int->Int):List Int->Int
 |[]=>0
 |x::l=>l.foldl (λm y=>if c y m<0 then y else m) x
def q8r(p:Pw)(x:Ls)(en:Int):List Int:=if qh1 p x=true then((List.range p.levels.l.length).filter λj=>decide (q7l p x j<=en)).map λ(j:Nat)=>(j:Int) else[]
def qib(p:Pw)(x:Ls)(en:Int):Int:=if(q8r p x en).length=0 then-1 else qf0 (λa b=>wrap64 (q4s p x a.toNat-q4s p x b.toNat)) (q8r p x en)
def qf1(p:Pw)(x:Ls)(en ch:Int):Int:=if ch<1\/(q8r p x en).length=0 then qib p x en else z7 (q8r p x en) (((ch-1)%(q8r p x en).length).toNat)
def qf2(p:Pw)(now en:Int):Bool:=qgm p&&decide (0<=now)&&decide (now<=en)&&decide (en<=1152921504606846976)
def q5f(x:Np)(now en:Int):Int:=wrap64 (wrap64 (wrap64 (en-now)-x.enter)-x.wake)
def q5h(p:Pw)(x:Np)(now en:Int):Int:=if q5f x now en<0 then 0 else(qje p.slow p.ppm (q5f x now en)).1
def q1a(p:Pw)(k now en:Int):Int:=if qf2 p now en=false\/k<0\/(p.naps.l.length:Int)<=k then 0 else q5h p (z6 zL p.naps.l k.toNat) now en
def q6l(p:Pw)(now en:Int):List Int:=((List.range p.naps.l.length).filter λ(j:Nat)=>decide (0<q1a p j now en)).map λ(j:Nat)=>(j:Int)
def q6b(p:Pw)(x:Np)(now en:Int):Int :=
 if(q0j p.slow 0 (q5h p x now en)).2≠0\/q5f x now en<(q0j p.slow 0 (q5h p x now en)).1 then q5f x now en else(q0j p.slow 0 (q5h p x now en)).1
def q31(p:Pw)(k:Int)(now en:Int):Int :=
 let x:=z6 zL p.naps.l k.toNat
 wrap64 (wrap64 (wrap64 (p.change*wrap64 (x.enter+x.wake))+wrap64 (x.power*q6b p x now en))+wrap64 (p.idle*wrap64 (q5f x now en-q6b p x now en)))
def qf3(p:Pw)(now en:Int):Int :=
 if(q6l p now en).length=0\/1099511627776<wrap64 (en-now) then-1
 else
  let b:=qf0 (λa b=>wrap64 (q31 p a now en-q31 p b now en)) (q6l p now en)
  if wrap64 (p.idle*wrap64 (en-now))<=q31 p b now en then-1 else b
def q37(p:Pw)(now en ch:Int):Int:=if ch<1 then qf3 p now en else z7 (-1::q6l p now en) (((ch-1)%((q6l p now en).length+1:Nat)).toNat)
structure Bd where
 due:Int
 at_:Int
 part:Int
def Bd.f(x:Bd):List Value:=[ii x.due,ii x.at_,ii x.part]
structure Mg where
 chan:Int
 win:Int
 data:List UInt8
structure Gv where
 base:Int
 done:Int
 pl:Pn
 first:Int
 n:Int
 drift:Int
def q05(g:Gv):Int×Gv:=if g.first<1 then(0,g) else(wrap64 (wrap64 (min g.first 1000000+wrap64 (g.n+1))-1),{g with n:=wrap64 (g.n+1)})
def q2p(c:Pw)(g:Gv)(u:Int):Gv :=
 if u<=g.pl.now then g
 else
  let g1:=(q05 g).2
  let k:=q37 c g.pl.now u (q05 g).1
  let g2:=if 0<=k then{g1 with pl:=(qex c g1.pl k (q1a c k g1.pl.now u) g1.drift).2} else g1
  if g2.pl.now<u then{g2 with pl:=(q7k c g2.pl u).2} else g2
def qf4(g:Gv):Gv:={g with pl:={g.pl with base:=g.pl.now,done:=0},base:=g.pl.now,done:=0}
def q7m(c:Pw)(g:Gv)(left en:Int):Int :=
 let k:=qf1 c ⟨g.pl.now,g.base,g.done,g.pl.level,left⟩ en (q05 g).1
 if k<0 then wrap64 (c.levels.l.length-1) else k
def qtx(c:Pw)(g:Gv)(part n left en:Int):Gv :=
 let k:=q7m c g left en
 let g1:=(q05 g).2
 let g2:=if k≠g.pl.level then{g1 with pl:=(turnS c g1.pl k).2,base:=(turnS c g1.pl k).2.now,done:=0} else g1
 {g2 with pl:=(qi9 c g2.pl part n).2,done:=wrap64 (g2.done+n)}
structure Sy where
 evs:List Ev
 msgs:List Mg
 bounds:List Bd
 sheds:List Int
 modes:List Int
 creds:List (List Int)
 late:Int
 g:Gv
 cs:List Ce
 seen:List Nat
 cy:List Int
def z9:Ce:=⟨ze,0,0,0,[],[],0,[],[],⟨[],[],[],[]⟩,none,[]⟩
def q1w(s:Sy)(due part:Int):Sy:={s with bounds:=s.bounds ++ [⟨due,s.g.pl.now,part⟩],late:=if due<s.g.pl.now then wrap64 (s.late+1) else s.late}
def q5y(cf:Cf)(s:Sy)(p:Nat):Int:=q6m cf s.cy p (q58 (z6 z9 s.cs p))
def q5z(cf:Cf)(p:Nat)(en:Int)(s:Sy):Sy :=
 let n:=q5y cf s p
 let c:=z6 z9 s.cs p
 {s with g:=qtx cf.pw s.g p n (qgz c) en,cs:=s.cs.set p (qb3 c n),cy:=(q5r cf s.cy p (if q5x c n<1 then 0 else q5x c n)).2}
def q3e(cf:Cf)(p:Nat)(en:Int):Nat->Sy->Sy
 |0,s=>s
 |n+1,s=>if q5y cf s p<1 then s else q3e cf p en n (q5z cf p en s)
def q2t(s:Sy)(p:Nat):Sy:={s with evs:=s.evs++(z6 z9 s.cs p).evs.drop (s.seen.getD p 0),seen:=s.seen.set p (z6 z9 s.cs p).evs.length}
def q5i(cf:Cf)(s:Sy)(p:Nat)(en:Int):Sy :=
 let s1:={s with cs:=s.cs.set p (q2g (z6 z9 s.cs p)),g:=qf4 s.g}
 q2t (q3e cf p en ((z6 z9 s1.cs p).sk.room.toNat+1) s1) p
def q6v(cf:Cf)(p:Int):List Nat:=(List.range (min cf.chans.l.length 16)).filter λk=>(z6 zu cf.chans.l k).fr.part==p
def q2i(cf:Cf)(win:Int):List Nat->List (Int×List (List UInt8))->List Ps->List Mg->List Mg×List Ps
 |[],_,l,out=>(out,l)
 |k::ks,seen,l,out=>
  let pt:=(z6 zu cf.chans.l k).fr.port
  match seen.lookup pt with
  |some bs=>q2i cf win ks seen l (out++bs.map λb=>⟨k,win,b⟩)
  |none=>q2i cf win ks (seen ++ [(pt,(q0x l pt).1)]) (q0x l pt).2 (out++(q0x l pt).1.map λb=>⟨k,win,b⟩)
def setPts(s:Ce)(l:List Ps):Ce:={s with pts:=l}
def q0v(cf:Cf)(cs:List Ce)(m:Mg):List Ce :=
 if m.chan<0\/((min cf.chans.l.length 16:Nat):Int)<=m.chan then cs
 else
  let x:=z6 zu cf.chans.l m.chan.toNat
  if x.to.part<0\/(cs.length:Int)<=x.to.part then cs
  else cs.set x.to.part.toNat (setPts (z6 z9 cs x.to.part.toNat) (q0u (z6 z9 cs x.to.part.toNat).pts x.to.port m.data).2)
def q7n(cf:Cf)(s:Sy)(p:Nat):Sy :=
 let r:=q2i cf (z6 z9 s.cs p).win (q6v cf p) [] (z6 z9 s.cs p).pts []
 let ms:=r.1.take 4096
 {s with msgs:=s.msgs++ms,cs:=ms.foldl (q0v cf) (s.cs.set p (setPts (z6 z9 s.cs p) r.2))}
def qbf(cf:Cf)(s:Sy)(x:Wn)(at_:Int)(rests:Bool):Sy :=
 let fr:=wrap64 (at_+x.start)
 let u:=wrap64 (fr+x.len)
 let s1:=q1w {s with g:=q2p cf.pw s.g fr} fr x.part
 let s2:=if rests=true then s1 else q5i cf s1 x.part.toNat u
 let s3:=q1w {s2 with g:=q2p cf.pw s2.g u} u (-1)
 if rests=true then s3 else q7n cf s3 x.part.toNat
def q2b(c:Int->Int->Int)(m y:Int):Int:=if c y m<0 then y else m
theorem qbu(c:Int->Int->Int)(x:Int)(l:List Int):qf0 c (x::l)=l.foldl (q2b c) x:=rfl
theorem qnf(c:Int->Int->Int)(x:Int)(l:List Int){k:Nat}(hk:k<l.length):(l.take (k+1)).foldl (q2b c) x=q2b c ((l.take k).foldl (q2b c) x) (z7 l k):=by rw[Zm hk,ZJ,q2v hk];rfl
theorem qda(c:Int->Int->Int):∀(l:List Int) (x:Int),l.foldl (q2b c) x∈x::l
 |[],x=>by simp
 |y::l,x=>by have:=qda c l (q2b c x y);show l.foldl (q2b c) (q2b c x y)∈_;rcases Zx.1 this with h|h;{rw[h];unfold q2b;split <;> simp};{simp[h]}
def qzx(cp:Array Value)(ar:Int->Int->Array Value):Prop :=
 ∀ {w:World} {A:Option Addr} {n c:Nat} {x:Int} {l:List Int},zI w A n c (x::l)->∀ {id:FuncId} {cmp:Int->Int->Int},(∀(w:World) (a b:Int),Sem.run Tryz.prog (callFunc id (ar a b)) w=.ok (.enter id (ar a b)) w) ->
  (∀(w':World) (a b:Int),a∈x::l->b∈x::l->bW w w'->cP id (ar a b) w' λe w''=>e=.returned (ii (cmp a b))/\bW w' w'') ->
  cP 269 #[.slice A n c,.func (.func id) #[] cp] w λe w'=>e=.returned (ii (qf0 cmp (x::l)))/\bW w w'
theorem z1w{cp:Array Value}{ar:Int->Int->Array Value}(s:qzx cp ar:=by
   intro w A n c x l h id cmp hid hC;dsimp only at hid hC;have hn:n=l.length+1:=h.2.1.symm;subst hn;have hlen:=h.len;obtain⟨b,o,rfl,hb,hc⟩:=h.at_ (k:=0) zo;rw[Qa]at hc;have hx:z7 (x::l) 0=x:=rfl;rw[hx]at hc;clear hx;obtain⟨wo,rfl⟩:=aU w;have h3:=zhd hC;clear hC;refine zi ?_;go_wp2_with fail;go_loopw[5,6] (λv i wr=>∃k:Nat,k<=l.length/\v=.int .i64 ((l.take k).foldl (q2b cmp) x)/\i=.int .i64 ((k+1:Nat):Int)/\bW wo wr) (λ_ i _=>l.length+1-(intOf i).toNat)
   case atStart=>exact⟨0,Za _,rfl,rfl,bR⟩
   case round=>
    clear hb hc;obtain⟨k,hk,rfl,rfl,hB⟩:=hrel;by_cases h0:k<l.length
    .obtain⟨b',o',e,hb,hc⟩:=(h.keep hB).at_ (k:=k+1) zo;cases e;have h2:z7 (x::l) (k+1)=z7 l k:=rfl;rw[h2]at hc;have hw1:wrap64 (((k+1:Nat):Int)+1)=((k+1+1:Nat):Int):=by unfold wrap64;omega
     have hs:=qnf cmp x l h0;have m1:z7 l k∈x::l:=by rw[q2v h0];exact Q5 _ (ZO h0)
     have m2:(l.take k).foldl (q2b cmp) x∈x::l:=by
      rcases Zx.1 (qda cmp (l.take k) x) with h|h
      .rw[h];simp
      .exact Q5 _ (ZV h)
     have hD:=zhd (h3.out wr _ _ m1 m2 hB);have HM:=zhd hs;clear hs m1 m2 h2;generalize(l.take k).foldl (q2b cmp) x=m at*;generalize z7 l k=y at*;have hidd:=hid wr y m;go_wp2_with(refine hD.out.mono ?_;rintro _ w2⟨rfl,h1⟩;have hc2:=((qcl h1).1 _ (o+(k+1)) hb).trans hc;have hl2:=Zg hb h1.size)
     all_goals rename_i hcm
     .exact⟨⟨k+1,h0,by rw[HM.out];unfold q2b;rw[Z1 hcm],rfl,bt hB h1⟩,by simp[intOf];omega⟩
     .exact⟨⟨k+1,h0,by rw[HM.out];unfold q2b;rw[Z0 zo],rfl,bt hB h1⟩,by simp[intOf];omega⟩
    .obtain rfl:k=l.length:=zo;go_wp2;go_returns;exact⟨by rw[qbu,ZF];rfl,hB⟩):qzx cp ar:=s
theorem qh3{k1 k2:Value}:qzx #[k1,k2] (λa b=>#[ii a,ii b,k1,k2]):=z1w
theorem qf5{k1 k2 k3:Value}:qzx #[k1,k2,k3] (λa b=>#[ii a,ii b,k1,k2,k3]):=z1w
section
open Go.RowKit Go.Shelf
attribute [local go_sem] Oper.semAt_some
def qbl(p:Pw)(x:Ls)(en:Int)(k:Nat):List Int:=((List.range k).filter λj=>decide (q7l p x j<=en)).map λ(j:Nat)=>(j:Int)
theorem qat(p:Pw)(x:Ls)(en:Int)(k:Nat):qbl p x en (k+1)=qbl p x en k++(if q7l p x k<=en then[(k:Int)] else[]):=by unfold qbl;rw[ZY,QE,Zk];by_cases h:q7l p x k<=en <;> simp[h]
theorem qcc(p:Pw)(x:Ls)(en:Int){k:Nat}(hf:q7l p x k<=en):∀ {n:Nat},k<n->∃r,qbl p x en n=qbl p x en k++(k:Int)::r
 |0,h=>absurd h zo
 |n+1,h=>by by_cases q:k=n;{subst q;exact⟨[],by rw[qat,Z1 hf]⟩};{obtain⟨r,hr⟩:=qcc p x en hf (n:=n) zo;exact⟨r++_,by rw[qat,hr,ZU,QR]⟩}
theorem qsp(p:Pw)(x:Ls)(en:Int)(k:Nat):(qbl p x en k).length<=k:=by unfold qbl;rw[Zh];exact Zb (Qs _ _) zp
theorem qsq{p:Pw}{x:Ls}{en:Int}{k:Nat}(h:a∈qbl p x en k):∃j:Nat,a=j/\j<k:=by unfold qbl at h;rw[Zz]at h;obtain⟨j,hj,rfl⟩:=h;rw[QG,ZQ]at hj;exact⟨j,rfl,hj.1⟩
theorem qfz{p:Pw}{x:Ls}{en:Int}(hp:q1y.ok wa p)(hx:x.ok)(hwa:bW wa w){gx gp ge:Nat}(kx:Blk w gx 431 (Ls.lw x))(kp:Blk w gp 28 (Pw.lw p))(ke:Blk w ge 3 #[ii en])
 {K:Nat->Prop}(hK1:∀b,b<wa.heap.size->K b)(hKx:K gx)(hKp:K gp)(hKe:K ge) :
  qx7 Tryz.prog 382 #[pp gx,pp gp,pp ge] (qqs (q8r p x en)) (q8r p x en).length K w:=by
 intro l J Jx T W hW hJ hJx hT0 hTb hY h0;replace kx:=kx.fr hW (λh=>h hKx);replace kp:=kp.fr hW (λh=>h hKp);replace ke:=ke.fr hW (λh=>h hKe);have h5:bW wa W:=hwa.trans (hW.below (λb hb h=>h (hK1 b hb)) hwa.size);have cx:=kx.cell;have cp:=kp.cell;have lx:=kx.lt;have lp:=kp.lt;have hn:=hp.1.1.len;have hM:=λw' hb=>qrb (w:=w') (x:=x) (q1y.keep hp hb);cases hm:qh1 p x with
 |false=>
  have hS:q8r p x en = []:=by unfold q8r;rw[hm];rfl
  rw[hm]at hM;rw[hS]at hY⊢;refine zi ?_;go_wp2_with(first|(go_fit (up (W:=W) (hM _ h5) zv);rintro _ w1⟨rfl,hb,hs,hc,hf,hl,hB⟩));go_returns;exact⟨⟨_,rfl⟩,T,fO hb _,(λb h=>⟨.inl h,hl _ (hTb b h)⟩),.inl (hJ _ _ _ _ h0 (fO hb _))⟩
 |true=>
  have hS:q8r p x en=qbl p x en p.levels.l.length:=by unfold q8r;rw[hm];rfl
  rw[hm]at hM;rw[hS]at hY⊢;clear hm hS;refine zi ?_;go_wp2_with(first|(go_fit (up (W:=W) (hM _ h5) zv);rintro _ w1⟨rfl,hb,hs,hc,hf,hl,hB⟩));go_loopw[13] (λi wr=>∃(k:Nat) (T':Nat->Prop),i=.int .i64 k/\k<=p.levels.l.length/\Fr T W wr/\zV T T' W wr/\J (qbl p x en k).length T' wr) (λi _=>p.levels.l.length-(intOf i).toNat)
  case atStart=>exact⟨0,T,rfl,Za _,fO hb _,(λb h=>⟨.inl h,hl _ (hTb b h)⟩),hJ _ _ _ _ h0 (fO hb _)⟩
  case round=>
   clear hc hf hl hb hs hB cx cp lx lp;obtain⟨k,T',rfl,hkn,hF,hG,ha⟩:=hrel;by_cases hk:k<p.levels.l.length
   .have hg:=kx.fr hF (λh=>hT0 _ h hKx);have he:=kp.fr hF (λh=>hT0 _ h hKp);have h6:=ke.fr hF (λh=>hT0 _ h hKe);have hd:bW wa wr:=h5.trans (hF.below (λb hb h=>hT0 b h (hK1 b hb)) h5.size);have cx:=hg.cell;have cp:=he.cell;have ce:=h6.cell;have lx:=hg.lt;have lp:=he.lt;have le:=h6.lt;have hw1:wrap64 ((k:Int)+1)=((k+1:Nat):Int):=by unfold wrap64;omega
    have hs:=qat p x en k;have h7:=λh=>qcc p x en (k:=k) h hk;have hT:=λw' hb=>qia (w:=w') (q1y.keep hp hb) hx hk;generalize q7l p x k=e1 at*;have h2:∀W1,bW wr W1->Fr T W W1/\zV T T' W W1/\J (qbl p x en k).length T' W1:=λW1 hb=>⟨hF.trans (fO hb _),λb h=>⟨(hG b h).1,Zg (hG b h).2 hb.size⟩,hJ _ _ _ _ ha (fO hb _)⟩;by_cases q:e1<=en
    .have b1:decide (e1<=en)=true:=Z5 q;rw[Z1 q]at hs;obtain⟨r,hr⟩:=h7 q;have hh:∀W1,bW wr W1->YieldAt Fence.wide 0 Tryz.prog l #[ii k] W1 λe W'=>∃T2 b,Fr T W W'/\zV T T2 W W'/\e=.returned (.bool b)/\((b=true/\J ((qbl p x en k).length+1) T2 W')\/(b=false/\Jx ((qbl p x en k).length+1) T2 W')):=λW1 hb=>by
      obtain⟨f1,f2,f3⟩:=h2 W1 hb;have:=hY (qbl p x en k).length T' W1 (by rw[hr];simp) f3 f2.bnd;rw[show qqs (qbl p x en p.levels.l.length) (qbl p x en k).length = #[ii k] by unfold qqs;rw[hr,qms]]at this;obtain⟨fn,h4,h1,h3,hy,hR⟩:=this;refine⟨fn,h4,h1,h3,hy,hR.mono ?_⟩;rintro e W'⟨T2,g1,g2,(⟨rfl,g3⟩|⟨rfl,g3⟩)⟩
      .exact⟨T2,true,f1.grw f2 g1,f2.trans f1.size g2,rfl,.inl ⟨rfl,g3⟩⟩
      .exact⟨T2,false,f1.grw f2 g1,f2.trans f1.size g2,rfl,.inr ⟨rfl,g3⟩⟩
     have HS:=zhd (show(qbl p x en (k+1)).length=(qbl p x en k).length+1 by rw[hs];simp);have HN:=zhd (show(qbl p x en k).length+1<=(qbl p x en p.levels.l.length).length by rw[hr];simp);clear hs hr h7 h2 q;go_wp2_with fail;refine(wpIn_wide (n:=1)).1 ?_;gi_region_with (first|(refine⟨trivial,QU.2 ((up (W:=wr) (hT _ (bt hd zv)) zv).mono ?_)⟩;rintro _ w5⟨rfl,hb,hs,hc,hf,hl,hB⟩;obtain⟨fn,h4,h1,h3,hy,hR⟩:=hh w5 hb;obtain⟨ce,le⟩:=(h6.keep hb).cl)|(refine hR.mono ?_;rintro _ w6⟨T2,b,h8,h9,rfl,hq⟩))
     all_goals(
      rcases hq with⟨rfl,hJ6⟩|⟨rfl,hJx6⟩
      .gi_wp2
       go_wp2;exact⟨⟨k+1,T2,by go_num,hk,h8,h9,by rw[HS.out];exact hJ6⟩,by simp[intOf];omega⟩
      .gi_wp2
       go_wp2;go_returns;exact⟨⟨_,rfl⟩,T2,h8,h9,.inr ⟨_,HN.out,hJx6⟩⟩)
    .have b1:decide (e1<=en)=false:=Z3 q;rw[Z0 q,ZG]at hs;have HS:=zhd (Zy List.length hs);have HN:=zhd h2;clear hs h7 q h2;go_wp2_with fail;refine zW [(3,0),(5,0)] λU V=>?_;go_wp2_with fail;go_fit (hT _ (bt hd bR.drew));rintro _ w5⟨rfl,hj⟩;have B5:=bt bR.drew hj;refine zG (fO B5 _) ?_;clear V U;refine wpQuiet_nil (q48 rfl ?_);refine zN ?_;refine wpQuiet_nil ?_;go_wp2_with fail;obtain⟨g1,g2,g3⟩:=HN.out _ B5;exact⟨⟨k+1,T',by go_num,hk,g1,g2,by rw[HS.out];exact g3⟩,by simp[intOf];omega⟩
   .obtain rfl:k=p.levels.l.length:=zo;go_wp2;go_returns;exact⟨⟨_,rfl⟩,T',hF,hG,.inl ha⟩
end
end Go.Proofs.YtncfcbohiodnnaaGreat
