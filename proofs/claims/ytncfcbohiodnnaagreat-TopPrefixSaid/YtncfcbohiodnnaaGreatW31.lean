/- Parts of this seat's claims. -/
import Derived.Test.YtncfcbohiodnnaaGreatW30
set_option maxRecDepth 100000
set_option maxHeartbeats 6400000
namespace Go.Proofs.YtncfcbohiodnnaaGreat
open Go.RowKit
variable{w w' W wa wo W':World} {c n pt r B j b m mb q base cap id B0:Nat} {A:Option Addr} {a code what:Int} {cs:Array Value}
structure GvI(c:Pw) (s:Gv):Prop where
 now:i64 s.pl.now
 base:i64 s.base
 done:i64 s.done
 l0:0<=s.pl.level
 l1:s.pl.level < c.levels.l.length
section
variable{W w0 w:World} {x:Gx} {c:Pw} {s:Gv}
def q42(c:Pw) (s:Gv) (k:Int):Gv:=if k≠s.pl.level then { s with pl:=(turnS c s.pl k).2,base:=(turnS c s.pl k).2.now,done:=0 } else s
def qsr(c:Pw) (s:Gv) (l en:Int):Int:=qf1 c ⟨s.pl.now,s.base,s.done,s.pl.level,l⟩ en (q05 s).1
theorem qow(c:Pw) (s:Gv) (l en:Int):q7m c s l en=if qsr c s l en < 0 then wrap64 (c.levels.l.length - 1) else qsr c s l en:=rfl
def qzy(c:Pw) (s:Gv) (part n:Int):Gv:={ s with pl:=(qi9 c s.pl part n).2,done:=wrap64 (s.done + n) }
theorem qox(c:Pw) (s:Gv) (part n l en:Int):qtx c s part n l en=qzy c (q42 c (q05 s).2 (q7m c s l en)) part n:=by
 unfold qtx qzy q42;simp only[q3h]
theorem qu5:∀ (l:List Sp) (x:Pn),(goS x l).2.level=x.level
 | [],_=>rfl
 | s :: l,x=>by
  unfold goS;split
  .exact qu5 l _
  .rfl
theorem q80(x:Pn) (l:List Sp):(q0r x l).2.level=x.level:=by
 unfold q0r;split
 .exact qu5 l x
 .rfl
theorem qss(c:Pw) (x:Pn) (k:Int):(turnS c x k).2.level=x.level\/0<=k/\k < c.levels.l.length/\(turnS c x k).2.level=k:=by
 unfold turnS;by_cases h1:k < 0\/(c.levels.l.length:Int)<=k
 .rw[if_pos h1];exact .inl rfl
 rw[if_neg h1];by_cases h2:k=x.level
 .rw[if_pos h2];exact .inl rfl
 rw[if_neg h2];by_cases h3:(q0r x [⟨3,0,c.change,c.sw⟩]).1=0
 .rw[if_pos h3];exact .inr ⟨zo,zo,rfl⟩
 .rw[if_neg h3];exact .inl (q80 _ _)
theorem q81{c:Pw} {s:Gv} (k:Int) (h0:0<=s.pl.level) (h1:s.pl.level < c.levels.l.length):0<=(q42 c s k).pl.level/\(q42 c s k).pl.level < c.levels.l.length:=by
 unfold q42;split
 .rcases qss c s.pl k with h | ⟨a,b,h⟩
  .dsimp only;rw[h];exact⟨h0,h1⟩
  .dsimp only;rw[h];exact⟨a,b⟩
 .exact⟨h0,h1⟩
theorem Gn.done_(N:Gn W w0 w x c s) (d:Int):Gn W w0 (w.setCell ⟨x.g,1,none⟩ (ii d)) x c { s with done:=d }:=by
 have h:Fr (λk=>k=x.g) w (w.setCell ⟨x.g,1,none⟩ (ii d)):=(Fr.refl (λk=>k=x.g) w).setCell (p:=⟨x.g,1,none⟩) (λ_=>rfl) _;have h':Fr (GS x) w _:=h.mono λk _ hk => .inl hk;obtain⟨a1,a2,a3,a4,a5⟩:=N.ne;exact⟨N.bel h',N.F.trans h',N.hc,N.k.set_ 1 _,N.P.fr h (λe=>a1 e.symm) (λe=>a2 e.symm) (λe=>a3 e.symm),N.f.fr h (λe=>a5 e.symm),N.n.fr h (λe=>a4 e.symm),N.le,N.ne,N.nn,N.nf,N.i,N.nl⟩
theorem qst(N:Gn W w0 w x c s) (I:GvI c s) {part n l en:Int} (hl:i64 l):cP 189 #[pp x.g,ii part,ii n,ii l,ii en] w λe w'=>e = .returned (.tuple #[])/\Gn W w0 w' x c (qtx c s part n l en):=by
 have HE:=zhd (qox c s part n l en);have HL:=zhd (qow c s l en);have he:Ls.ok ⟨s.pl.now,s.base,s.done,s.pl.level,l⟩:=⟨I.now,I.base,I.done,(show i64 s.pl.level by have:=I.l0;have:=I.l1;have:=N.nl.out.2;unfold i64;omega),hl⟩
 obtain⟨kc,lg⟩:=N.k.cl;refine inC ?_;go_in;go_upto_region 0 with fail;go_cut [10] (λv wx=>∃ q,v = .pointer (some ⟨q,0,none⟩)/\Blk wx q 431 #[.int .i64 s.pl.now,.int .i64 s.base,.int .i64 s.done,.int .i64 s.pl.level,.int .i64 l]/\bW w wx/\w.heap.size<=q)
 case first =>
  apply z2o 23 22 [12,13,14,15,16,17,18,19,20,21,22,23,24,25,26,27,28,29,30,31,32,33,10] [[],[0],[1],[2],[3],[],[5],[6],[7],[8],[],[10],[11],[12],[13],[],[15],[16],[17],[18],[],[4,9,14,19,20]] [_,_,_,_,_,_,_,_,_,_,_,_,_,_,_,_,_,_,_,_,_,_,undef] 431 #[ii 0,ii 0,ii 0,ii 0,ii 0] zk zk zd
  case hs =>
   refine⟨⟨⟨⟨⟨⟨⟨⟨⟨⟨⟨⟨⟨⟨⟨⟨⟨⟨⟨⟨⟨⟨⟨trivial,?_⟩,?_⟩,?_⟩,?_⟩,?_⟩,?_⟩,?_⟩,?_⟩,?_⟩,?_⟩,?_⟩,?_⟩,?_⟩,?_⟩,?_⟩,?_⟩,?_⟩,?_⟩,?_⟩,?_⟩,?_⟩,?_⟩,λh=>absurd rfl h⟩
   all_goals
    intro _ X u hB;simp only[frX,setL,z2t,List.foldl,List.setIfInBounds_toArray,List.set_cons_succ,List.set_cons_zero,List.getD_cons_zero,List.getD_cons_succ,Nat.reduceEqDiff,reduceIte];have M:=N.keep hB;obtain⟨mc,ml⟩:=M.k.cl;have hP:=q20 M.P;have hL:=q8c M.P;refine q1g rfl rfl (λK' hK'=>?_);go_wp2_with (first | (refine hP.mono ?_;rintro _ _ ⟨rfl,rfl⟩) | (refine hL.mono ?_;rintro _ _ ⟨rfl,rfl⟩));exact hK' _ _ rfl ⟨rfl,bR⟩
  case hf =>
   intro X u hB;simp only[frX,z2t,List.foldl,List.setIfInBounds_toArray,List.set_cons_succ,List.set_cons_zero,List.getD_cons_zero,List.getD_cons_succ,Nat.reduceEqDiff,reduceIte];refine q1g rfl rfl (λK' hK'=>?_);go_wp2_with fail;exact hK' _ _ rfl ⟨u.heap.size,rfl,zA u _,Blk.new _ _ _,nL⟩
  case hz =>
   intro X u q hB hg hq k hwq;have g:=hg 21 zd zd;simp only[List.getD_cons_zero,List.getD_cons_succ]at g hq;simp only[frX,List.foldl,List.setIfInBounds_toArray,List.set_cons_succ,List.set_cons_zero];rw[g,hq];clear hg hq g;have kc:=k.cell;have kf:=k.frozen;have kl:=k.lt;refine q1g rfl rfl (λK' hK'=>?_);go_wp2_with fail;have nK:=Blk.row (vs:=[ii s.pl.now,ii s.base,ii s.done,ii s.pl.level,ii l]) k rfl;have nB:=Below.row (g:=q) [ii s.pl.now,ii s.base,ii s.done,ii s.pl.level,ii l] 0 hB hwq;refine hK' _ _ rfl ?_;go_wp2_with fail;go_meet
   case rel=>exact⟨q,rfl,nK,nB,hwq⟩
 case rest =>
  obtain⟨q,rfl,kq,hB,hq⟩:=hcut;have hd:q≠x.nb:=λe=>by have:=N.n.lt;omega
  have hj:q≠x.g:=λe=>by omega
  have HQG:=zhd hj;have HQ3:Hid (∀ k,S3 x.p x.m x.r k->k≠q):=λk hk e=>by
   have h1:=N.P.b.lt;have h2:=N.P.m.b.lt;have h3:=N.P.m.c.lt;rcases hk with h | h | h <;> omega
  have N:=N.keep hB;obtain⟨kc,lg⟩:=N.k.cl;obtain⟨kx,lx⟩:=kq.cl;have hh:x.g≠x.nb:=N.ne.2.2.2.1;have h8:=zhd (qfy s);have ha:=zhd (q3h s);have hb:=zhd he;have h4:Hid (0<=(q05 s).2.pl.level/\(q05 s).2.pl.level < c.levels.l.length):=by rw[ha.out];exact⟨I.l0,I.l1⟩
  clear hB hq he I hl;have h9:Hid (qsr c s l en=qf1 c ⟨s.pl.now,s.base,s.done,s.pl.level,l⟩ en (q05 s).1):=rfl;go_upto_region 2 with (((with_reducible refine q88 (λk=>k=x.nb) [(10,0),(0,2)] ?_);(try simp only[q03,tkO,dpO]);(repeat(go_big_quiet_step (fail)));refine qwW (λK' hK'=>?_);go_wp2_with fail;go_at_call 126;refine(qcb (N.keep bR.drew)).mono ?_;rintro _ w2 ⟨rfl,N,f2⟩;refine zGB ((fO bR.drew _).trans f2) ?_;clear hK' K';intro K' hK';go_wp2_with fail;go_at_call 257;refine(qov N.pw hb.out N.nl.out.2 h8.out).mono ?_;rintro _ w3 ⟨rfl,b3⟩;refine zE ?_;clear hK' K');have N:=N.keep b3;have kq:=(kq.fr ((fO bR.drew (λk=>k=x.nb)).trans f2) hd).keep b3;obtain⟨kc,lg⟩:=N.k.cl;obtain⟨kx,lx⟩:=kq.cl)
  rw[<- h9.out];generalize qsr c s l en=k0 at *;generalize q7m c s l en=k at *;have h5:(q05 s).2.pl.level=s.pl.level:=by rw[ha.out]
  rw[<- h5]at kx
  have HPL0:=zhd h5;generalize (q05 s).2=g1 at *;clear h5 h9 hb h8 hd hh;by_cases q1:k0 < 0
  .have b1:decide (k0 < 0)=true:=decide_eq_true q1;have h6:=zhd (HL.out.trans (if_pos q1));clear HL q1;go_upto_region 4 with fail;rw[<- h6.out];clear h6;by_cases q2:k=g1.pl.level
   .have b2:(k == g1.pl.level)=true:=by simpa using q2
    have N:=N.eqS (show q42 c g1 k=g1 from if_neg (λh=>h q2));have h0:Hid (0<=(q42 c g1 k).pl.level/\(q42 c g1 k).pl.level < c.levels.l.length):=q81 k h4.out.1 h4.out.2;obtain⟨kc,lg⟩:=N.k.cl;clear q2;generalize q42 c g1 k=g2 at *;go_wp2_with ((go_at_call 259;refine(q9c N.P N.hc N.b h0.out.1 h0.out.2).mono ?_;rintro _ w6 ⟨rfl,P6,f6⟩);have N:=N.plant P6 f6;obtain⟨kc,lg⟩:=N.k.cl;have fg:=N.k.frozen);go_returns;exact⟨rfl,(N.done_ _).eqS HE.out⟩
   .have b2:(k == g1.pl.level)=false:=by simpa using q2
    have h7:=zhd q2;clear q2;go_upto_region 7 with (first
     | ((go_at_call 258;refine(turn_any N.P ⟨N.hc.2.2.2.2.1,N.hc.2.2.1⟩).mono ?_;rintro _ w4 ⟨rfl,P4,f4⟩);have N:=N.plant P4 f4;obtain⟨kc,lg⟩:=N.k.cl;have fg:=N.k.frozen)
     | (go_at_call 132;refine(q20 N.P).mono ?_;rintro _ _ ⟨rfl,rfl⟩))
    have N:=(N.clock (turnS c g1.pl k).2.now 0).eqS (show q42 c g1 k=_ from if_pos h7.out);have h0:Hid (0<=(q42 c g1 k).pl.level/\(q42 c g1 k).pl.level < c.levels.l.length):=q81 k h4.out.1 h4.out.2;obtain⟨kc,lg⟩:=N.k.cl;generalize q42 c g1 k=g2 at *;generalize (w4.setCell ⟨x.g,0,none⟩ (ii (turnS c g1.pl k).2.now)).setCell ⟨x.g,1,none⟩ (ii 0)=w5 at *;go_wp2_with ((go_at_call 259;refine(q9c N.P N.hc N.b h0.out.1 h0.out.2).mono ?_;rintro _ w6 ⟨rfl,P6,f6⟩);have N:=N.plant P6 f6;obtain⟨kc,lg⟩:=N.k.cl;have fg:=N.k.frozen);go_returns;exact⟨rfl,(N.done_ _).eqS HE.out⟩
  .have b1:decide (k0 < 0)=false:=decide_eq_false q1;have h6:=zhd (HL.out.trans (if_neg q1));clear HL q1;go_upto_region 4 with fail;obtain rfl:k=k0:=h6.out;clear h6;by_cases q2:k=g1.pl.level
   .have b2:(k == g1.pl.level)=true:=by simpa using q2
    have N:=N.eqS (show q42 c g1 k=g1 from if_neg (λh=>h q2));have h0:Hid (0<=(q42 c g1 k).pl.level/\(q42 c g1 k).pl.level < c.levels.l.length):=q81 k h4.out.1 h4.out.2;obtain⟨kc,lg⟩:=N.k.cl;clear q2;generalize q42 c g1 k=g2 at *;go_wp2_with ((go_at_call 259;refine(q9c N.P N.hc N.b h0.out.1 h0.out.2).mono ?_;rintro _ w6 ⟨rfl,P6,f6⟩);have N:=N.plant P6 f6;obtain⟨kc,lg⟩:=N.k.cl;have fg:=N.k.frozen);go_returns;exact⟨rfl,(N.done_ _).eqS HE.out⟩
   .have b2:(k == g1.pl.level)=false:=by simpa using q2
    have h7:=zhd q2;clear q2;go_upto_region 7 with (first
     | ((go_at_call 258;refine(turn_any N.P ⟨N.hc.2.2.2.2.1,N.hc.2.2.1⟩).mono ?_;rintro _ w4 ⟨rfl,P4,f4⟩);have N:=N.plant P4 f4;obtain⟨kc,lg⟩:=N.k.cl;have fg:=N.k.frozen)
     | (go_at_call 132;refine(q20 N.P).mono ?_;rintro _ _ ⟨rfl,rfl⟩))
    have N:=(N.clock (turnS c g1.pl k).2.now 0).eqS (show q42 c g1 k=_ from if_pos h7.out);have h0:Hid (0<=(q42 c g1 k).pl.level/\(q42 c g1 k).pl.level < c.levels.l.length):=q81 k h4.out.1 h4.out.2;obtain⟨kc,lg⟩:=N.k.cl;generalize q42 c g1 k=g2 at *;generalize (w4.setCell ⟨x.g,0,none⟩ (ii (turnS c g1.pl k).2.now)).setCell ⟨x.g,1,none⟩ (ii 0)=w5 at *;go_wp2_with ((go_at_call 259;refine(q9c N.P N.hc N.b h0.out.1 h0.out.2).mono ?_;rintro _ w6 ⟨rfl,P6,f6⟩);have N:=N.plant P6 f6;obtain⟨kc,lg⟩:=N.k.cl;have fg:=N.k.frozen);go_returns;exact⟨rfl,(N.done_ _).eqS HE.out⟩
end
theorem qp2:∀ (l:List Sp) (x:Pn),i64 x.now->i64 (goS x l).2.now
 | [],_,h=>h
 | s :: l,x,h=>by
  unfold goS;split
  .exact qp2 l _ (q3v _)
  .exact h
theorem q4v(x:Pn) (l:List Sp) (h:i64 x.now):i64 (q0r x l).2.now:=by
 unfold q0r;split
 .exact qp2 l x h
 .exact h
theorem qp3(c:Pw) (x:Pn) (u:Int) (h:i64 x.now):i64 (q7k c x u).2.now:=by
 unfold q7k;split
 .exact h
 .split
  .exact h
  .dsimp only;split <;> exact q4v _ _ h
theorem qj3(c:Pw) (x:Pn) (u:Int):(q7k c x u).2.level=x.level:=by
 unfold q7k;split
 .rfl
 .split
  .rfl
  .dsimp only;split <;> exact q80 _ _
theorem qg1(c:Pw) (x:Pn) (k:Int) (h:i64 x.now):i64 (turnS c x k).2.now:=by
 unfold turnS;by_cases h1:k < 0\/(c.levels.l.length:Int)<=k
 .rw[if_pos h1];exact h
 rw[if_neg h1];by_cases h2:k=x.level
 .rw[if_pos h2];exact h
 rw[if_neg h2];by_cases h3:(q0r x [⟨3,0,c.change,c.sw⟩]).1=0
 .rw[if_pos h3];exact q4v _ _ h
 .rw[if_neg h3];exact q4v _ _ h
theorem qsw(c:Pw) (x:Pn) (k n d:Int) (h:i64 x.now):i64 (qex c x k n d).2.now:=by
 unfold qex;split
 .exact h
 .split
  .exact h
  .dsimp only;split <;> exact q4v _ _ h
theorem qp4(c:Pw) (x:Pn) (k n d:Int):(qex c x k n d).2.level=x.level:=by
 unfold qex;split
 .rfl
 .split
  .rfl
  .dsimp only;split <;> exact q80 _ _
theorem qsx(c:Pw) (x:Pn) (k n:Int) (h:i64 x.now):i64 (qi9 c x k n).2.now:=by
 unfold qi9;split
 .exact h
 .split
  .exact h
  .split <;> exact q4v _ _ h
theorem qp5(c:Pw) (x:Pn) (k n:Int):(qi9 c x k n).2.level=x.level:=by
 unfold qi9;split
 .rfl
 .split
  .rfl
  .split <;> exact q80 _ _
theorem qhm(s:Gv):(q05 s).2.pl=s.pl/\(q05 s).2.base=s.base/\(q05 s).2.done=s.done:=by unfold q05;split <;> exact⟨rfl,rfl,rfl⟩
theorem GvI.choose{c:Pw} {s:Gv} (I:GvI c s):GvI c (q05 s).2:=by
 obtain⟨h1,h2,h3⟩:=qhm s;exact⟨by rw[h1];exact I.now,by rw[h2];exact I.base,by rw[h3];exact I.done,by rw[h1];exact I.l0,by rw[h1];exact I.l1⟩
theorem GvI.wait{c:Pw} {s:Gv} (I:GvI c s) (u:Int):GvI c (q2p c s u):=by
 rw[qiz];split
 .exact I
 .have hA:GvI c (qot c s u):=by
   unfold qot;split
   .have J:=I.choose;exact⟨qsw _ _ _ _ _ J.now,J.base,J.done,by dsimp only;rw[qp4];exact J.l0,by dsimp only;rw[qp4];exact J.l1⟩
   .exact I.choose
  unfold qsm;split
  .exact⟨qp3 _ _ _ hA.now,hA.base,hA.done,by dsimp only;rw[qj3];exact hA.l0,by dsimp only;rw[qj3];exact hA.l1⟩
  .exact hA
theorem GvI.sync{c:Pw} {s:Gv} (I:GvI c s):GvI c (qf4 s):=⟨I.now,I.now,by simp[qf4,i64],I.l0,I.l1⟩
theorem GvI.run{c:Pw} {s:Gv} (I:GvI c s) (part n l en:Int):GvI c (qtx c s part n l en):=by
 rw[qox];have J:=I.choose;have hT:GvI c (q42 c (q05 s).2 (q7m c s l en)):=by
  have hl:=q81 (c:=c) (q7m c s l en) J.l0 J.l1;unfold q42 at hl ⊢;split at hl
  .rename_i h;rw[if_pos h];exact⟨qg1 _ _ _ J.now,qg1 _ _ _ J.now,by simp[i64],hl.1,hl.2⟩
  .rename_i h;rw[if_neg h];exact J
 exact⟨qsx _ _ _ _ hT.now,hT.base,q3v _,by unfold qzy;dsimp only;rw[qp5];exact hT.l0,by unfold qzy;dsimp only;rw[qp5];exact hT.l1⟩
structure CeI(W:World) (s:Ce):Prop where
 H:Sta W s
 l:s.tab.length=s.tk.length
 h0:0 < s.cf.procs.l.length
 h1:s.cf.procs.l.length<=1000
 hh:s.tk.length<=s.cf.procs.l.length
 z:Sz s
theorem CeI.ext{s s':Ce} (I:CeI W s) (E:Ext n s s'):CeI W s':=⟨E.sta I.H,by rw[E.tb,E.tk];exact I.l,by rw[E.cf];exact I.h0,by rw[E.cf];exact I.h1,by rw[E.tk,E.cf];exact I.hh,E.z I.z⟩
theorem CeI.beginS{s:Ce} (I:CeI W s):CeI W (beginS s):=by
 have h1:(Go.Proofs.YtncfcbohiodnnaaGreat.beginS s).tk.length=s.tk.length:=by simp[Go.Proofs.YtncfcbohiodnnaaGreat.beginS]
 have h2:(Go.Proofs.YtncfcbohiodnnaaGreat.beginS s).tab.length=s.tab.length:=by simp[Go.Proofs.YtncfcbohiodnnaaGreat.beginS,qd0]
 exact⟨⟨I.H.cf,I.H.dp,by rw[h1];exact I.H.n8,I.H.p8⟩,by rw[h1,h2];exact I.l,I.h0,I.h1,by rw[h1];exact I.hh,⟨I.z.p,I.z.q,I.z.l,I.z.cq,I.z.cl⟩⟩
theorem qav{s:Ce} (I:CeI W s):Ext 200 (beginS s) (q2g s):=by
 have J:=I.beginS;have h5:(beginS s).slk≠none:=by simp[beginS]
 show Ext 200 (beginS s) (if (beginS s).mode≠3 then beginS s else q2n (q36 (qn2 (q0c (beginS s)))));generalize beginS s=s1 at *;split
 .exact(Ext.refl s1).mono zo
 .have e1:=q64 s1;have e2:=q7y (q0c s1) 8;have h0:=e1.trans e2;have e3:=q2u q9h (qbc (qdw ((List.range 8).foldl q4g (q0c s1)).win) ((List.range 8).foldl q4g (q0c s1)).tab ((List.range 8).foldl q4g (q0c s1)).tab.length) ((List.range 8).foldl q4g (q0c s1));have e:=h0.trans e3;have e9:=q17 (e.slk h5);have h2:=h0.tb;have h1:=Nat.le_trans (q99 (qdw ((List.range 8).foldl q4g (q0c s1)).win) ((List.range 8).foldl q4g (q0c s1)).tab ((List.range 8).foldl q4g (q0c s1)).tab.length) (Nat.le_of_eq h2);have h3:=e.tk;have h4:=e1.tb;have h8:=J.H.n8;have hl:=J.l;refine(e.trans e9).mono ?_;rw[h3,h4];omega
theorem qp6{o:Gh} {s:Ce} (I:CeI W s) (B:Bas W w o) (h:s.evs.length + 200 + n<=99999990000):Rdy W w o (q2g s) n/\(q2g s).sk.room=max 0 s.cf.cap:=by
 have E:=qav I;have J:=I.beginS;have hd:=qit I.hh;have K:=J.ext E;have hl:=E.len;have he:(beginS s).evs=s.evs:=rfl;rw[he]at hl
 refine⟨⟨K.H,B,K.l,E.slk hd.2.1,by rw[E.tk,E.sh];exact hd.2.2,zo,E.dn J.l hd.1,K.z,by rw[E.tk,E.cf];exact J.hh⟩,?_⟩;rw[E.sr];rfl
structure RoomI(s:Ce):Prop where
 a:0<=s.sk.room
 b:s.sk.room<=2000000000
theorem qzd(a b:Int):i64 (qtr a b):=by
 unfold qtr;split
 .simp[i64]
 .split
  .simp[i64]
  .exact q3v _
theorem qu6:∀ (l:List Int) (z:Int),i64 z->i64 (l.foldl qtr z)
 | [],_,h=>h
 | a :: l,z,_=>qu6 l _ (qzd z a)
theorem qwf{s:Ce} (h:RoomI s):i64 (qgz s):=by
 unfold qgz;split
 .simp[i64]
 .unfold qgu;have h1:=qu6 (qdx s.sk s.sk.has.length) 0 (by simp[i64]);have h2:=h.a;have h3:=h.b;unfold i64 at h1 ⊢;omega
theorem qj4{s:Ce} (h:RoomI s) {n:Int} (h1:¬ q5x s n < 1):(qb3 s n).sk.room=s.sk.room - q5x s n/\q5x s n<=s.sk.room:=by
 have hw:¬ q06 s < 0:=λq=>by
  have:q58 s=0:=if_pos q;unfold q5x at h1;omega
 have hk:(q06 s).toNat < s.tab.length:=by
  unfold q06 at hw ⊢;split at hw
  .omega
  .rename_i h;rw[if_neg h];have:=q69 q4n s.tab s.tab.length;unfold q7h at hw ⊢;omega
 have h5:q5x s n<=q58 s:=by unfold q5x;omega
 have h9:q58 s=min (min (atD Tk0 s.tk (q06 s).toNat).rest (at0 s.sk.has (q06 s).toNat)) s.sk.room:=if_neg hw;rw[h9]at h5
 generalize hm:q5x s n=m at *;have h0:(q0q s (q06 s).toNat m).sk.room=s.sk.room - m:=by
  show(q21 s.sk (q06 s).toNat m).2.room=_;unfold q21;rw[if_neg h1];dsimp only;have ha:=h.a;have hb:=h.b;have:min m (min s.sk.room (at0 s.sk.has (q06 s).toNat))=m:=zo;rw[this];unfold wrap64;omega
 refine⟨?_,zo⟩;unfold qb3;rw[hm,if_neg h1];dsimp only;have h2:(q0q s (q06 s).toNat m).slk≠none:=by simp[q0q]
 have h7:(q0q s (q06 s).toNat m).tab=s.tab:=rfl;generalize q0q s (q06 s).toNat m=s1 at *;split
 .have h4:(q1d s1 (q06 s).toNat ((atD Tk0 s1.tk (q06 s).toNat).set ((atD Tk0 s1.tk (q06 s).toNat).at_ + 1))).slk≠none:=h2;have h8:(q1d s1 (q06 s).toNat ((atD Tk0 s1.tk (q06 s).toNat).set ((atD Tk0 s1.tk (q06 s).toNat).at_ + 1))).tab=s.tab:=h7;have h6:(q1d s1 (q06 s).toNat ((atD Tk0 s1.tk (q06 s).toNat).set ((atD Tk0 s1.tk (q06 s).toNat).at_ + 1))).sk.room=s1.sk.room:=rfl;generalize q1d s1 (q06 s).toNat ((atD Tk0 s1.tk (q06 s).toNat).set ((atD Tk0 s1.tk (q06 s).toNat).at_ + 1))=s2 at *;have h3:=q9k (s:=s2) (k:=(q06 s).toNat) (y:=(atD Tk0 s1.tk (q06 s).toNat).step) (by rw[h8];exact hk) h4;rw[(q17 (h3.slk h4)).sr,h3.sr,h6,h0]
 .rw[(q17 h2).sr,h0]
theorem qp7{s:Ce} (h8:s.tk.length<=8) (hl:s.tab.length=s.tk.length) {n:Int} (h1:¬ q5x s n < 1):(qb3 s n).evs.length<=s.evs.length + 21:=by
 have hw:¬ q06 s < 0:=λq=>by
  have:q58 s=0:=if_pos q;unfold q5x at h1;omega
 have hk:(q06 s).toNat < s.tab.length:=by
  unfold q06 at hw ⊢;split at hw
  .omega
  .rename_i h;rw[if_neg h];have:=q69 q4n s.tab s.tab.length;unfold q7h at hw ⊢;omega
 generalize hm:q5x s n=m at *;unfold qb3;rw[hm,if_neg h1];dsimp only;have h0:(q0q s (q06 s).toNat m).slk≠none:=by simp[q0q]
 have hb:(q0q s (q06 s).toNat m).tab=s.tab:=rfl;have h9:(q0q s (q06 s).toNat m).evs=s.evs:=rfl;have ha:(q0q s (q06 s).toNat m).tk.length=s.tk.length:=by simp[q0q]
 generalize q0q s (q06 s).toNat m=s1 at *;split
 .have h2:(q1d s1 (q06 s).toNat ((atD Tk0 s1.tk (q06 s).toNat).set ((atD Tk0 s1.tk (q06 s).toNat).at_ + 1))).slk≠none:=h0;have h7:(q1d s1 (q06 s).toNat ((atD Tk0 s1.tk (q06 s).toNat).set ((atD Tk0 s1.tk (q06 s).toNat).at_ + 1))).tab=s.tab:=hb;have hc:(q1d s1 (q06 s).toNat ((atD Tk0 s1.tk (q06 s).toNat).set ((atD Tk0 s1.tk (q06 s).toNat).at_ + 1))).evs=s.evs:=h9;have hk2:(q1d s1 (q06 s).toNat ((atD Tk0 s1.tk (q06 s).toNat).set ((atD Tk0 s1.tk (q06 s).toNat).at_ + 1))).tk.length=s.tk.length:=by simpa [q1d] using ha
  generalize q1d s1 (q06 s).toNat ((atD Tk0 s1.tk (q06 s).toNat).set ((atD Tk0 s1.tk (q06 s).toNat).at_ + 1))=s2 at *;have h3:=q9k (s:=s2) (k:=(q06 s).toNat) (y:=(atD Tk0 s1.tk (q06 s).toNat).step) (by rw[h7];exact hk) h2;have h4:=h3.len;have h5:=(q17 (h3.slk h2)).len;have h6:=h3.tk;rw[h7,hc]at h4
  omega
 .have h5:=(q17 h0).len;rw[h9]at h5
  omega
theorem qcd{cf:Cf} {cy:List Int} {p:Nat} {n:Int} (h:¬ q6m cf cy p n < 1):q6m cf cy p n<=n:=by
 unfold q6m at h ⊢;split at h
 .omega
 .rename_i h2;rw[if_neg h2];omega
theorem CeI.same{s s':Ce} (I:CeI W s) (h1:s'.cf=s.cf) (h2:s'.tk.length=s.tk.length) (h3:s'.pts=s.pts) (h4:s'.tab=s.tab) (h5:s'.obs=s.obs):CeI W s' :=
 ⟨⟨by rw[h1];exact I.H.cf,by rw[h1];exact I.H.dp,by rw[h2];exact I.H.n8,by rw[h3];exact I.H.p8⟩,by rw[h4,h2];exact I.l,by rw[h1];exact I.h0,by rw[h1];exact I.h1,by rw[h1,h2];exact I.hh,⟨by rw[h3];exact I.z.p,by rw[h5];exact I.z.q,by rw[h5];exact I.z.l,by rw[h1];exact I.z.cq,by rw[h1];exact I.z.cl⟩⟩
theorem CeI.pts{s:Ce} (I:CeI W s) {l:List Ps} (h:l.length=s.pts.length) (hl:∀ i,psI (atD Ps0 l i)):CeI W (setPts s l) :=
 ⟨⟨I.H.cf,I.H.dp,I.H.n8,by show l.length<=1000;rw[h];exact I.H.p8⟩,I.l,I.h0,I.h1,I.hh,⟨hl,I.z.q,I.z.l,I.z.cq,I.z.cl⟩⟩
theorem qwg{s:Ce} (hw:¬ q06 s < 0):(q06 s).toNat < s.tab.length:=by
 unfold q06 at hw ⊢;split at hw
 .omega
 .rename_i h;rw[if_neg h];have:=q69 q4n s.tab s.tab.length;unfold q7h at hw ⊢;omega
theorem CeI.ran{s:Ce} (I:CeI W s) (n:Int):CeI W (qb3 s n)/\(qb3 s n).cf=s.cf:=by
 unfold qb3;split
 .exact⟨I,rfl⟩
 .rename_i hr;have hw:¬ q06 s < 0:=λq=>by
   have:q58 s=0:=if_pos q;unfold q5x at hr;omega
  have hk:=qwg hw;dsimp only;have h1:(q0q s (q06 s).toNat (q5x s n)).slk≠none:=by simp[q0q]
  have h0:(q0q s (q06 s).toNat (q5x s n)).cf=s.cf:=rfl;have h6:(q0q s (q06 s).toNat (q5x s n)).tab=s.tab:=rfl;have I1:CeI W (q0q s (q06 s).toNat (q5x s n)):=I.same rfl (by simp[q0q]) rfl rfl rfl;generalize q0q s (q06 s).toNat (q5x s n)=s1 at *;split
  .have h2:(q1d s1 (q06 s).toNat ((atD Tk0 s1.tk (q06 s).toNat).set ((atD Tk0 s1.tk (q06 s).toNat).at_ + 1))).slk≠none:=h1;have h7:(q1d s1 (q06 s).toNat ((atD Tk0 s1.tk (q06 s).toNat).set ((atD Tk0 s1.tk (q06 s).toNat).at_ + 1))).tab=s.tab:=h6;have h4:(q1d s1 (q06 s).toNat ((atD Tk0 s1.tk (q06 s).toNat).set ((atD Tk0 s1.tk (q06 s).toNat).at_ + 1))).cf=s.cf:=h0;have I2:CeI W (q1d s1 (q06 s).toNat ((atD Tk0 s1.tk (q06 s).toNat).set ((atD Tk0 s1.tk (q06 s).toNat).at_ + 1))):=I1.same rfl (by simp[q1d]) rfl rfl rfl;generalize q1d s1 (q06 s).toNat ((atD Tk0 s1.tk (q06 s).toNat).set ((atD Tk0 s1.tk (q06 s).toNat).at_ + 1))=s2 at *;have h3:=q9k (s:=s2) (k:=(q06 s).toNat) (y:=(atD Tk0 s1.tk (q06 s).toNat).step) (by rw[h7];exact hk) h2;have h5:=q17 (h3.slk h2);exact⟨(I2.ext h3).ext h5,h5.cf.trans (h3.cf.trans h4)⟩
  .have h5:=q17 h1;exact⟨I1.ext h5,h5.cf.trans h0⟩
structure SyI(W:World) (cf:Cf) (a b c:Nat) (s:Sy):Prop where
 n:s.cs.length=cf.parts.l.length
 sn:s.seen.length=cf.parts.l.length
 G:GvI cf.pw s.g
 C:∀ p,p < cf.parts.l.length->CeI W (atD Ce0 s.cs p)
 cap:∀ p,p < cf.parts.l.length->(atD Ce0 s.cs p).cf.cap<=400
 ev:∀ p,p < cf.parts.l.length->(atD Ce0 s.cs p).evs.length<=a
 z:∀ p,p < cf.parts.l.length->s.seen.getD p 0=(atD Ce0 s.cs p).evs.length
 se:s.evs.length<=a
 bd:s.bounds.length<=b
 ms:s.msgs.length<=c
section
variable{W:World} {cf:Cf} {a b c:Nat} {s:Sy}
theorem SyI.wait(I:SyI W cf a b c s) (u:Int):SyI W cf a b c { s with g:=q2p cf.pw s.g u }:=⟨I.n,I.sn,I.G.wait u,I.C,I.cap,I.ev,I.z,I.se,I.bd,I.ms⟩
theorem SyI.bound(I:SyI W cf a b c s) (d p:Int):SyI W cf a (b + 1) c (q1w s d p):=⟨I.n,I.sn,I.G,I.C,I.cap,I.ev,I.z,I.se,by show(s.bounds ++ [_]).length<=_;rw[List.length_append,List.length_singleton];have:=I.bd;omega,I.ms⟩
structure LpI(W:World) (cf:Cf) (p:Nat) (s0 s:Sy):Prop where
 P:CsP p s0 s
 C:CeI W (atD Ce0 s.cs p)
 cq:(atD Ce0 s.cs p).cf=(atD Ce0 s0.cs p).cf
 R:RoomI (atD Ce0 s.cs p)
 G:GvI cf.pw s.g
 e:(atD Ce0 s.cs p).evs.length + 21 * (atD Ce0 s.cs p).sk.room.toNat<=(atD Ce0 s0.cs p).evs.length + 21 * (atD Ce0 s0.cs p).sk.room.toNat
 bd:s.bounds=s0.bounds
 ms:s.msgs=s0.msgs
theorem LpI.loop{p:Nat} {en:Int} {s0:Sy} : ∀ (m:Nat) {s:Sy},p < s.cs.length->LpI W cf p s0 s->LpI W cf p s0 (q3e cf p en m s)
 | 0,_,_,I=>I
 | m + 1,s,hp,I=>by
  unfold q3e;split
  .exact I
  .rename_i h;have h0:q5y cf s p<=q58 (atD Ce0 s.cs p):=qcd h;have hr:¬ q5x (atD Ce0 s.cs p) (q5y cf s p) < 1:=by unfold q5x;omega
   obtain⟨r1,r2⟩:=qj4 I.R hr;obtain⟨C1,C2⟩:=I.C.ran (q5y cf s p);have hl:=qp7 I.C.H.n8 I.C.l hr;have hc:atD Ce0 (q5z cf p en s).cs p=qb3 (atD Ce0 s.cs p) (q5y cf s p):=by
    show atD Ce0 (s.cs.set p _) p=_;rw[q6j _ _ _ _ _ hp,if_pos rfl]
   have hP:CsP p s (q5z cf p en s):=CsP.set hp (qp0 _ _) rfl rfl rfl;refine LpI.loop m (by rw[hP.n];exact hp) ⟨I.P.trans hP,by rw[hc];exact C1,by rw[hc,C2];exact I.cq,?_,?_,?_,I.bd,I.ms⟩
   .rw[hc];exact⟨by rw[r1];omega,by rw[r1];have:=I.R.b;omega⟩
   .exact I.G.run _ _ _ _
   .rw[hc,r1];have:=I.e;have:=I.R.a;omega
theorem SyI.work(I:SyI W cf a b c s) {p:Nat} (hp:p < cf.parts.l.length) (en:Int):SyI W cf (a + 10000) b c (q5i cf s p en):=by
 have h4:p < s.cs.length:=by rw[I.n];exact hp
 have B:=qav (I.C p hp);have K:=(I.C p hp).beginS.ext B;have h0:(q2g (atD Ce0 s.cs p)).sk.room=max 0 (atD Ce0 s.cs p).cf.cap:=B.sr;have h3:=I.cap p hp;have h6:(q2g (atD Ce0 s.cs p)).cf=(atD Ce0 s.cs p).cf:=B.cf;have hlen:(q2g (atD Ce0 s.cs p)).evs.length<=(atD Ce0 s.cs p).evs.length + 200:=B.len;unfold q5i;dsimp only;obtain⟨s1,h1⟩:∃ s1:Sy,s1={ s with cs:=s.cs.set p (q2g (atD Ce0 s.cs p)),g:=qf4 s.g }:=⟨_,rfl⟩
 rw[<- h1];have h2:atD Ce0 s1.cs p=q2g (atD Ce0 s.cs p):=by
  rw[h1];show atD Ce0 (s.cs.set p _) p=_;rw[q6j _ _ _ _ _ h4,if_pos rfl]
 have hP:CsP p s s1:=CsP.set h4 (qau _) (by rw[h1]) (by rw[h1]) (by rw[h1]);have L:LpI W cf p s1 s1:=⟨CsP.refl _ _,by rw[h2];exact K,rfl,by rw[h2];exact⟨by rw[h0];omega,by rw[h0];omega⟩,by rw[h1];exact I.G.sync,nL,rfl,rfl⟩
 have L2:=L.loop (en:=en) ((atD Ce0 (s.cs.set p (q2g (atD Ce0 s.cs p))) p).sk.room.toNat + 1) (by rw[hP.n];exact h4);generalize q3e cf p en ((atD Ce0 (s.cs.set p (q2g (atD Ce0 s.cs p))) p).sk.room.toNat + 1) s1=s2 at *;have hQ:=hP.trans L2.P;have h7:=L2.e;rw[h2,h0]at h7
 have he0:=I.ev p hp;have h9:=I.z p hp;have hse:=I.se;have h5:s2.bounds=s.bounds:=by rw[L2.bd,h1]
 have h8:s2.msgs=s.msgs:=by rw[L2.ms,h1]
 have hev2:(atD Ce0 s2.cs p).evs.length<=(atD Ce0 s.cs p).evs.length + 9000:=zo;refine⟨hQ.n.trans I.n,?_,L2.G,λq hq=>?_,λq hq=>?_,λq hq=>?_,λq hq=>?_,?_,by rw[show(q2t s2 p).bounds=s2.bounds from rfl,h5];exact I.bd,by rw[show(q2t s2 p).msgs=s2.msgs from rfl,h8];exact I.ms⟩
 .show(s2.seen.set p _).length=_;rw[List.length_set,hQ.sn];exact I.sn
 .show CeI W (atD Ce0 s2.cs q);by_cases e:q=p
  .subst e;exact L2.C
  .rw[hQ.o q e];exact I.C q hq
 .show(atD Ce0 s2.cs q).cf.cap<=400;by_cases e:q=p
  .subst e;rw[L2.cq,h2,h6];exact h3
  .rw[hQ.o q e];exact I.cap q hq
 .show(atD Ce0 s2.cs q).evs.length<=_;by_cases e:q=p
  .subst e;omega
  .rw[hQ.o q e];have:=I.ev q hq;omega
 .show(s2.seen.set p (atD Ce0 s2.cs p).evs.length).getD q 0=(atD Ce0 s2.cs q).evs.length;have hs:p < s2.seen.length:=by rw[hQ.sn,I.sn];exact hp
  rw[List.getD_eq_getElem?_getD,List.getElem?_set];by_cases e:q=p
  .subst e;simp[hs]
  .rw[if_neg (λe'=>e e'.symm),hQ.o q e,hQ.sn,<- List.getD_eq_getElem?_getD,I.z q hq]
 .show(s2.evs ++ (atD Ce0 s2.cs p).evs.drop (s2.seen.getD p 0)).length<=_;rw[List.length_append,List.length_drop,hQ.ev,hQ.sn,h9];omega
theorem z2h:psI Ps0:=⟨⟨⟨zd,zd⟩,zd⟩,trivial⟩
theorem qhn{l:List Ps} (h:∀ i,psI (atD Ps0 l i)) {k:Nat} {y:Ps} (hy:psI y) (i:Nat):psI (atD Ps0 (l.set k y) i):=by
 by_cases hk:k < l.length
 .rw[Me.atD_set _ _ _ _ _ hk];split
  .exact hy
  .exact h i
 .rw[List.set_eq_of_length_le zo];exact h i
theorem qwh{l:List Ps} (h:∀ i,psI (atD Ps0 l i)) (k:Int):(q0x l k).1.length<=256/\(q0x l k).2.length=l.length/\∀ i,psI (atD Ps0 (q0x l k).2 i):=by
 unfold q0x;split
 .exact⟨zp,rfl,h⟩
 .have hk:=h k.toNat;obtain⟨h1,h2⟩:=qw1 hk.2;exact⟨h2,List.length_set,qhn h ⟨hk.1,h1⟩⟩
theorem qp9{l:List Ps} (h:∀ i,psI (atD Ps0 l i)) (k:Int) (bs:List UInt8):(q0u l k bs).2.length=l.length/\∀ i,psI (atD Ps0 (q0u l k bs).2 i):=by
 have hk:=h k.toNat;unfold q0u;split
 .exact⟨rfl,h⟩
 .split
  .exact⟨List.length_set,qhn h hk⟩
  .exact⟨List.length_set,qhn h ⟨hk.1,qo1 bs hk.2⟩⟩
theorem q9l(cf:Cf) (win:Int):∀ (ks:List Nat) (seen:List (Int×List (List UInt8))) (l:List Ps) (out:List Mg),(∀ q ∈ seen,q.2.length<=256)->(∀ i,psI (atD Ps0 l i))->(q2i cf win ks seen l out).1.length<=out.length + 256 * ks.length/\(q2i cf win ks seen l out).2.length=l.length/\∀ i,psI (atD Ps0 (q2i cf win ks seen l out).2 i)
 | [],_,_,_,_,h=>⟨by simp[q2i],rfl,h⟩
 | k :: ks,seen,l,out,hs,h=>by
  unfold q2i;dsimp only;split
  .rename_i bs hb;have hm:bs.length<=256:=by
    have:∀ (sn:List (Int×List (List UInt8))) (hs:∀ q ∈ sn,q.2.length<=256),sn.lookup (atD Ch0 cf.chans.l k).fr.port=some bs->bs.length<=256:=by
     intro sn
     induction sn with
     | nil=>intro _ h;simp[List.lookup]at h
     | cons a sn ih =>
      intro hs h;rw[List.lookup_cons]at h
      split at h
      .injection h with h;rw[<- h];exact hs a zp
      .exact ih (λq hq=>hs q (by simp[hq])) h
    exact this seen hs hb
   obtain⟨i1,i2,i3⟩:=q9l cf win ks seen l (out ++ bs.map λb=>⟨k,win,b⟩) hs h;refine⟨?_,i2,i3⟩;rw[List.length_append,List.length_map]at i1
   rw[List.length_cons];omega
  .obtain⟨d1,d2,d3⟩:=qwh h (atD Ch0 cf.chans.l k).fr.port;obtain⟨i1,i2,i3⟩:=q9l cf win ks (seen ++ [((atD Ch0 cf.chans.l k).fr.port,(q0x l (atD Ch0 cf.chans.l k).fr.port).1)]) (q0x l (atD Ch0 cf.chans.l k).fr.port).2 (out ++ (q0x l (atD Ch0 cf.chans.l k).fr.port).1.map λb=>⟨k,win,b⟩) (λq hq=>by
    rcases List.mem_append.1 hq with hq | hq
    .exact hs q hq
    .rw[List.mem_singleton.1 hq];exact d1) d3
   refine⟨?_,i2.trans d2,i3⟩;rw[List.length_append,List.length_map]at i1
   rw[List.length_cons];omega
theorem qpa(cf:Cf) (p:Int):(q6v cf p).length<=16:=by
 unfold q6v;refine Nat.le_trans (List.length_filter_le _ _) ?_;rw[List.length_range];omega
theorem SyI.drain_len(I:SyI W cf a b c s) {p:Nat} (hp:p < cf.parts.l.length) (win q:Int):(q2i cf win (q6v cf q) [] (atD Ce0 s.cs p).pts []).1.length<=4096:=by
 have h1:=(q9l cf win (q6v cf q) [] (atD Ce0 s.cs p).pts [] zp (I.C p hp).z.p).1;have h2:=qpa cf q;simp only[List.length_nil]at h1;omega
structure PtI(W:World) (m:List Ce) (l:List Ce):Prop where
 n:l.length=m.length
 C:∀ p,p < m.length->CeI W (atD Ce0 l p)/\(atD Ce0 l p).cf=(atD Ce0 m p).cf/\(atD Ce0 l p).evs=(atD Ce0 m p).evs
theorem PtI.set{m l:List Ce} (I:PtI W m l) {p:Nat} {pts:List Ps} (h:pts.length=(atD Ce0 l p).pts.length) (hl:p < m.length->(∀ i,psI (atD Ps0 (atD Ce0 l p).pts i))->∀ i,psI (atD Ps0 pts i)):PtI W m (l.set p (setPts (atD Ce0 l p) pts)):=by
 refine⟨by rw[List.length_set];exact I.n,λq hq=>?_⟩;have hp:=I.C q hq;by_cases hk:p < l.length
 .rw[q6j _ _ _ _ _ hk];by_cases e:q=p
  .subst e;rw[if_pos rfl];exact⟨hp.1.pts h (hl hq hp.1.z.p),hp.2.1,hp.2.2⟩
  .rw[if_neg e];exact hp
 .rw[List.set_eq_of_length_le zo];exact hp
theorem PtI.deliver(cf:Cf) {m l:List Ce} (I:PtI W m l) (g:Mg):PtI W m (q0v cf l g):=by
 unfold q0v;split
 .exact I
 .dsimp only;split
  .exact I
  .refine I.set ?_ λ_ h=>(qp9 h _ _).2;unfold q0u;split
   .rfl
   .split <;> exact List.length_set
theorem PtI.fold(cf:Cf) {m:List Ce} : ∀ (gs:List Mg) {l:List Ce},PtI W m l->PtI W m (gs.foldl (q0v cf) l)
 | [],_,I=>I
 | g :: gs,_,I=>PtI.fold cf gs (I.deliver cf g)
theorem SyI.flush(I:SyI W cf a b c s) {p:Nat} (hp:p < cf.parts.l.length):SyI W cf a b (c + 4096) (q7n cf s p):=by
 have I0:PtI W s.cs s.cs:=⟨rfl,λq hq=>⟨I.C q (by rw[<- I.n];exact hq),rfl,rfl⟩⟩
 have hd:=q9l cf (atD Ce0 s.cs p).win (q6v cf p) [] (atD Ce0 s.cs p).pts [] zp (I.C p hp).z.p;have J:=(I0.set (p:=p) hd.2.1 λ_ _=>hd.2.2).fold cf ((q2i cf (atD Ce0 s.cs p).win (q6v cf p) [] (atD Ce0 s.cs p).pts []).1.take 4096);have hn:∀ q,q < cf.parts.l.length->q < s.cs.length:=λq hq=>by rw[I.n];exact hq
 refine⟨J.n.trans I.n,I.sn,I.G,λq hq=>(J.C q (hn q hq)).1,λq hq=>?_,λq hq=>?_,λq hq=>?_,I.se,I.bd,?_⟩
 .show(atD Ce0 (q7n cf s p).cs q).cf.cap<=400;rw[show(atD Ce0 (q7n cf s p).cs q).cf=_ from(J.C q (hn q hq)).2.1];exact I.cap q hq
 .rw[show(atD Ce0 (q7n cf s p).cs q).evs=_ from(J.C q (hn q hq)).2.2];exact I.ev q hq
 .rw[show(atD Ce0 (q7n cf s p).cs q).evs=_ from(J.C q (hn q hq)).2.2];exact I.z q hq
 .show(s.msgs ++ List.take 4096 _).length<=_;rw[List.length_append,List.length_take];have:=I.ms;omega
theorem SyI.slot(I:SyI W cf a b c s) {x:Wn} {p:Nat} (hx:x.part=p) (hp:p < cf.parts.l.length) (at_:Int) (r:Bool):SyI W cf (a + 10000) (b + 2) (c + 4096) (qbf cf s x at_ r):=by
 unfold qbf;dsimp only;have h0:x.part.toNat=p:=by rw[hx];rfl
 rw[h0];have I1:=(I.wait (wrap64 (at_ + x.start))).bound (wrap64 (at_ + x.start)) x.part;generalize q1w { s with g:=q2p cf.pw s.g (wrap64 (at_ + x.start)) } (wrap64 (at_ + x.start)) x.part=s1 at *;have I2:SyI W cf (a + 10000) (b + 1) c (if r=true then s1 else q5i cf s1 p (wrap64 (wrap64 (at_ + x.start) + x.len))):=by
  split
  .exact⟨I1.n,I1.sn,I1.G,I1.C,I1.cap,λq hq=>Nat.le_trans (I1.ev q hq) zo,I1.z,Nat.le_trans I1.se zo,I1.bd,I1.ms⟩
  .exact I1.work hp _
 generalize (if r=true then s1 else q5i cf s1 p (wrap64 (wrap64 (at_ + x.start) + x.len)))=s2 at *;have I3:=(I2.wait (wrap64 (wrap64 (at_ + x.start) + x.len))).bound (wrap64 (wrap64 (at_ + x.start) + x.len)) (-1);split
 .exact⟨I3.n,I3.sn,I3.G,I3.C,I3.cap,I3.ev,I3.z,I3.se,I3.bd,Nat.le_trans I3.ms zo⟩
 .exact I3.flush hp
end
end Go.Proofs.YtncfcbohiodnnaaGreat
