/- Parts of this seat's claims. -/
import Derived.Test.YtncfcbohiodnnaaGreatWX13
import Derived.Test.YtncfcbohiodnnaaGreatWX16
set_option maxRecDepth 100000
set_option maxHeartbeats 6400000
namespace Go.Proofs.YtncfcbohiodnnaaGreat
open Go.RowKit
variable{w w' W wa wo W':World}{c n pt r B j b m mb q base cap id B0:Nat}{A:Option Addr}{a code what:Int}{cs:Array Value}
theorem qdo:ElemOf 82 81 6 48:=q1l (z := .agg #[ii 0,ii 0,ii 0,ii 0,ii 0,ii 0]) zk zk rfl zd zd
def qo9(w:World)(n:Nat)(xs:List Value)(e:TypeId)(en:Ending)(w':World):Prop:=∃A c,en=.returned (.slice A n c)/\zj w' e 6 A n c xs/\(∀k,q02 A k->w.heap.size<=k)/\bW w w'
theorem qkl{xs:List Value}(h:Sl w A n c 6 xs)(hcell:∀u∈xs,u.oneCell'=true)(hn:n<=100000000000):cP 263 #[.slice A n c] w λe w'=>qo9 w n xs 67 e w':=by obtain⟨i0,z0,h7,ha,hb,hd,he⟩:=q8e.i;cases A with|none=>{have hc:c=0:=h.2.2.2.1 rfl;have h9:n=0:=by{have:=h.2.1;omega};subst hc h9;obtain rfl:xs = []:=ZI (by simpa using h.1);have h3:=λw=>Lib.run_eql_slice_nil (P:=Tryz.prog) w 55 67 none 0 0 0 0 q8e.u;refine zi ?_;go_wp2;go_returns;exact⟨none,0,rfl,zj.nil _ _ _,(λk h=>nomatch h),bR⟩}|some ad=>{have h6:=zA w (.cells #[] 67);have h1:(w.alloc (.cells #[] 67)).ownsRow w.heap.size 67 6 (.slice (some ⟨w.heap.size,0,none⟩) 0 0) 0 []:=⟨zp,.inr ⟨w.heap.size,0,#[],rfl,nL,Qj w _,nL,by unfold maxLen;omega,zp,zp⟩⟩;have h8:=h.keep h6;have h0:∀(j:Nat) (u:Value),xs[j]?=some u->(w.alloc (.cells #[] 67)).cell? (ad.add j)=some u:=by{intro j u hu;have hlt:j<n*6:=by{have:=(ZL.1 hu).1;rw[h.1]at this;exact this};obtain⟨b,o,e,_,hc⟩:=h8.at_ zo;cases e;rw[q11];exact hc j u hu};have h2:=h.1;have h3:=λw=>Lib.run_eql_slice_nil (P:=Tryz.prog) w 55 67 (some ad) n c 0 0 q8e.u;refine zi ?_;go_wp2_with(at_builtin;refine wpList_append_own_at _ zr _ _ 55 zr w.heap.size 67 i0 _ 6 48 q8e.u h7 ha hb hd he zd _ 0 _ zr h1 ad n c xs zr h2 h0 hcell (by unfold maxLen;omega) zo zp ?_;intro v' w1 hown1 hg1 hnil1 hat1);go_returns;rw[Zp,Q6]at hown1;obtain⟨A,c',rfl,h4,h5⟩:=zj.of hown1;exact⟨A,c',rfl,h4,h5,h6.grown hg1 zp (λk e=>by cases e;exact nL)⟩}
theorem qkm{xs:List Value}(h:Sl w A n c 6 xs)(hcell:∀u∈xs,u.oneCell'=true)(hn:n<=100000000000):cP 121 #[.slice A n c] w λe w'=>qo9 w n xs 81 e w':=by obtain⟨i0,z0,h7,ha,hb,hd,he⟩:=qdo.i;cases A with|none=>{have hc:c=0:=h.2.2.2.1 rfl;have h9:n=0:=by{have:=h.2.1;omega};subst hc h9;obtain rfl:xs = []:=ZI (by simpa using h.1);have h3:=λw=>Lib.run_eql_slice_nil (P:=Tryz.prog) w 82 81 none 0 0 0 0 qdo.u;refine zi ?_;go_wp2;go_returns;exact⟨none,0,rfl,zj.nil _ _ _,(λk h=>nomatch h),bR⟩}|some ad=>{have h6:=zA w (.cells #[] 81);have h1:(w.alloc (.cells #[] 81)).ownsRow w.heap.size 81 6 (.slice (some ⟨w.heap.size,0,none⟩) 0 0) 0 []:=⟨zp,.inr ⟨w.heap.size,0,#[],rfl,nL,Qj w _,nL,by unfold maxLen;omega,zp,zp⟩⟩;have h8:=h.keep h6;have h0:∀(j:Nat) (u:Value),xs[j]?=some u->(w.alloc (.cells #[] 81)).cell? (ad.add j)=some u:=by{intro j u hu;have hlt:j<n*6:=by{have:=(ZL.1 hu).1;rw[h.1]at this;exact this};obtain⟨b,o,e,_,hc⟩:=h8.at_ zo;cases e;rw[q11];exact hc j u hu};have h2:=h.1;have h3:=λw=>Lib.run_eql_slice_nil (P:=Tryz.prog) w 82 81 (some ad) n c 0 0 qdo.u;refine zi ?_;go_wp2_with(at_builtin;refine wpList_append_own_at _ zr _ _ 82 zr w.heap.size 81 i0 _ 6 48 qdo.u h7 ha hb hd he zd _ 0 _ zr h1 ad n c xs zr h2 h0 hcell (by unfold maxLen;omega) zo zp ?_;intro v' w1 hown1 hg1 hnil1 hat1);go_returns;rw[Zp,Q6]at hown1;obtain⟨A,c',rfl,h4,h5⟩:=zj.of hown1;exact⟨A,c',rfl,h4,h5,h6.grown hg1 zp (λk e=>by cases e;exact nL)⟩}
structure GvI(c:Pw)(s:Gv):Prop where
 now:i64 s.pl.now
 base:i64 s.base
 done:i64 s.done
 l0:0<=s.pl.level
 l1:s.pl.level<c.levels.l.length
section
variable{W w0 w:World}{x:Gx}{c:Pw}{s:Gv}
def q42(c:Pw)(s:Gv)(k:Int):Gv:=if k≠s.pl.level then{s with pl:=(turnS c s.pl k).2,base:=(turnS c s.pl k).2.now,done:=0} else s
def qsr(c:Pw)(s:Gv)(l en:Int):Int:=qf1 c ⟨s.pl.now,s.base,s.done,s.pl.level,l⟩ en (q05 s).1
theorem qow(c:Pw)(s:Gv)(l en:Int):q7m c s l en=if qsr c s l en<0 then wrap64 (c.levels.l.length-1) else qsr c s l en:=rfl
def qzy(c:Pw)(s:Gv)(part n:Int):Gv:={s with pl:=(qi9 c s.pl part n).2,done:=wrap64 (s.done+n)}
theorem qox(c:Pw)(s:Gv)(part n l en:Int):qtx c s part n l en=qzy c (q42 c (q05 s).2 (q7m c s l en)) part n:=by unfold qtx qzy q42;simp only[q3h]
theorem qu5:∀(l:List Sp) (x:Pn),(qT x l).2.level=x.level
 |[],_=>rfl
 |s::l,x=>by unfold qT;split;{exact qu5 l _};{rfl}
theorem q80(x:Pn)(l:List Sp):(q0r x l).2.level=x.level:=by unfold q0r;split;{exact qu5 l x};{rfl}
theorem qss(c:Pw)(x:Pn)(k:Int):(turnS c x k).2.level=x.level\/0<=k/\k<c.levels.l.length/\(turnS c x k).2.level=k:=by unfold turnS;by_cases h1:k<0\/(c.levels.l.length:Int)<=k;{rw[Z1 h1];exact .inl rfl};rw[Z0 h1];by_cases h2:k=x.level;{rw[Z1 h2];exact .inl rfl};rw[Z0 h2];by_cases h3:(q0r x [⟨3,0,c.change,c.sw⟩]).1=0;{rw[Z1 h3];exact .inr ⟨zo,zo,rfl⟩};{rw[Z0 h3];exact .inl (q80 _ _)}
theorem q81{c:Pw}{s:Gv}(k:Int)(h0:0<=s.pl.level)(h1:s.pl.level<c.levels.l.length):0<=(q42 c s k).pl.level/\(q42 c s k).pl.level<c.levels.l.length:=by unfold q42;split;{rcases qss c s.pl k with h|⟨a,b,h⟩;{dsimp only;rw[h];exact⟨h0,h1⟩};{dsimp only;rw[h];exact⟨a,b⟩}};{exact⟨h0,h1⟩}
theorem Gn.done_(N:Gn W w0 w x c s)(d:Int):Gn W w0 (w.setCell ⟨x.g,1,none⟩ (ii d)) x c {s with done:=d}:=by have h:Fr (λk=>k=x.g) w (w.setCell ⟨x.g,1,none⟩ (ii d)):=(Fr.refl (λk=>k=x.g) w).setCell (p:=⟨x.g,1,none⟩) (λ_=>rfl) _;have h':Fr (GS x) w _:=h.mono λk _ hk=>.inl hk;obtain⟨a1,a2,a3,a4,a5⟩:=N.ne;exact⟨N.bel h',N.F.trans h',N.hc,N.k.set_ 1 _,N.P.fr h (λe=>a1 e.symm) (λe=>a2 e.symm) (λe=>a3 e.symm),N.f.fr h (λe=>a5 e.symm),N.n.fr h (λe=>a4 e.symm),N.le,N.ne,N.nn,N.nf,N.i,N.nl⟩
theorem qst(N:Gn W w0 w x c s)(I:GvI c s){part n l en:Int}(hl:i64 l):cP 189 #[pp x.g,ii part,ii n,ii l,ii en] w λe w'=>e=.returned (.tuple #[])/\Gn W w0 w' x c (qtx c s part n l en):=by
 have HE:=zhd (qox c s part n l en);have HL:=zhd (qow c s l en);have he:Ls.ok ⟨s.pl.now,s.base,s.done,s.pl.level,l⟩:=⟨I.now,I.base,I.done,(show i64 s.pl.level by have:=I.l0;have:=I.l1;have:=N.nl.out.2;unfold i64;omega),hl⟩;obtain⟨kc,lg⟩:=N.k.cl;refine zi ?_;go_upto_region 0 with fail;go_cut [10] (λv wx=>∃q,v=.pointer (some ⟨q,0,none⟩)/\Blk wx q 431 #[.int .i64 s.pl.now,.int .i64 s.base,.int .i64 s.done,.int .i64 s.pl.level,.int .i64 l]/\bW w wx/\w.heap.size<=q)
 case first=>
  apply z2o 23 22 [12,13,14,15,16,17,18,19,20,21,22,23,24,25,26,27,28,29,30,31,32,33,10] [[],[0],[1],[2],[3],[],[5],[6],[7],[8],[],[10],[11],[12],[13],[],[15],[16],[17],[18],[],[4,9,14,19,20]] [_,_,_,_,_,_,_,_,_,_,_,_,_,_,_,_,_,_,_,_,_,_,undef] 431 #[ii 0,ii 0,ii 0,ii 0,ii 0] zk zk zd
  case hs=>
   refine⟨⟨⟨⟨⟨⟨⟨⟨⟨⟨⟨⟨⟨⟨⟨⟨⟨⟨⟨⟨⟨⟨⟨trivial,?_⟩,?_⟩,?_⟩,?_⟩,?_⟩,?_⟩,?_⟩,?_⟩,?_⟩,?_⟩,?_⟩,?_⟩,?_⟩,?_⟩,?_⟩,?_⟩,?_⟩,?_⟩,?_⟩,?_⟩,?_⟩,?_⟩,λh=>absurd rfl h⟩
   all_goals
    intro _ X u hB;simp only[qS,setL,z2t,List.foldl,ZA,ZR,ZW,QM,QN,Nat.reduceEqDiff,reduceIte];have M:=N.keep hB;obtain⟨mc,ml⟩:=M.k.cl;have hP:=q20 M.P;have hL:=q8c M.P;refine q1g rfl rfl (λU V=>?_);go_wp2_with(first|(refine hP.mono ?_;rintro _ _⟨rfl,rfl⟩)|(refine hL.mono ?_;rintro _ _⟨rfl,rfl⟩));exact V _ _ rfl ⟨rfl,bR⟩
  case hf=>
   intro X u hB;simp only[qS,z2t,List.foldl,ZA,ZR,ZW,QM,QN,Nat.reduceEqDiff,reduceIte];refine q1g rfl rfl (λU V=>?_);go_wp2_with fail;exact V _ _ rfl ⟨u.heap.size,rfl,zA u _,Blk.new _ _ _,nL⟩
  case hz=>
   intro X u q hB hg hq k hwq;have g:=hg 21 zd zd;simp only[QM,QN]at g hq;simp only[qS,List.foldl,ZA,ZR,ZW];rw[g,hq];clear hg hq g;have kc:=k.cell;have kf:=k.frozen;have kl:=k.lt;refine q1g rfl rfl (λU V=>?_);go_wp2_with fail;have nK:=Blk.row (vs:=[ii s.pl.now,ii s.base,ii s.done,ii s.pl.level,ii l]) k rfl;have nB:=Below.row (g:=q) [ii s.pl.now,ii s.base,ii s.done,ii s.pl.level,ii l] 0 hB hwq;refine V _ _ rfl ?_;go_wp2_with fail;go_meet
   case rel=>exact⟨q,rfl,nK,nB,hwq⟩
 case rest=>
  obtain⟨q,rfl,kq,hB,hq⟩:=hcut;have hd:q≠x.nb:=λe=>by have:=N.n.lt;omega
  have hj:q≠x.g:=λe=>by omega
  have HQG:=zhd hj;have HQ3:Hid (∀k,S3 x.p x.m x.r k->k≠q):=λk hk e=>by
   have h1:=N.P.b.lt;have h2:=N.P.m.b.lt;have h3:=N.P.m.c.lt;rcases hk with h|h|h <;> omega
  have N:=N.keep hB;obtain⟨kc,lg⟩:=N.k.cl;obtain⟨kx,lx⟩:=kq.cl;have hh:x.g≠x.nb:=N.ne.2.2.2.1;have h8:=zhd (qfy s);have ha:=zhd (q3h s);have hb:=zhd he;have h4:Hid (0<=(q05 s).2.pl.level/\(q05 s).2.pl.level<c.levels.l.length):=by rw[ha.out];exact⟨I.l0,I.l1⟩
  clear hB hq he I hl;have h9:Hid (qsr c s l en=qf1 c ⟨s.pl.now,s.base,s.done,s.pl.level,l⟩ en (q05 s).1):=rfl;go_upto_region 2 with(((with_reducible refine q88 (λk=>k=x.nb) [(10,0),(0,2)] ?_);(try simp only[q03,tkO,dpO]);refine aG ?_;refine qwW (λU V=>?_);go_wp2_with fail;go_at_call 126;refine(qcb (N.keep bR.drew)).mono ?_;rintro _ w2⟨rfl,N,f2⟩;refine zGB ((fO bR.drew _).trans f2) ?_;clear V U;intro U V;go_wp2_with fail;go_at_call 257;refine(qov N.pw hb.out N.nl.out.2 h8.out).mono ?_;rintro _ w3⟨rfl,b3⟩;refine zE ?_;clear V U);have N:=N.keep b3;have kq:=(kq.fr ((fO bR.drew (λk=>k=x.nb)).trans f2) hd).keep b3;obtain⟨kc,lg⟩:=N.k.cl;obtain⟨kx,lx⟩:=kq.cl);rw[<- h9.out];generalize qsr c s l en=k0 at*;generalize q7m c s l en=k at*;have h5:(q05 s).2.pl.level=s.pl.level:=by rw[ha.out]
  rw[<- h5]at kx;have HPL0:=zhd h5;generalize(q05 s).2=g1 at*;clear h5 h9 hb h8 hd hh;by_cases q1:k0<0
  .have b1:decide (k0<0)=true:=Z5 q1;have h6:=zhd (HL.out.trans (Z1 q1));clear HL q1;go_upto_region 4 with fail;rw[<- h6.out];clear h6;by_cases q2:k=g1.pl.level
   .have b2:(k==g1.pl.level)=true:=by simpa using q2
    have N:=N.eqS (show q42 c g1 k=g1 from Z0 (λh=>h q2));have h0:Hid (0<=(q42 c g1 k).pl.level/\(q42 c g1 k).pl.level<c.levels.l.length):=q81 k h4.out.1 h4.out.2;obtain⟨kc,lg⟩:=N.k.cl;clear q2;generalize q42 c g1 k=g2 at*;go_wp2_with((go_at_call 259;refine(q9c N.P N.hc N.b h0.out.1 h0.out.2).mono ?_;rintro _ w6⟨rfl,P6,f6⟩);have N:=N.plant P6 f6;obtain⟨kc,lg⟩:=N.k.cl;have fg:=N.k.frozen);go_returns;exact⟨rfl,(N.done_ _).eqS HE.out⟩
   .have b2:(k==g1.pl.level)=false:=by simpa using q2
    have h7:=zhd q2;clear q2;go_upto_region 7 with(first
     |((go_at_call 258;refine(turn_any N.P ⟨N.hc.2.2.2.2.1,N.hc.2.2.1⟩).mono ?_;rintro _ w4⟨rfl,P4,f4⟩);have N:=N.plant P4 f4;obtain⟨kc,lg⟩:=N.k.cl;have fg:=N.k.frozen)
     | (go_at_call 132;refine(q20 N.P).mono ?_;rintro _ _⟨rfl,rfl⟩))
    have N:=(N.clock (turnS c g1.pl k).2.now 0).eqS (show q42 c g1 k=_ from Z1 h7.out);have h0:Hid (0<=(q42 c g1 k).pl.level/\(q42 c g1 k).pl.level<c.levels.l.length):=q81 k h4.out.1 h4.out.2;obtain⟨kc,lg⟩:=N.k.cl;generalize q42 c g1 k=g2 at*;generalize(w4.setCell ⟨x.g,0,none⟩ (ii (turnS c g1.pl k).2.now)).setCell ⟨x.g,1,none⟩ (ii 0)=w5 at*;go_wp2_with((go_at_call 259;refine(q9c N.P N.hc N.b h0.out.1 h0.out.2).mono ?_;rintro _ w6⟨rfl,P6,f6⟩);have N:=N.plant P6 f6;obtain⟨kc,lg⟩:=N.k.cl;have fg:=N.k.frozen);go_returns;exact⟨rfl,(N.done_ _).eqS HE.out⟩
  .have b1:decide (k0<0)=false:=Z3 q1;have h6:=zhd (HL.out.trans (Z0 q1));clear HL q1;go_upto_region 4 with fail;obtain rfl:k=k0:=h6.out;clear h6;by_cases q2:k=g1.pl.level
   .have b2:(k==g1.pl.level)=true:=by simpa using q2
    have N:=N.eqS (show q42 c g1 k=g1 from Z0 (λh=>h q2));have h0:Hid (0<=(q42 c g1 k).pl.level/\(q42 c g1 k).pl.level<c.levels.l.length):=q81 k h4.out.1 h4.out.2;obtain⟨kc,lg⟩:=N.k.cl;clear q2;generalize q42 c g1 k=g2 at*;go_wp2_with((go_at_call 259;refine(q9c N.P N.hc N.b h0.out.1 h0.out.2).mono ?_;rintro _ w6⟨rfl,P6,f6⟩);have N:=N.plant P6 f6;obtain⟨kc,lg⟩:=N.k.cl;have fg:=N.k.frozen);go_returns;exact⟨rfl,(N.done_ _).eqS HE.out⟩
   .have b2:(k==g1.pl.level)=false:=by simpa using q2
    have h7:=zhd q2;clear q2;go_upto_region 7 with(first
     |((go_at_call 258;refine(turn_any N.P ⟨N.hc.2.2.2.2.1,N.hc.2.2.1⟩).mono ?_;rintro _ w4⟨rfl,P4,f4⟩);have N:=N.plant P4 f4;obtain⟨kc,lg⟩:=N.k.cl;have fg:=N.k.frozen)
     | (go_at_call 132;refine(q20 N.P).mono ?_;rintro _ _⟨rfl,rfl⟩))
    have N:=(N.clock (turnS c g1.pl k).2.now 0).eqS (show q42 c g1 k=_ from Z1 h7.out);have h0:Hid (0<=(q42 c g1 k).pl.level/\(q42 c g1 k).pl.level<c.levels.l.length):=q81 k h4.out.1 h4.out.2;obtain⟨kc,lg⟩:=N.k.cl;generalize q42 c g1 k=g2 at*;generalize(w4.setCell ⟨x.g,0,none⟩ (ii (turnS c g1.pl k).2.now)).setCell ⟨x.g,1,none⟩ (ii 0)=w5 at*;go_wp2_with((go_at_call 259;refine(q9c N.P N.hc N.b h0.out.1 h0.out.2).mono ?_;rintro _ w6⟨rfl,P6,f6⟩);have N:=N.plant P6 f6;obtain⟨kc,lg⟩:=N.k.cl;have fg:=N.k.frozen);go_returns;exact⟨rfl,(N.done_ _).eqS HE.out⟩
end
section
open Go.ChangeShapes Go.WideShapes Go.ChangeAt Go.RowKit Go.Joins
section
variable{H:Type}{enc:TypeId×Value->H}{W:World}{r:Reach}{base:Nat}{v:Value}{d:DataW H}{p:List MemPlace}
theorem qpx(hv:Value.okWide Tryz.prog W r base 33 v)(h:DataW.Trod enc Tryz.prog W 0 (λ_=>true) true 33 v d p):∃x:Cf,v=.agg (Cf.lw x)/\q1k.ok W x:=by obtain⟨x,e,h⟩:=qtm q1k qx1 zk hv h;exact⟨x,e,h⟩
theorem qug(hv:Value.okWide Tryz.prog W r base 37 v)(h:DataW.Trod enc Tryz.prog W 0 (λ_=>true) true 37 v d p):∃x:Sc,v=.agg #[x.progs.hq,x.frames.hq]/\q73.ok W x:=by obtain⟨x,e,h⟩:=qtm q73 z0r zk hv h;exact⟨x,e,h⟩
end
end
end Go.Proofs.YtncfcbohiodnnaaGreat
