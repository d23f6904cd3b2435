/- Parts of this seat's claims. -/
import Derived.Test.YtncfcbohiodnnaaGreatWX31
set_option maxRecDepth 100000
set_option maxHeartbeats 6400000
namespace Go.Proofs.YtncfcbohiodnnaaGreat
open Go.RowKit
variable{w w' W wa wo W':World}{c n pt r B j b m mb q base cap id B0:Nat}{A:Option Addr}{a code what:Int}{cs:Array Value}
structure Rs where
 eA:Option Addr
 ec:Nat
 mA:Option Addr
 mc:Nat
 mh:List Mh
 bA:Option Addr
 bc:Nat
 gA:Option Addr
 gn:Nat
 gc:Nat
 i1:Int
 i2:Int
 i3:Int
 hA:Option Addr
 hc:Nat
 dA:Option Addr
 dc:Nat
 rA:Option Addr
 rn:Nat
 rc:Nat
def Rs.cells(x:Rs)(s:Sy):Array Value:=#[.slice x.eA s.evs.length x.ec,.slice x.mA s.msgs.length x.mc,.slice x.bA s.bounds.length x.bc,.slice x.gA x.gn x.gc,ii x.i1,ii x.i2,ii x.i3,ii s.g.pl.m.total,.slice x.hA s.sheds.length x.hc,.slice x.dA s.modes.length x.dc,.slice x.rA x.rn x.rc,ii s.late]
structure RsR(B:Nat)(w:World)(x:Rs)(s:Sy):Prop where
 ev:zx w x.eA s.evs.length x.ec 6 Ev.f s.evs
 ms:zx w x.mA s.msgs.length x.mc 3 Mh.f x.mh
 mg:x.mh.map Mh.g=s.msgs
 md:∀m∈x.mh,SlB w m.d.A m.d.l.length m.d.c m.d.l
 bd:zx w x.bA s.bounds.length x.bc 3 Bd.f s.bounds
 sh:Sl w x.hA s.sheds.length x.hc 1 (s.sheds.map (.int .i64))
 ow:∀A,A=x.eA\/A=x.mA\/A=x.bA\/A=x.hA->∀b o,A=some ⟨b,o,none⟩->B<=b
 od:∀m∈x.mh,∀b o,0<m.d.l.length->m.d.A=some ⟨b,o,none⟩->B<=b
 le:s.evs.length<=11000000/\s.bounds.length<=11000000/\s.msgs.length<=11000000
theorem RsR.keep{x:Rs}{s:Sy}(h:RsR B w x s)(hb:bW w w'):RsR B w' x s:=⟨h.ev.keep hb,h.ms.keep hb,h.mg,λm hm=>(h.md m hm).keep hb,h.bd.keep hb,h.sh.keep hb,h.ow,h.od,h.le⟩
theorem RsR.fr{S:Nat->Prop}{x:Rs}{s:Sy}(h:RsR B w x s)(f:Fr S w w')(hS:∀k,S k->k<B):RsR B w' x s :=
 have n:∀b,B<=b->¬S b:=λb hb hs=>absurd (hS b hs) zo
 ⟨h.ev.fr f λb o _ e=>n b (h.ow _ (.inl rfl) b o e),h.ms.fr f λb o _ e=>n b (h.ow _ (.inr (.inl rfl)) b o e),h.mg,λm hm=>(h.md m hm).fr f λb o hn e=>n b (h.od m hm b o hn e),h.bd.fr f λb o _ e=>n b (h.ow _ (.inr (.inr (.inl rfl))) b o e),h.sh.fr f λb o _ e=>n b (h.ow _ (.inr (.inr (.inr rfl))) b o e),h.ow,h.od,h.le⟩
theorem zj.off{e:TypeId}{sz:Nat}{xs:List Value}{o:Nat}(h:zj w e sz (some ⟨b,o,none⟩) n c xs):o=0:=by rcases h.2 with⟨h1,_⟩|⟨g,cap,cur,h1,_⟩;{cases h1};{cases h1;rfl}
def qhr(cf:Cf)(sc:Sc):Sy:=qdz cf (q3i cf sc) ((Ca.pagesS cf Ca.Pg0 sc.frames.l).zip sc.frames.l)
def z2k(w:World)(cf:Cf)(sc:Sc)(e:Ending)(w':World):Prop :=
 (q2d cf sc=true->∃q,e=.returned (.tuple #[.agg (q.cells (qhr cf sc)),ii 0])/\RsR w.heap.size w' q (qhr cf sc))/\(q2d cf sc=false->∃z:Int,z≠0/\e=.returned (.tuple #[.agg #[nS,nS,nS,nS,ii 0,ii 0,ii 0,ii 0,nS,nS,nS,ii 0],ii z]))/\bW w w'
theorem qta{α β:Type}{l:List α}{m:List β}(a:α)(b:β){k:Nat}(h1:k<l.length)(h2:k<m.length):(l.zip m).take (k+1)=(l.zip m).take k ++ [(z6 a l k,z6 b m k)]:=by rw[Zm (by rw[List.length_zip];omega),List.getElem_zip,q0s h1,q0s h2]
theorem qpp(cf:Cf)(s:Sy)(l:List (Ca.Pg×Fm))(x:Ca.Pg×Fm):qdz cf s (l ++ [x])=q1x cf (qdz cf s l) x.1 x.2:=by unfold qdz;rw[ZJ];rfl
theorem qhs{cf:Cf}{sc:Sc}(hx:q1k.ok w cf)(hs:q73.ok w sc)(hcap:∀p,p<cf.parts.l.length->(z6 ze cf.parts.l p).cap<=400) :
  cP 13 #[.agg (Cf.lw cf),.agg #[.slice sc.progs.A sc.progs.l.length sc.progs.c,.slice sc.frames.A sc.frames.l.length sc.frames.c]] w (z2k w cf sc):=by
 have b0:bW w (((w.alloc (.cells (Cf.lw cf) 33)).alloc (.cells #[.slice sc.progs.A sc.progs.l.length sc.progs.c,.slice sc.frames.A sc.frames.l.length sc.frames.c] 37)).alloc (.cells #[nS,nS,nS,nS,ii 0,ii 0,ii 0,ii 0,nS,nS,nS,ii 0] 62)):=zv;have kp:=((Blk.new w 33 (Cf.lw cf)).alloc (.cells #[.slice sc.progs.A sc.progs.l.length sc.progs.c,.slice sc.frames.A sc.frames.l.length sc.frames.c] 37)).alloc (.cells #[nS,nS,nS,nS,ii 0,ii 0,ii 0,ii 0,nS,nS,nS,ii 0] 62);have kt:=(Blk.new (w.alloc (.cells (Cf.lw cf) 33)) 37 #[.slice sc.progs.A sc.progs.l.length sc.progs.c,.slice sc.frames.A sc.frames.l.length sc.frames.c]).alloc (.cells #[nS,nS,nS,nS,ii 0,ii 0,ii 0,ii 0,nS,nS,nS,ii 0] 62);have kr:=Blk.new ((w.alloc (.cells (Cf.lw cf) 33)).alloc (.cells #[.slice sc.progs.A sc.progs.l.length sc.progs.c,.slice sc.frames.A sc.frames.l.length sc.frames.c] 37)) 62 #[nS,nS,nS,nS,ii 0,ii 0,ii 0,ii 0,nS,nS,nS,ii 0];rw[Z9]at kt kr;rw[Z9]at kr;obtain⟨gp,Hm⟩:=aU w.heap.size;rw[<- Hm]at kp kt kr;refine zi ?_;go_upto_region 1 with fail;rw[<- Hm];generalize((w.alloc (.cells (Cf.lw cf) 33)).alloc (.cells #[.slice sc.progs.A sc.progs.l.length sc.progs.c,.slice sc.frames.A sc.frames.l.length sc.frames.c] 37)).alloc (.cells #[nS,nS,nS,nS,ii 0,ii 0,ii 0,ii 0,nS,nS,nS,ii 0] 62)=w1 at*;have HG:Hid (w.heap.size<=gp+1+1):=by show w.heap.size<=gp+1+1;omega
 have kc:=kp.cell;have tc:=kt.cell;have lg:=kp.lt;have lt:=kt.lt;have hC:=qkq (q1k.keep hx b0) (q73.keep hs b0);have HX:=zhd hx;have HS:=zhd hs;have Hb:=zhd hcap;have a0:=zhd b0;have H8:=zhd kp;have ht:=zhd kt;have hj:=zhd kr;clear hx hs hcap b0 kp kt kr Hm;go_upto_region 2 with(go_fit hC;rintro _ w2⟨⟨z1,k1,rfl,Ha⟩,hB⟩);have B2:=bt a0.out hB;have kp:=H8.out.keep hB;have kt:=ht.out.keep hB;have kr:=hj.out.keep hB;clear kc tc lg lt hC hB a0 H8 ht hj;have hr:=zhd B2;have H8:=zhd kp;have ht:=zhd kt;have hj:=zhd kr;cases hb:q2d cf sc with
 |false=>
  have hz:=quy Ha hb;have b1:decide (z1≠0)=true:=Z5 hz;have HF:=zhd hb;have HZ:=zhd hz;have rc:=kr.cell;have rf:=kr.frozen;have rl:=kr.lt;clear Ha hb kp kt kr B2;go_wp2_with fail;have nK:=Blk.row (vs:=[nS,nS,nS,nS,ii 0,ii 0,ii 0,ii 0,nS,nS,nS,ii 0]) hj.out rfl;have nB:=Below.row (g:=gp+1+1) [nS,nS,nS,nS,ii 0,ii 0,ii 0,ii 0,nS,nS,nS,ii 0] 0 hr.out HG.out;simp only[setRow,Zp]at nK nB;clear rc rf rl
  try simp only[Exit.inBlock,Exit.then]
  obtain⟨w9,bb⟩:∃w9,((((((((((((w2).setCell ⟨gp+1+1,0,none⟩ nS).setCell ⟨gp+1+1,1,none⟩ nS).setCell ⟨gp+1+1,2,none⟩ nS).setCell ⟨gp+1+1,3,none⟩ nS).setCell ⟨gp+1+1,4,none⟩ (ii 0)).setCell ⟨gp+1+1,5,none⟩ (ii 0)).setCell ⟨gp+1+1,6,none⟩ (ii 0)).setCell ⟨gp+1+1,7,none⟩ (ii 0)).setCell ⟨gp+1+1,8,none⟩ nS).setCell ⟨gp+1+1,9,none⟩ nS).setCell ⟨gp+1+1,10,none⟩ nS).setCell ⟨gp+1+1,11,none⟩ (ii 0)=w9:=⟨_,rfl⟩;rw[bb]at nK nB⊢;have y:=nK.cell;exact Z_ (v := .tuple #[.agg #[nS,nS,nS,nS,ii 0,ii 0,ii 0,ii 0,nS,nS,nS,ii 0],ii z1]) (by simp[results,Tryz.results13,go_sem,y]) rfl ⟨λh=>absurd (HF.out.symm.trans h) zp,λ_=>⟨z1,HZ.out,rfl⟩,nB⟩
 |true=>
  obtain rfl:=qux Ha hb;have HF:=zhd hb;have G:CfG cf:=qds (by unfold q2d at hb;simp only[Z6]at hb;exact hb.1);have ag:sc.frames.l.length<=64:=by unfold q2d qxe at hb;simp only[Z6,Zt]at hb;exact hb.2.1
  have az:=zhd (qzh hb);have hh:=zhd G;have Hr:=q1k.keep HX.out B2;have Hq:=q73.keep HS.out B2;have ab:=zhd Hr;have a8:=zhd Hq;have H7:=zhd ag;have hM:=qt5 Hr Hq az.out;have kc:=kp.cell;have tc:=kt.cell;have lg:=kp.lt;have lt:=kt.lt;clear Ha hb kp kt kr B2 Hr Hq G;go_upto_region 5 with(go_fit hM;rintro _ w3⟨o3,x3,rfl,S3⟩);have a9:=zhd S3;have Hu:=H8.out.keep S3.B.b;have Hv:=ht.out.keep S3.B.b;replace kc:=Hu.cell;replace tc:=Hv.cell;replace lg:=Hu.lt;replace lt:=Hv.lt;have hP:=Ca.Pages_any (x:=cf) (L:=sc.frames) (q1k.keep ab.out S3.B.b) (q91.keep a8.out.2 S3.B.b) zo;have He:=zhd (q84 hh.out sc.frames.l Ca.Pg0 ⟨zd,by have:=hh.out.m1;show(0:Int)<_;omega⟩ zd (by show(0:Int)+_<=_;omega));clear S3 Hu Hv hM;go_upto_region 6 with(go_fit hP;rintro _ w4⟨v4,rfl,hd,ac⟩;obtain⟨PA,pc,rfl,Hp,h8⟩:=zx.of_own hd (λ_ _=>rfl) rfl);obtain⟨m4,S4⟩:=a9.out.laid (l := .data) ac;have h0:∀b j,PA=some ⟨b,j,none⟩->(lay w3 o3 .data) b=.data:=λb j e=>q07 (h8 b j e);have ar:x3.y=x3.y:=rfl;obtain⟨y,hy⟩:∃y,x3.y=y:=⟨_,rfl⟩;rw[hy]at ar⊢;rw[He.out.1]at Hp⊢;generalize lay w3 o3 .data=o4 at*;have I4:=qzj (W:=w2) (sc:=sc) ab.out hh.out Hb.out;have J4:SyJ 0 (q3i cf sc):=⟨by simp[q3i],by simp[q3i],by simp[q3i]⟩;have b2:Hid (qhr cf sc=qdz cf (q3i cf sc) ((Ca.pagesS cf Ca.Pg0 sc.frames.l).zip sc.frames.l)):=rfl;generalize Ca.pagesS cf Ca.Pg0 sc.frames.l=P at*;generalize q3i cf sc=s0 at*;have Hz:=zhd (And.intro S4 (And.intro I4 (And.intro J4 (And.intro hy (And.intro Hp h0)))));clear hd h8 ac ar hy S4 I4 J4 Hp h0 m4 a9 kc tc lg lt hP ag;go_loopw[29] (λi wr=>∃(k:Nat) (o':Gh) (x':Yx),i=.int .i64 k/\k<=sc.frames.l.length/\SyR0 w2 wr o' cf x' (qdz cf s0 ((P.zip sc.frames.l).take k))/\SyI w2 cf (160000*k) (32*k) (65536*k) (qdz cf s0 ((P.zip sc.frames.l).take k))/\SyJ k (qdz cf s0 ((P.zip sc.frames.l).take k))/\x'.y=y/\zx wr PA sc.frames.l.length pc 4 Ca.Pg.f P/\(∀b j,PA=some ⟨b,j,none⟩->o' b=.data)) (λi _=>sc.frames.l.length-(intOf i).toNat)
  case atStart=>exact⟨0,o4,x3,rfl,Za _,Hz.out⟩
  case round=>
   clear Hz;obtain⟨k,o',x',rfl,b8,S,I,J,hy,hp,h0⟩:=hrel;by_cases hk:k<sc.frames.l.length
   .have Hn:k<P.length:=by rw[He.out.1];exact hk
    obtain⟨e9,ae⟩:=He.out.2 _ (q9v Ca.Pg0 Hn);obtain⟨pb,po,Hj,ba,H5⟩:=hp.at_ Ca.Pg0 hk;have hF:=q91.keep a8.out.2 S.B.b;obtain⟨fb,fo,ad,hu,hv⟩:=hF.1.at_ qt hk;rw[show z0l.sz=4 from rfl]at hv;have af:=hF.2 _ (q0h (d:=qt) hk);have am:qdz cf s0 ((P.zip sc.frames.l).take (k+1))=q1x cf (qdz cf s0 ((P.zip sc.frames.l).take k)) (z6 Ca.Pg0 P k) (z6 qt sc.frames.l k):=by rw[qta Ca.Pg0 qt Hn hk,qpp]
    generalize qdz cf s0 ((P.zip sc.frames.l).take k)=s at*;generalize hq:z6 Ca.Pg0 P k=q at*;generalize hf:z6 qt sc.frames.l k=f at*;have p0:wr.cell? ⟨pb,po+k*4,none⟩=some (ii q.at_):=H5 0 _ rfl;have p1:wr.cell? ⟨pb,po+k*4+1,none⟩=some (ii q.end_):=H5 1 _ rfl;have p2:wr.cell? ⟨pb,po+k*4+2,none⟩=some (ii q.mode):=H5 2 _ rfl;have p3:wr.cell? ⟨pb,po+k*4+3,none⟩=some (ii q.level):=H5 3 _ rfl;have f0:wr.cell? ⟨fb,fo+k*4,none⟩=some (ii f.reading):=hv 0 _ rfl;have f1:wr.cell? ⟨fb,fo+k*4+1,none⟩=some (ii f.mode):=hv 1 _ rfl;have f2:wr.cell? ⟨fb,fo+k*4+2,none⟩=some (ii f.drift):=hv 2 _ rfl;have f3:wr.cell? ⟨fb,fo+k*4+3,none⟩=some (ii f.choice):=hv 3 _ rfl;have h5:=zhd (And.intro S (And.intro I (And.intro J (And.intro hy (And.intro hp h0)))));have Hf:=zhd am;have HK:=zhd hk;have HQ:=zhd ae;have av:=zhd af;have an:wrap64 ((k:Int)+1)=((k+1:Nat):Int):=by have:=H7.out;unfold wrap64;omega
    rw[Hj];have H1:=zhd Hj;have Hx:wr.cell? ⟨gp+1,1,none⟩=some (.slice sc.frames.A sc.frames.l.length sc.frames.c):=(ht.out.keep S.B.b).cell 1;have lt:=(ht.out.keep S.B.b).lt;rw[ad]at Hx;clear S I J hy hp h0 H5 hv am ae af hF hq hf Hj ad Hn;have ax:Hid (∀w',bW wr w'->cP 30 #[pp y,.agg #[ii q.at_,ii q.end_,ii q.mode,ii q.level],.agg (Fm.lw f)] w' λe w''=>e=.returned (.tuple #[])/\∃o9 x9,x9.y=y/\Mv zT (lay wr o' .data) w' o9 w''/\SyR w2 w'' o9 cf x9 (q1x cf s q f)):=zhd λw' hb=>by
     obtain⟨S,I,J,hy,hp,h0⟩:=h5.out;obtain⟨m,hm⟩:=Zf HQ.out.m0;have h7:m<cf.modes.l.length:=by have:=HQ.out.m1;omega
     obtain⟨g1,g2,g3,g4⟩:=qb0 hh.out h7;have ah:=HK.out;have Hk:=H7.out;have h:=qpj (S.laid (l := .data) hb).2 I J (pg:=q) (f:=f) h7 hm (by have:=HQ.out.e0;have:=HQ.out.e1;unfold i64;omega) av.out.2.2.2 zo g4 zo zo zo zo (by have:=hh.out.p1;omega);rw[hy]at h;refine h.mono λe w'' h=>⟨h.1,?_⟩;obtain⟨o9,x9,h1,h2,h3⟩:=h.2;exact⟨o9,x9,h1.trans hy,h2,h3⟩
    go_upto_region 8 with fail;have Ba:bW wr (wr.alloc (.cells #[ii q.at_,ii q.end_,ii q.mode,ii q.level] 104)):=zv;have kq:=Blk.new wr 104 #[ii q.at_,ii q.end_,ii q.mode,ii q.level];have bc:=(qcl Ba).1;replace f0:=(bc _ _ hu).trans f0;replace f1:=(bc _ _ hu).trans f1;replace f2:=(bc _ _ hu).trans f2;replace f3:=(bc _ _ hu).trans f3;replace Hx:=(bc _ _ lt).trans Hx;replace hu:=Zg hu Ba.size;replace lt:=Zg lt Ba.size;obtain⟨qc,ql⟩:=kq.cl;clear p0 p1 p2 p3 kq bc ba;generalize hwa:wr.alloc (.cells #[ii q.at_,ii q.end_,ii q.mode,ii q.level] 104)=wa at*;generalize hgq:wr.heap.size=gq at qc ql⊢;clear hwa hgq;go_wp2_with(refine zD 7 λU V=>?_;go_wp2_with fail;go_fit (ax.out _ (bt Ba bR.drew));rintro _ w7⟨rfl,o9,x9,h9,m9,S9⟩;refine zE ?_;clear V U);obtain⟨S,I,J,hy,hp,h0⟩:=h5.out;obtain⟨m,hm⟩:=Zf HQ.out.m0;have h7:m<cf.modes.l.length:=by have:=HQ.out.m1;omega
    have ak:=hp.keep (bt Ba bR.drew);have ha:∀b j,PA=some ⟨b,j,none⟩->(lay wr o' .data) b=.data:=λb j e=>by
     rcases ZH b wr.heap.size with h|h
     .rw[q0l h];exact h0 b j e
     .exact q07 h
    have ah:=HK.out;have Hk:=H7.out;have b7:∀b j,PA=some ⟨b,j,none⟩->b<wa.drew.heap.size:=λb j e=>by
     obtain⟨b',f',e',b6,_⟩:=ak.1.2.2.2.2 zo;rw[e]at e';cases e';exact b6
    have b9:=ak.go_ ha m9;have I2:=(I.frame hh.out (p:=q) (f:=f) h7 hm).le (a':=160000*(k+1)) (b':=32*(k+1)) (c':=65536*(k+1)) zo zo zo;refine⟨⟨k+1,o9,x9,by rw[an],ah,by rw[Hf.out];exact S9.to0,by rw[Hf.out];exact I2,by rw[Hf.out];exact J.frame hh.out h7 hm,h9,by rw[<- H1.out];exact b9,λb j e=>?_⟩,by rw[an];simp[intOf];omega⟩;have e':=H1.out.trans e;rw[m9.a b (b7 b j e')];exact ha b j e'
   .obtain rfl:k=sc.frames.l.length:=zo;have H2:(P.zip sc.frames.l).take sc.frames.l.length=P.zip sc.frames.l:=Zs (by rw[List.length_zip];omega);rw[H2,<- b2.out]at S I;have ay:=zhd (And.intro I.se (And.intro I.bd I.ms));generalize hrs:qhr cf sc=s at*;have a7:=zhd hrs;clear hrs;have h5:=zhd S;obtain⟨v,d,kg,-⟩:=S.g;have ky:=S.k.1;rw[hy]at ky;have yc:wr.cell? ⟨y,12,none⟩=some (pp x'.gx.g):=ky.cell 12;have yl:=ky.lt;have gc:wr.cell? ⟨x'.gx.g,10,none⟩=some (pp x'.gx.p):=kg.cell 10;have gl:=kg.lt;have a4:=zhd ky;have a3:=zhd kg;have a5:=qbr S.P;have a1:=qbs S.P.m;clear S I J hp h0 H2 ky kg b8 hk;go_upto_region 11 with(first|(go_fit a5;rintro _ _⟨rfl,rfl⟩)|((go_fit a1;rintro _ w7⟨⟨gA,h6,rfl⟩,Hg⟩);have he:=a4.out.keep Hg;have bg:w7.cell? ⟨y,3,none⟩=some nS:=he.cell 3;have bh:w7.cell? ⟨y,4,none⟩=some (ii 0):=he.cell 4;have bj:w7.cell? ⟨y,5,none⟩=some (ii 0):=he.cell 5;have bk:w7.cell? ⟨y,6,none⟩=some (ii 0):=he.cell 6;have yf:=he.frozen;have yl:=he.lt));have hg:=Blk.rowFrom [.slice gA s.g.pl.m.run.length h6,ii s.g.pl.m.idle,ii s.g.pl.m.sleep,ii s.g.pl.m.chg] 3 w7 _ he (by show(7:Nat)<=30;omega);have f8:=Fr.row (S:=λk=>k=y) (g:=y) [.slice gA s.g.pl.m.run.length h6,ii s.g.pl.m.idle,ii s.g.pl.m.sleep,ii s.g.pl.m.chg] 3 (fO Hg (λk=>k=y)) (λ_=>rfl);simp only[setRow,Nat.reduceAdd]at hg f8;obtain⟨w8,ap⟩:∃w8,(((w7.setCell ⟨y,3,none⟩ (.slice gA s.g.pl.m.run.length h6)).setCell ⟨y,4,none⟩ (ii s.g.pl.m.idle)).setCell ⟨y,5,none⟩ (ii s.g.pl.m.sleep)).setCell ⟨y,6,none⟩ (ii s.g.pl.m.chg)=w8:=⟨_,rfl⟩;rw[ap]at hg f8⊢;have H3:=a4.out;have Hh:=h5.out.P.fr f8 (λe=>h5.out.P.b.ne H3 zd e) (λe=>h5.out.P.m.b.ne H3 zd e) (λe=>h5.out.P.m.c.ne H3 zd e);have Ht:=a3.out.fr f8 (λe=>a3.out.ne H3 zd e);have a6:=qbr Hh;have aa:=qjy Hh;have Hy:w8.cell? ⟨y,12,none⟩=some (pp x'.gx.g):=hg.cell 12;have bm:w8.cell? ⟨y,7,none⟩=some (ii 0):=hg.cell 7;have bn:=hg.frozen;have bp:=hg.lt;have b4:w8.cell? ⟨x'.gx.g,10,none⟩=some (pp x'.gx.p):=Ht.cell 10;have b5:=Ht.lt;have H0:=zhd hg;have a2:=zhd f8;clear Ht Hh H3 hg f8 ap he bg bh bj bk yf yl yc gc gl a5 a1 Hg;go_upto_region 12 with(first|(go_fit a6;rintro _ _⟨rfl,rfl⟩)|(go_fit aa;rintro _ _⟨rfl,rfl⟩));have h4:=H0.out.set_ 7 (ii s.g.pl.m.total);have f9:Fr (λk=>k=y) wr (w8.setCell ⟨y,7,none⟩ (ii s.g.pl.m.total)):=a2.out.setCell (p:=⟨y,7,none⟩) (λ_=>rfl) _;clear H0 a2 Hy bm bn bp b4 b5 a6 aa;generalize w8.setCell ⟨y,7,none⟩ (ii s.g.pl.m.total)=w9 at*;have y0:w9.cell? ⟨y,0,none⟩=some (.slice x'.eA s.evs.length x'.ec):=h4.cell 0;have y1:w9.cell? ⟨y,1,none⟩=some (.slice x'.mA x'.mh.length x'.mc):=h4.cell 1;have y2:w9.cell? ⟨y,2,none⟩=some (.slice x'.bA s.bounds.length x'.bc):=h4.cell 2;have y3:w9.cell? ⟨y,3,none⟩=some (.slice gA s.g.pl.m.run.length h6):=h4.cell 3;have y4:w9.cell? ⟨y,4,none⟩=some (ii s.g.pl.m.idle):=h4.cell 4;have y5:w9.cell? ⟨y,5,none⟩=some (ii s.g.pl.m.sleep):=h4.cell 5;have y6:w9.cell? ⟨y,6,none⟩=some (ii s.g.pl.m.chg):=h4.cell 6;have y7:w9.cell? ⟨y,7,none⟩=some (ii s.g.pl.m.total):=h4.cell 7;have y8:w9.cell? ⟨y,8,none⟩=some (.slice x'.hA s.sheds.length x'.hc):=h4.cell 8;have y9:w9.cell? ⟨y,9,none⟩=some (.slice x'.dA s.modes.length x'.dc):=h4.cell 9;have y10:w9.cell? ⟨y,10,none⟩=some (.slice x'.rA x'.rv.length x'.rc):=h4.cell 10;have y11:w9.cell? ⟨y,11,none⟩=some (ii s.late):=h4.cell 11;have yl:=h4.lt;have Hs:y≠gp+1+1:=by
     have h1:=h5.out.k.2;rw[hy]at h1;intro e;have h2:=h5.out.B.l (gp+1+1) hj.out.lt;rw[<- e,h1]at h2;cases h2
    have H6:=(hj.out.keep h5.out.B.b).fr f9 (λe=>Hs e.symm);have rc:=H6.cell;have rf:=H6.frozen;have rl:=H6.lt;have HY:=zhd Hs;have Hc:=zhd H6;have au:=zhd f9;have b3:=zhd hy;clear Hs H6 f9 h4 hy;go_wp2_with fail;have nK:=Blk.row (vs:=[.slice x'.eA s.evs.length x'.ec,.slice x'.mA x'.mh.length x'.mc,.slice x'.bA s.bounds.length x'.bc,.slice gA s.g.pl.m.run.length h6,ii s.g.pl.m.idle,ii s.g.pl.m.sleep,ii s.g.pl.m.chg,ii s.g.pl.m.total,.slice x'.hA s.sheds.length x'.hc,.slice x'.dA s.modes.length x'.dc,.slice x'.rA x'.rv.length x'.rc,ii s.late]) Hc.out rfl;have fF:=Fr.row (S:=λk=>k=y\/k=gp+1+1) (g:=gp+1+1) [.slice x'.eA s.evs.length x'.ec,.slice x'.mA x'.mh.length x'.mc,.slice x'.bA s.bounds.length x'.bc,.slice gA s.g.pl.m.run.length h6,ii s.g.pl.m.idle,ii s.g.pl.m.sleep,ii s.g.pl.m.chg,ii s.g.pl.m.total,.slice x'.hA s.sheds.length x'.hc,.slice x'.dA s.modes.length x'.dc,.slice x'.rA x'.rv.length x'.rc,ii s.late] 0 (au.out.mono λk _ hk=>.inl hk) (λ_=>.inr rfl);simp only[setRow,Zp]at nK fF
    try simp only[Exit.inBlock,Exit.then]
    obtain⟨wF,be⟩:∃wF,((((((((((((w9).setCell ⟨gp+1+1,0,none⟩ (.slice x'.eA s.evs.length x'.ec)).setCell ⟨gp+1+1,1,none⟩ (.slice x'.mA x'.mh.length x'.mc)).setCell ⟨gp+1+1,2,none⟩ (.slice x'.bA s.bounds.length x'.bc)).setCell ⟨gp+1+1,3,none⟩ (.slice gA s.g.pl.m.run.length h6)).setCell ⟨gp+1+1,4,none⟩ (ii s.g.pl.m.idle)).setCell ⟨gp+1+1,5,none⟩ (ii s.g.pl.m.sleep)).setCell ⟨gp+1+1,6,none⟩ (ii s.g.pl.m.chg)).setCell ⟨gp+1+1,7,none⟩ (ii s.g.pl.m.total)).setCell ⟨gp+1+1,8,none⟩ (.slice x'.hA s.sheds.length x'.hc)).setCell ⟨gp+1+1,9,none⟩ (.slice x'.dA s.modes.length x'.dc)).setCell ⟨gp+1+1,10,none⟩ (.slice x'.rA x'.rv.length x'.rc)).setCell ⟨gp+1+1,11,none⟩ (ii s.late)=wF:=⟨_,rfl⟩;rw[be]at nK fF⊢;have z:=nK.cell;have S:=h5.out;have oy:o' y=.sys 0:=by have:=S.k.2;rw[b3.out]at this;exact this
    have bf:=S.B.l (gp+1+1) hj.out.lt;have H4:∀l,l ≠ .sys 0->l ≠ .free->∀k,o' k=l->¬(k=y\/k=gp+1+1):=λl h1 h2 k hk e=>by
     rcases e with rfl|rfl
     .exact h1 (hk.symm.trans oy)
     .exact h2 (hk.symm.trans bf)
    have aj:=S.mg;have h7:x'.mh.length=s.msgs.length:=by rw[<- aj,Zh]
    have BF:bW w wF:=(bt hr.out S.B.b).trans (fF.below (λk hk e=>by
     have hgs:=HG.out;have aq:=hr.out.size;rcases e with rfl|rfl
     .have:=S.B.l k zo;rw[oy]at this;cases this
     .omega) (bt hr.out S.B.b).size)
    refine Z_ (v := .tuple #[.agg #[.slice x'.eA s.evs.length x'.ec,.slice x'.mA x'.mh.length x'.mc,.slice x'.bA s.bounds.length x'.bc,.slice gA s.g.pl.m.run.length h6,ii s.g.pl.m.idle,ii s.g.pl.m.sleep,ii s.g.pl.m.chg,ii s.g.pl.m.total,.slice x'.hA s.sheds.length x'.hc,.slice x'.dA s.modes.length x'.dc,.slice x'.rA x'.rv.length x'.rc,ii s.late],ii 0]) (by simp[results,Tryz.results13,go_sem,z]) rfl ⟨λ_=>⟨⟨x'.eA,x'.ec,x'.mA,x'.mc,x'.mh,x'.bA,x'.bc,gA,s.g.pl.m.run.length,h6,s.g.pl.m.idle,s.g.pl.m.sleep,s.g.pl.m.chg,x'.hA,x'.hc,x'.dA,x'.dc,x'.rA,x'.rv.length,x'.rc⟩,by rw[a7.out,h7];rfl,?_⟩,λh=>absurd (HF.out.symm.trans h) zp,BF⟩;rw[a7.out];refine⟨⟨(S.ev.1.fr fF λk hk=>H4 _ zp zp k (S.ev.2 k hk)).sl,rfl,λ_ _=>rfl⟩,⟨by rw[<- h7];exact(S.ms.1.fr fF λk hk=>H4 _ zp zp k (S.ms.2 k hk)).sl,h7,λ_ _=>rfl⟩,aj,λm hm=>?_,⟨(S.bd.1.fr fF λk hk=>H4 _ zp zp k (S.bd.2 k hk)).sl,rfl,λ_ _=>rfl⟩,(S.sh.1.fr fF λk hk=>H4 _ zp zp k (S.sh.2 k hk)).sl,λA hA b o e=>?_,λm hm b o hn e=>?_,?_⟩
    .exact(S.md m hm).1.fr fF λb f hn e=>H4 .data zp zp b ((S.md m hm).2 b f hn e)
    .subst e;have aq:=hr.out.size;have H9:o' b ≠ .free->w.heap.size<=b:=λh=>by
      rcases ZH b w.heap.size with h1|h1
      .exact absurd (S.B.l b zo) h
      .exact h1
     rcases hA with hA|hA|hA|hA
     .have h1:=S.ev;rw[<- show _=x'.eA from hA]at h1;obtain rfl:=h1.1.off;exact H9 (by rw[h1.2 b rfl];simp)
     .have h1:=S.ms;rw[<- show _=x'.mA from hA]at h1;obtain rfl:=h1.1.off;exact H9 (by rw[h1.2 b rfl];simp)
     .have h1:=S.bd;rw[<- show _=x'.bA from hA]at h1;obtain rfl:=h1.1.off;exact H9 (by rw[h1.2 b rfl];simp)
     .have h1:=S.sh;rw[<- show _=x'.hA from hA]at h1;obtain rfl:=h1.1.off;exact H9 (by rw[h1.2 b rfl];simp)
    .have aq:=hr.out.size;have h1:=(S.md m hm).2 b o hn e;rcases ZH b w.heap.size with h2|h2
     .have:=S.B.l b zo;rw[h1]at this;cases this
     .exact h2
    .obtain⟨h1,h2,h3⟩:=ay.out;have:=H7.out;exact⟨zo,zo,zo⟩
section
variable(a1 a2 a3 a4 a5 a6 a7 a8:Option Addr)(c1 c2 c3 c4 c5 c6 c7 c8:Nat)
def z1y:Pt:=⟨⟨a1,c1,[⟨0,32,true⟩]⟩,⟨a2,c2,[⟨1,1,20⟩]⟩,⟨none,0,[]⟩,⟨none,0,[]⟩,0,⟨none,0,[]⟩,⟨none,0,[]⟩,20,1099511627776,0,⟨a3,c3,[0,0,0,0,0]⟩⟩
def qws:Cf:=⟨⟨a4,c4,[z1y a1 a2 a3 c1 c2 c3]⟩,⟨none,0,[]⟩,⟨a5,c5,[⟨10000,⟨a6,c6,[⟨0,1000,5000⟩]⟩⟩]⟩,⟨⟨a7,c7,[⟨5,10⟩,⟨10,40⟩]⟩,⟨none,0,[]⟩,0,0,1,8,32768,100⟩,⟨⟨none,0,[]⟩,⟨none,0,[]⟩⟩⟩
def qxh(b1 b2 b3 b4:Option Addr)(d1 d2 d3 d4:Nat):Sc:=⟨⟨b1,d1,[⟨b2,d2,[⟨b3,d3,[⟨5,8,0,0,0,0⟩]⟩]⟩]⟩,⟨b4,d4,[⟨0,0,0,0⟩]⟩⟩
end
section
variable(a1 a2 a3 a4 a5 a6 a7 b1 b2 b3 b4:Option Addr)(c1 c2 c3 c4 c5 c6 c7 d1 d2 d3 d4:Nat)
theorem z0v:q2d (qws a1 a2 a3 a4 a5 a6 a7 c1 c2 c3 c4 c5 c6 c7) (qxh b1 b2 b3 b4 d1 d2 d3 d4)=true:=zk
theorem qzk:((qhr (qws a1 a2 a3 a4 a5 a6 a7 c1 c2 c3 c4 c5 c6 c7) (qxh b1 b2 b3 b4 d1 d2 d3 d4)).evs.map (λe=>e.call),(qhr (qws a1 a2 a3 a4 a5 a6 a7 c1 c2 c3 c4 c5 c6 c7) (qxh b1 b2 b3 b4 d1 d2 d3 d4)).bounds.map (λb=>b.at_))=([8,8,8,8,-1],[1000,6000]):=zk
end
end Go.Proofs.YtncfcbohiodnnaaGreat
