/- Parts of this seat's claims. -/
import Derived.Test.YtncfcbohiodnnaaGreatW19
set_option maxRecDepth 100000
set_option maxHeartbeats 6400000
namespace Go.Proofs.YtncfcbohiodnnaaGreat
open Go.RowKit
variable{w w' W wa wo W':World} {c n pt r B j b m mb q base cap id B0:Nat} {A:Option Addr} {a code what:Int} {cs:Array Value}
theorem qfe{z:Int} : cP 393 #[.slice A n c,ii z] w λe w'=>e = .returned (.bool (decide (0 < n/\(n:Int)<=z)))/\w=w':=by
 by_cases a1:0 < n <;> by_cases a2:(n:Int)<=z
 all_goals
  have b1:=a1;have b2:=a2;refine inC ?_;go_in;go_wp2;go_returns;exact⟨by simp[b1,b2],rfl⟩
section
variable{w:World} {o:Gh} {pt p:Nat} {cf:Pt} {x:Ox} {y:Ob} (H:ObR w o pt p cf x y)
include H
theorem qnv{k:Int} : cP 363 #[pp p,ii k] w λe w'=>e = .returned (ii (q3s y k).1)/\Mv (ObL pt) o w o w'/\ObR w' o pt p cf x (q3s y k).2:=by
 have hF:=q6d H (k:=k);by_cases h:q2r y.slates k=true
 .obtain⟨j,rfl,hj⟩:=q0o h;rw[if_pos h,Int.toNat_natCast]at hF
  obtain⟨hd,K,hl,hD,hn⟩:=H.l j hj;have HE:=zhd (show q3s y j=(0,{ y with slates:=y.slates.set j { atD Sa0 y.slates j with b:=[],sh:=false } }) by unfold q3s;rw[if_neg (by simp[h]),Int.toNat_natCast]);have h0:=zhd (λ(o':Gh) (w':World) (z:Sa) m hz=>H.setL (o':=o') (w':=w') (z:=z) hj m hz);generalize atD Sa0 y.slates j=s at *;have kc:=K.1.cell;have kf:=K.1.frozen;have lt:=K.1.lt;refine inC ?_;go_in;go_wp2_with (refine uW hF ?_;rintro w1 ⟨hb,hs,hc,hf,hl,hB⟩);go_returns;have m:Mv (λy=>y = .obj pt 3 j) o w o ((w1.setCell ⟨atN x.l.qs j,1,none⟩ (.slice none 0 0)).setCell ⟨atN x.l.qs j,2,none⟩ (.bool false)):=(Mv.set1 hb K.2 1 _).setC (λ_=>K.2) 2 _;have K2:=((K.go (L:=λ_=>False) (Mv.below hb) id).set 1 (.slice none 0 0)).set 2 (.bool false);exact⟨q0w (by rw[HE.out]),m.mono (by rintro _ rfl;exact .inr ⟨_,_,rfl⟩),by rw[HE.out];exact h0.out _ _ _ m ⟨⟨none,0,[]⟩,K2,rfl,Dat.nil,zp⟩⟩
 .rw[if_neg h]at hF
  have HE:=zhd (show q3s y k=(3,y) by unfold q3s;rw[if_pos (by simpa using h)]);refine inC ?_;go_in;go_wp2_with (refine uW hF ?_;rintro w1 ⟨hb,hs,hc,hf,hl,hB⟩);go_returns;exact⟨q0w (by rw[HE.out]),Mv.below hb,by rw[HE.out];exact H.blw hb⟩
theorem qnw{k:Int} {bA:Option Addr} {bn bc:Nat} {b:List UInt8} (hbs:SlB w bA bn bc b) (hbn:b.length<=1000):cP 365 #[pp p,ii k,.slice bA bn bc] w λe w'=>e = .returned (ii (q2a y k b).1)/\∃ o',Mv (ObL pt) o w o' w'/\ObR w' o' pt p cf x (q2a y k b).2:=by
 have hF:=q6d H (k:=k);obtain rfl:=hbs.2;by_cases h:q2r y.slates k=true
 .obtain⟨j,rfl,hj⟩:=q0o h;rw[if_pos h,Int.toNat_natCast]at hF
  obtain⟨hd,K,hl,hD,hn⟩:=H.l j hj;have hE:q2a y j b=if ¬ (0 < b.length/\b.length<=(atD Sa0 y.slates j).size) then (2,y) else (0,{ y with slates:=y.slates.set j { atD Sa0 y.slates j with b:=b,sh:=true } }):=by unfold q2a;rw[if_neg (by simp[h]),Int.toNat_natCast]
  have h0:=zhd (λ(o':Gh) (w':World) (z:Sa) m hz=>H.setL (o':=o') (w':=w') (z:=z) hj m hz);generalize atD Sa0 y.slates j=s at *;have kc:=K.1.cell;have kf:=K.1.frozen;have lt:=K.1.lt;have hT:=λw=>qfe (w:=w) (A:=bA) (n:=b.length) (c:=bc) (z:=s.size);by_cases q:0 < b.length/\(b.length:Int)<=s.size
  .have HE:=zhd (hE.trans (if_neg (by simpa using q)));rw[decide_eq_true q]at hT
   clear hE q;refine inC ?_;go_in;go_wp2_with (first | (refine uW hF ?_;rintro w1 ⟨hb,hs,hc,hf,hl,hB⟩) | (go_at_call 393;refine(hT _).mono ?_;rintro _ _ ⟨rfl,rfl⟩) | (go_at_call 98;refine(q2l (hbs.keep hB) zo).mono ?_;rintro _ w2 ⟨vA,vc,rfl,h4,h2,h1⟩;have K2:=(K.1.keep hB).keep h1;have kc2:=K2.cell;have kf2:=K2.frozen;have lt2:=K2.lt));go_returns;have m0:Mv (λ_=>False) o w (lay w1 o .data) w2:=(Mv.below (L:=λ_=>False) hB).trans (Mv.lay (S:=λ_=>False) .data (fO h1 _) (λ_ _ h=>h.elim));have m:Mv (λy=>y = .obj pt 3 j) o w (lay w1 o .data) ((w2.setCell ⟨atN x.l.qs j,1,none⟩ (.slice vA b.length vc)).setCell ⟨atN x.l.qs j,2,none⟩ (.bool true)):=((m0.mono λ_ h=>h.elim).setC (λ_=>K.2) 1 _).setC (λ_=>K.2) 2 _;have K3:=((K.go m0 id).set 1 (.slice vA b.length vc)).set 2 (.bool true);have h3:=h4.fr (((Fr.refl (λk=>k=atN x.l.qs j) w2).setCell (p:=⟨atN x.l.qs j,1,none⟩) (λ_=>rfl) (.slice vA b.length vc)).setCell (p:=⟨atN x.l.qs j,2,none⟩) (λ_=>rfl) (.bool true)) (λb0 f0 _ e e2=>by have:=h2 b0 f0 e;have:=(K.1.keep hB).lt;omega);exact⟨q0w (by rw[HE.out]),_,m.mono (by rintro _ rfl;exact .inr ⟨_,_,rfl⟩),by rw[HE.out];exact h0.out _ _ _ m ⟨⟨vA,vc,b⟩,K3,rfl,⟨h3,λb0 f0 _ e=>q07 (h2 b0 f0 e)⟩,hbn⟩⟩
  .have HE:=zhd (hE.trans (if_pos (by simpa using q)));rw[decide_eq_false q]at hT
   clear hE q;refine inC ?_;go_in;go_wp2_with (first | (refine uW hF ?_;rintro w1 ⟨hb,hs,hc,hf,hl,hB⟩) | (go_at_call 393;refine(hT _).mono ?_;rintro _ _ ⟨rfl,rfl⟩));go_returns;exact⟨q0w (by rw[HE.out]),o,Mv.below hB,by rw[HE.out];exact H.blw hB⟩
 .rw[if_neg h]at hF
  have HE:=zhd (show q2a y k b=(3,y) by unfold q2a;rw[if_pos (by simpa using h)]);refine inC ?_;go_in;go_wp2_with (refine uW hF ?_;rintro w1 ⟨hb,hs,hc,hf,hl,hB⟩);go_returns;exact⟨q0w (by rw[HE.out]),o,Mv.below hB,by rw[HE.out];exact H.blw hB⟩
theorem qnx{k:Int} : cP 364 #[pp p,ii k] w λe w'=>∃ (hA:Option Addr) (hc:Nat) (o':Gh),e = .returned (.tuple #[.slice hA (q35 y k).1.length hc,ii (q35 y k).2])/\Dat w' o' ⟨hA,hc,(q35 y k).1⟩/\(q35 y k).1.length<=1000/\Mv (λ_=>False) o w o' w':=by
 have hF:=q6d H (k:=k);by_cases h:q2r y.slates k=true
 .obtain⟨j,rfl,hj⟩:=q0o h;rw[if_pos h,Int.toNat_natCast]at hF
  obtain⟨⟨hA,hc',hl⟩,K,h0,hD,hn⟩:=H.l j hj;have hE:q35 y j=if (atD Sa0 y.slates j).sh=false then ([],1) else ((atD Sa0 y.slates j).b,0):=by unfold q35;rw[if_neg (by simp[h]),Int.toNat_natCast]
  generalize atD Sa0 y.slates j=s at *;obtain⟨s1,s2,s3⟩:=s;simp only at h0 hn hE;subst h0;obtain⟨kc,lt⟩:=K.1.cl;simp only[Hd.v]at kc;cases s3 with
  | false =>
   have HE:=zhd (hE.trans (if_pos rfl));refine inC ?_;go_in;go_wp2_with (first | (refine uW hF ?_;rintro w1 ⟨hb,hs,hc,hf,hl,hB⟩));go_returns;rw[HE.out];exact⟨none,0,o,rfl,Dat.nil,zp,Mv.below hB⟩
  | true =>
   have HE:=zhd (hE.trans (if_neg zp));clear hE;refine inC ?_;go_in;go_wp2_with (first | (refine uW hF ?_;rintro w1 ⟨hb,hs,hc,hf,hl,hB⟩) | (go_at_call 98;refine(q2l (hD.1.keep hB) (Nat.le_trans hn zd)).mono ?_;rintro _ w2 ⟨vA,vc,rfl,h2,h3,h1⟩));go_returns;rw[HE.out];exact⟨vA,vc,lay w1 o .data,rfl,⟨h2,λb0 f0 _ e=>q07 (h3 b0 f0 e)⟩,hn,(Mv.below (L:=λ_=>False) hB).trans (Mv.lay (S:=λ_=>False) .data (fO h1 _) (λ_ _ h=>h.elim))⟩
 .rw[if_neg h]at hF
  have HE:=zhd (show q35 y k=([],3) by unfold q35;rw[if_pos (by simpa using h)]);refine inC ?_;go_in;go_wp2_with (refine uW hF ?_;rintro w1 ⟨hb,hs,hc,hf,hl,hB⟩);go_returns;rw[HE.out];exact⟨none,0,o,rfl,Dat.nil,zp,Mv.below hB⟩
theorem qny{k s:Int} : cP 358 #[pp p,ii k,ii s] w λe w'=>e = .returned (ii (q0t y k s))/\bW w w':=by
 by_cases h0:0<=s
 .have hF:=q6d H (k:=s);have b0:decide (0<=s)=true:=decide_eq_true h0;by_cases h:q2r y.slates s=true
  .have hE:q0t y k s=(atD Sa0 y.slates s.toNat).size:=by unfold q0t;rw[if_pos h0,if_pos h]
   have HE:=zhd hE;obtain⟨j,rfl,hj⟩:=q0o h;rw[if_pos h,Int.toNat_natCast]at hF
   obtain⟨hd,K,hl2,hD,hn⟩:=H.l j hj;obtain⟨kc,lt⟩:=K.1.cl;clear hE h0;refine inC ?_;go_in;go_wp2_with (first | (refine uW hF ?_;rintro w1 ⟨hb,hs,hc,hf,hl,hB⟩));go_returns;exact⟨q0w HE.out.symm,hB⟩
  .rw[if_neg h]at hF
   have HE:=zhd (show q0t y k s=0 by unfold q0t;rw[if_pos h0,if_neg h]);clear h0;refine inC ?_;go_in;go_wp2_with (first | (refine uW hF ?_;rintro w1 ⟨hb,hs,hc,hf,hl,hB⟩));go_returns;exact⟨q0w HE.out.symm,hB⟩
 .have hF:=qaf H (k:=k);have b0:decide (0<=s)=false:=decide_eq_false h0;by_cases h:q2r y.pools k=true
  .have hE:q0t y k s=(atD Pq0 y.pools k.toNat).c.size:=by unfold q0t;rw[if_neg h0,if_pos h]
   have HE:=zhd hE;obtain⟨j,rfl,hj⟩:=q0o h;rw[if_pos h,Int.toNat_natCast]at hF
   obtain⟨A,cap,hs',K,_⟩:=H.p j hj;obtain⟨kc,lt⟩:=K.1.cl;clear hE h0;refine inC ?_;go_in;go_wp2_with (first | (refine uW hF ?_;rintro w1 ⟨hb,hs,hc,hf,hl,hB⟩));go_returns;exact⟨q0w HE.out.symm,hB⟩
  .rw[if_neg h]at hF
   have HE:=zhd (show q0t y k s=0 by unfold q0t;rw[if_neg h0,if_neg h]);clear h0;refine inC ?_;go_in;go_wp2_with (first | (refine uW hF ?_;rintro w1 ⟨hb,hs,hc,hf,hl,hB⟩));go_returns;exact⟨q0w HE.out.symm,hB⟩
end
section
variable{w:World} {o:Gh} {pt p:Nat} {cf:Pt} {x:Ox} {y:Ob} (H:ObR w o pt p cf x y)
include H
theorem qrt{k:Int} : cP 360 #[pp p,ii k] w λe w'=>∃ (hA:Option Addr) (hc:Nat),e = .returned (.tuple #[.slice hA (q3b y k).1.length hc,ii (q3b y k).2.1])/\Dat w' o ⟨hA,hc,(q3b y k).1⟩/\(q3b y k).1.length<=1000/\Mv (ObL pt) o w o w'/\ObR w' o pt p cf x (q3b y k).2.2:=by
 have hF:=qaf H (k:=k);by_cases h:q2r y.pools k=true
 .obtain⟨j,rfl,hj⟩:=q0o h;rw[if_pos h,Int.toNat_natCast]at hF
  obtain⟨A,cap,hh,K,ka,hm,hd,hn,hg,h6⟩:=H.p j hj;have hE:q3b y j=match (atD Pq0 y.pools j).l with
   | []=>([],1,y)
   | b :: l=>(b,0,{ y with pools:=y.pools.set j { atD Pq0 y.pools j with l:=l } }):=by unfold q3b;rw[if_neg (by simp[h]),Int.toNat_natCast];rfl
  have h4:=zhd (λ(o':Gh) (w':World) (z:Pq) m hz=>H.setP (o':=o') (w':=w') (z:=z) hj m hz);generalize atD Pq0 y.pools j=s at *;obtain⟨sc,sl⟩:=s;simp only at *;obtain⟨kc,lt⟩:=K.1.cl;cases sl with
  | nil =>
   have HE:=zhd hE;refine inC ?_;go_in;go_wp2_with (first | (refine uW hF ?_;rintro w1 ⟨hb,hs,hc,hf,hl,hB⟩));go_returns;rw[HE.out];exact⟨none,0,rfl,Dat.nil,zp,Mv.below hB,H.blw hB⟩
  | cons b r =>
   have HE:=zhd hE;cases hh with
   | nil=>cases hm
   | cons h0 t =>
    obtain⟨rfl,rfl⟩:=List.cons.inj hm;obtain⟨g,rfl⟩:=ka.1.head zp;have h7:g≠atN x.p.qs j:=λe=>ka.1.ne K.1 zd (by rw[e];rfl);have he:=hd h0 (List.mem_cons_self ..);have h8:=h6 h0.l (List.mem_cons_self ..);obtain⟨hA,h2,h3⟩:=h0;clear hE h;simp only[List.length_cons,List.length_map]at *;have ha:∀ w1,bW w w1->w1.cell? ⟨g,0,none⟩=some (.slice hA h3.length h2):=λw1 hb=>by
     obtain⟨b',o',e',hb',h9⟩:=(ka.1.keep hb).sl.at_ zp;cases e';simpa using h9 0 (.slice hA h3.length h2) rfl
    refine inC ?_;go_in;go_wp2_with (first | (refine uW hF ?_;rintro w1 ⟨hb,hs,hc,hf,hl,hB⟩;have hc2:=ha w1 hb;have lg:=(ka.1.keep hB).lt (k:=g) rfl) | (go_at_call 392;refine(qbv (v := .slice hA h3.length h2) (xs:=t.map Hd.v) (m:=t.length) (ka.1.keep hB) zp (qno t) zo).mono ?_;rintro _ w2 ⟨rfl,h1,f1⟩;have h5:=(K.1.keep hB).fr f1 (λe=>h7 e.symm);have kf1:=h5.frozen;have kc1:=h5.cell));go_returns;rw[HE.out];have m1:Mv (λy=>y = .obj pt 2 j) o w o w2:=(Mv.below (L:=λy=>y = .obj pt 2 j) hB).trans (Mv.of f1 λk hk=>by rw[hk];exact ka.2 g rfl);have m2:=m1.setC (λ_=>K.2) 2 (.slice (some ⟨g,0,none⟩) t.length cap);refine⟨hA,h2,rfl,he.go m2 zp,h8,m2.mono (by rintro _ rfl;exact .inr ⟨_,_,rfl⟩),h4.out _ _ _ m2 ⟨some ⟨g,0,none⟩,cap,t,⟨?_,K.2⟩,⟨?_,ka.2⟩,rfl,λz hz=>(hd z (List.mem_cons_of_mem _ hz)).go m2 zp,by simp;omega,hg,λz hz=>h6 z (List.mem_cons_of_mem _ hz)⟩⟩
    .have:=h5.set_ 2 (.slice (some ⟨g,0,none⟩) t.length cap);simpa using this
    .have:=h1.fr ((Fr.refl (λk=>k=atN x.p.qs j) w2).setCell (p:=⟨atN x.p.qs j,2,none⟩) (λ_=>rfl) (.slice (some ⟨g,0,none⟩) t.length cap)) (λk hk=>by cases hk;exact h7);simpa using this
 .rw[if_neg h]at hF
  have HE:=zhd (show q3b y k=([],3,y) by unfold q3b;rw[if_pos (by simpa using h)]);refine inC ?_;go_in;go_wp2_with (refine uW hF ?_;rintro w1 ⟨hb,hs,hc,hf,hl,hB⟩);go_returns;rw[HE.out];exact⟨none,0,rfl,Dat.nil,zp,Mv.below hB,H.blw hB⟩
theorem qru{k:Int} {bA:Option Addr} {bn bc:Nat} {b:List UInt8} (h5:SlB w bA bn bc b) (hbn:b.length<=1000):cP 362 #[pp p,ii k,.slice bA bn bc] w λe w'=>e = .returned (ii (q45 y k b).1)/\∃ o',Mv (ObL pt) o w o' w'/\ObR w' o' pt p cf x (q45 y k b).2:=by
 have hF:=qaf H (k:=k);obtain rfl:=h5.2;by_cases h:q2r y.pools k=true
 .obtain⟨j,rfl,hj⟩:=q0o h;rw[if_pos h,Int.toNat_natCast]at hF
  obtain⟨A,cap,hs',K,ka,hm,hd,hn,hp,he⟩:=H.p j hj;have hE:q45 y j b=if ¬ (0 < b.length/\b.length<=(atD Pq0 y.pools j).c.size) then (2,y) else if (atD Pq0 y.pools j).c.depth<=(atD Pq0 y.pools j).l.length then (1,y) else (0,{ y with pools:=y.pools.set j { atD Pq0 y.pools j with l:=(atD Pq0 y.pools j).l ++ [b] } }):=by unfold q45;rw[if_neg (by simp[h]),Int.toNat_natCast]
  have h7:=zhd (λ(o':Gh) (w':World) (z:Pq) m hz=>H.setP (o':=o') (w':=w') (z:=z) hj m hz);generalize atD Pq0 y.pools j=s at *;obtain⟨⟨sz,sd⟩,sl⟩:=s;simp only at *;obtain⟨kc,lt⟩:=K.1.cl;have hT:=λw=>qfe (w:=w) (A:=bA) (n:=b.length) (c:=bc) (z:=sz);by_cases q:0 < b.length/\(b.length:Int)<=sz
  .rw[if_neg (by simpa using q)]at hE
   rw[decide_eq_true q]at hT
   by_cases q2:sd<=sl.length
   .have HE:=zhd (hE.trans (if_pos q2));have b1:decide (sd<=(sl.length:Int))=true:=decide_eq_true q2;clear hE q q2 hm;refine inC ?_;go_in;go_wp2_with (first | (refine uW hF ?_;rintro w1 ⟨hb,hs,hc,hf,hl,hB⟩) | (go_at_call 393;refine(hT _).mono ?_;rintro _ _ ⟨rfl,rfl⟩));go_quiet (fail)
    have h0:=q19 hB nq;go_wp2_with fail;go_returns;exact⟨q0w (by rw[HE.out]),o,Mv.below h0,by rw[HE.out];exact H.blw h0⟩
   .have HE:=zhd (hE.trans (if_neg q2));have b1:decide (sd<=(sl.length:Int))=false:=decide_eq_false q2;have HM:=zhd hm;have HQ:Hid (sl.length + 1<=1000):=by show _<=_;omega
    clear hE q q2 hm;refine inC ?_;go_in;go_wp2_with (first | (refine uW hF ?_;rintro w1 ⟨hb,hs,hc,hf,hl,hB⟩) | (go_at_call 393;refine(hT _).mono ?_;rintro _ _ ⟨rfl,rfl⟩));go_quiet (fail)
    have h0:=q19 hB nq;replace K:=K.go (L:=λ_=>False) (Mv.below h0) id;replace ka:=ka.go (L:=λ_=>False) (Mv.below h0) id;replace hd:=λh hh=>(hd h hh).go (L:=λ_=>False) (Mv.below h0) id;replace h5:=h5.keep h0;have mq:Mv (λy=>y = .obj pt 2 j) o w o (w1.drewN nq):=Mv.below h0;generalize w1.drewN nq=w2 at *;clear kc lt hb hs hc hf hl hB hF hT;obtain⟨kc,lt⟩:=K.1.cl;have hr:¬ q02 A (atN x.p.qs j):=ka.1.ne K.1 zd;go_wp2_with fail;refine q88 (q02 A) [(6,0),(0,0),(0,0),(2,2)] ?_;simp only[q03,tkO,dpO]
    repeat(go_big_quiet_step (fail))
    refine qwW (λK' hK'=>?_);go_wp2_with fail;have h8:=(Below.refl w2.heap.size w2).drew;refine(q2l (h5.keep h8) zo).mono ?_;rintro _ w3 ⟨vA,vc,rfl,h6,h2,h1⟩;replace h1:bW w2 w3:=h8.trans h1;replace h2:∀ b0 f0,vA=some ⟨b0,f0,none⟩->w2.heap.size<=b0:=h2;refine zGW (fO h1 _) ?_;clear hK' K';intro K' hK';go_wp2_with fail;have h4:bW w2 (w3.alloc (.cells #[.slice vA b.length vc] 38)):=h1.alloc h1.size _;have kx:=Blk.new w3 38 #[.slice vA b.length vc];replace h6:=h6.keep (zA w3 (.cells #[.slice vA b.length vc] 38));refine zG (fO h4 _) ?_;clear hK' K';have hu:=ka.1.keep h4;refine qwW (λK' hK'=>?_);refine q8a qmx _ _ _ zr zr hu w3.heap.size #[.slice vA b.length vc] rfl (by simp[Value.oneCell']) kx zr zo ?_;intro g cap' w9 hown9 hf9 hat9;have f9:=(fO h4 (q02 A)).trans hf9;have ht:SlB w9 vA b.length vc b:=h6.fr hf9 (λb0 o0 _ e hk=>by have:=ka.1.lt hk;have:=h2 b0 o0 e;omega);have h3:=K.1.fr f9 hr;have kq9c:=h3.cell;have kq9f:=h3.frozen;have kq9l:=h3.lt;refine hK' _ _ rfl (q01 f9) ?_;clear hK' K';refine zN ?_;refine qwB (λK' hK'=>?_);go_wp2_with fail;refine zE ?_;clear hK' K';go_wp2_with fail;go_returns;obtain⟨o',m',h9,hg⟩:=qif (h:=⟨vA,vc,b⟩) ka hd zp hown9 ht (λb0 f0 hl e=>⟨h2 b0 f0 e,λq=>by
     have l0:=h6.lt_ hl e;rcases hat9 with hk | hk
     .have:=ka.1.lt hk;have:=h2 b0 f0 e;omega
     .omega⟩) f9 (hat9.imp id (λe=>by have:=h4.size;omega))
    have ha:q1t w9 o' (.obj pt 2 j) (atN x.p.qs j) 413 #[ii sz,ii sd,.slice A sl.length cap]:=⟨h3,(m'.a _ K.1.lt).trans K.2⟩
    have m9:Mv (λy=>y = .obj pt 2 j) o' w9 o' (w9.setCell ⟨atN x.p.qs j,2,none⟩ (.slice (some ⟨g,0,none⟩) (sl.length + 1) cap')):=(Mv.refl _ o' w9).setC (λ_=>ha.2) 2 _;have hq:∀ k,q02 (some ⟨g,0,none⟩) k->k≠atN x.p.qs j:=λk hk e=>hown9.ne h3 zd (by rw[<- e];exact hk);have hl:(sl ++ [b]).length=sl.length + 1:=zp;have mm:=mq.trans (m'.trans m9);refine⟨q0w (by rw[HE.out]),o',mm.mono (by rintro _ rfl;exact .inr ⟨_,_,rfl⟩),by
     rw[HE.out];refine h7.out _ _ _ mm ⟨_,cap',_,by rw[hl];exact ha.set 2 _,by rw[hl];exact⟨h9.1.fr ((Fr.refl (λk=>k=atN x.p.qs j) w9).setCell (p:=⟨atN x.p.qs j,2,none⟩) (λ_=>rfl) _) hq,h9.2⟩,by simp[HM.out],λx hx=>(hg x hx).go m9 zp,by rw[hl];exact HQ.out,hp,λz hz=>?_⟩;rcases List.mem_append.1 hz with hz | hz
     .exact he z hz
     .rw[List.mem_singleton.1 hz];exact hbn⟩
  .have HE:=zhd (hE.trans (if_pos (by simpa using q)));rw[decide_eq_false q]at hT
   clear hE q hm;refine inC ?_;go_in;go_wp2_with (first | (refine uW hF ?_;rintro w1 ⟨hb,hs,hc,hf,hl,hB⟩) | (go_at_call 393;refine(hT _).mono ?_;rintro _ _ ⟨rfl,rfl⟩));go_returns;exact⟨q0w (by rw[HE.out]),o,Mv.below hB,by rw[HE.out];exact H.blw hB⟩
 .rw[if_neg h]at hF
  have HE:=zhd (show q45 y k b=(3,y) by unfold q45;rw[if_pos (by simpa using h)]);refine inC ?_;go_in;go_wp2_with (refine uW hF ?_;rintro w1 ⟨hb,hs,hc,hf,hl,hB⟩);go_returns;exact⟨q0w (by rw[HE.out]),o,Mv.below hB,by rw[HE.out];exact H.blw hB⟩
end
structure SoR{α : Type} (d : α) (cell : α->Array Value) (wo w:World) (o:Gh) (pt i0:Nat) (t tp:TypeId) (q:List α) (k:Nat) (A:Option Addr) (c:Nat) (qs:List Nat) (o':Gh):Prop where
 M:Mv (λ_=>False) o wo o' w
 row:qbj w o' (.obs pt) tp ⟨A,c,qs⟩ k
 el:∀ i,i < k->q1t w o' (.obj pt i0 i) (atN qs i) t (cell (atD d q i))
 lo:∀ j,q02 A j->wo.heap.size<=j
theorem SoR.nil{α : Type} (d : α) (cell : α->Array Value) {wo w:World} (o:Gh) (pt i0:Nat) (t tp:TypeId) (q:List α) (hb:bW wo w):SoR d cell wo w o pt i0 t tp q 0 none 0 [] o :=
 ⟨Mv.below hb,⟨⟨Own.nil _ _ _,λk hk=>by cases hk⟩,rfl⟩,λi hi=>absurd hi (Nat.not_lt_zero _),λj hj=>by cases hj⟩
theorem SoR.go{α : Type} {d : α} {cell : α->Array Value} {o o' o'':Gh} {i0:Nat} {t tp:TypeId} {q:List α} {k:Nat} {qs:List Nat} (R:SoR d cell wo w o pt i0 t tp q k A c qs o') (m:Mv (λ_=>False) o' w o'' w'):SoR d cell wo w' o pt i0 t tp q k A c qs o'' :=
 ⟨R.M.trans m,R.row.go m id,λi hi=>(R.el i hi).go m id,R.lo⟩
theorem SoR.push{α : Type} {d : α} {cell : α->Array Value} {w9:World} {o o':Gh} {i0:Nat} {t tp:TypeId} {q:List α} {k:Nat} {g g2:Nat} {qs:List Nat} (R:SoR d cell wo w o pt i0 t tp q k A c qs o')
  (kg:Blk w9 g t (cell (atD d q k))) (hg:w.heap.size<=g) (own:Own w9 tp 1 (some ⟨g2,0,none⟩) (k + 1) cap (qeq qs ++ [pp g])) (f:Fr (q02 A) w w9) (hat:q02 A g2\/w.heap.size<=g2) (hgg:g2≠g) :
  ∃ o2,SoR d cell wo w9 o pt i0 t tp q (k + 1) (some ⟨g2,0,none⟩) cap (qs ++ [g]) o2:=by
 have hs:wo.heap.size<=w.heap.size:=R.M.f.size;have m:Mv (λy=>y = .obs pt) o' w (λj=>if j=g then .obj pt i0 k else if j=g2 then .obs pt else lay w o' .data j) w9:=⟨f.mono λj _ hj=>R.row.1.2 j hj,λj hj=>by
  show(if j=g then _ else _)=_;rw[if_neg zo];by_cases q:j=g2
  .rw[if_pos q,q];exact(R.row.1.2 g2 (hat.resolve_right zo)).symm
  .rw[if_neg q,q0l hj]⟩
 have hM:Mv (λ_=>False) o wo (λj=>if j=g then Lb.obj pt i0 k else if j=g2 then .obs pt else lay w o' .data j) w9 :=
  ⟨R.M.f.trans' f λj hj h=>by have:=R.lo j h;omega,λj hj=>(m.a j zo).trans (R.M.a j hj)⟩
 refine⟨_,hM,⟨⟨by unfold qeq at own ⊢;rw[List.map_append];exact own,λj hj=>?_⟩,by rw[List.length_append,R.row.2];rfl⟩,λi hi=>?_,λj hj=>?_⟩
 .cases hj;show(if g2=g then _ else _)=_;rw[if_neg hgg,if_pos rfl]
 .show q1t w9 _ _ (atN (qs ++ [g]) i) t _;have hq:qs.length=k:=R.row.2;rw[q28,hq];by_cases q:i < k
  .rw[if_pos q];exact(R.el i q).go m zp
  .obtain rfl:i=k:=zo;rw[if_neg q,if_pos rfl];exact⟨kg,if_pos rfl⟩
 .cases hj;rcases hat with h | h
  .exact R.lo g2 h
  .omega
theorem SoR.setR{α : Type} {d : α} {cell : α->Array Value} {o o':Gh} {i0:Nat} {t tp tr:TypeId} {q:List α} {k:Nat} {g i:Nat} {v:Value} {qs:List Nat} (R:SoR d cell wo w o pt i0 t tp q k A c qs o') (hg:wo.heap.size<=g) (kg:Blk w g tr cs) (h1:tp≠tr) (h2:t≠tr):SoR d cell wo (w.setCell ⟨g,i,none⟩ v) o pt i0 t tp q k A c qs o':=by
 have f:Fr (λj=>j=g) w (w.setCell ⟨g,i,none⟩ v):=(Fr.refl (λj=>j=g) w).setCell (p:=⟨g,i,none⟩) (λ_=>rfl) _;exact⟨⟨R.M.f.setCell (p:=⟨g,i,none⟩) (λh=>absurd h (by simp only;omega)) v,R.M.a⟩,⟨⟨R.row.1.1.fr f (λj hj e=>R.row.1.1.ne kg h1 (by rw[<- e];exact hj)),R.row.1.2⟩,R.row.2⟩,λj hj=>⟨(R.el j hj).1.fr f (λe=>(R.el j hj).1.ne kg h2 e),(R.el j hj).2⟩,R.lo⟩
theorem qvt{α : Type} {l:List α} {k:Nat} (h:l.length=n):l.take k=l.take (min n k):=by
 rw[List.take_eq_take_min (i:=k),h,Nat.min_comm]
structure Si{α : Type} (ct rt et tp sz mo i0:Nat) (mi:Int) (st:Bool) (cl ec : α->Array Value) (rd : α->List Value) (d : α):Type where
abbrev Si.ct {α : Type} {ct rt et tp sz mo i0:Nat} {mi:Int} {st:Bool} {cl ec : α->Array Value} {rd : α->List Value} {d : α} (_:Si ct rt et tp sz mo i0 mi st cl ec rd d):TypeId:=ct
abbrev Si.rt {α : Type} {ct rt et tp sz mo i0:Nat} {mi:Int} {st:Bool} {cl ec : α->Array Value} {rd : α->List Value} {d : α} (_:Si ct rt et tp sz mo i0 mi st cl ec rd d):TypeId:=rt
abbrev Si.et {α : Type} {ct rt et tp sz mo i0:Nat} {mi:Int} {st:Bool} {cl ec : α->Array Value} {rd : α->List Value} {d : α} (_:Si ct rt et tp sz mo i0 mi st cl ec rd d):TypeId:=et
abbrev Si.tp {α : Type} {ct rt et tp sz mo i0:Nat} {mi:Int} {st:Bool} {cl ec : α->Array Value} {rd : α->List Value} {d : α} (_:Si ct rt et tp sz mo i0 mi st cl ec rd d):TypeId:=tp
abbrev Si.sz {α : Type} {ct rt et tp sz mo i0:Nat} {mi:Int} {st:Bool} {cl ec : α->Array Value} {rd : α->List Value} {d : α} (_:Si ct rt et tp sz mo i0 mi st cl ec rd d):Nat:=sz
abbrev Si.mo {α : Type} {ct rt et tp sz mo i0:Nat} {mi:Int} {st:Bool} {cl ec : α->Array Value} {rd : α->List Value} {d : α} (_:Si ct rt et tp sz mo i0 mi st cl ec rd d):Nat:=mo
abbrev Si.i0 {α : Type} {ct rt et tp sz mo i0:Nat} {mi:Int} {st:Bool} {cl ec : α->Array Value} {rd : α->List Value} {d : α} (_:Si ct rt et tp sz mo i0 mi st cl ec rd d):Nat:=i0
abbrev Si.mi {α : Type} {ct rt et tp sz mo i0:Nat} {mi:Int} {st:Bool} {cl ec : α->Array Value} {rd : α->List Value} {d : α} (_:Si ct rt et tp sz mo i0 mi st cl ec rd d):Int:=mi
abbrev Si.st {α : Type} {ct rt et tp sz mo i0:Nat} {mi:Int} {st:Bool} {cl ec : α->Array Value} {rd : α->List Value} {d : α} (_:Si ct rt et tp sz mo i0 mi st cl ec rd d):Bool:=st
abbrev Si.cl {α : Type} {ct rt et tp sz mo i0:Nat} {mi:Int} {st:Bool} {cl ec : α->Array Value} {rd : α->List Value} {d : α} (_:Si ct rt et tp sz mo i0 mi st cl ec rd d) : α->Array Value:=cl
abbrev Si.ec {α : Type} {ct rt et tp sz mo i0:Nat} {mi:Int} {st:Bool} {cl ec : α->Array Value} {rd : α->List Value} {d : α} (_:Si ct rt et tp sz mo i0 mi st cl ec rd d) : α->Array Value:=ec
abbrev Si.rd {α : Type} {ct rt et tp sz mo i0:Nat} {mi:Int} {st:Bool} {cl ec : α->Array Value} {rd : α->List Value} {d : α} (_:Si ct rt et tp sz mo i0 mi st cl ec rd d) : α->List Value:=rd
abbrev Si.d {α : Type} {ct rt et tp sz mo i0:Nat} {mi:Int} {st:Bool} {cl ec : α->Array Value} {rd : α->List Value} {d : α} (_:Si ct rt et tp sz mo i0 mi st cl ec rd d) : α:=d
def qkc{α : Type} (C:FuncId) (et:TypeId) (v : α->Value) (ec : α->Array Value):Prop :=
 ∀ {w:World} {x : α},cP C #[v x] w λe w'=>∃ g,e = .returned (pp g)/\Blk w' g et (ec x)/\w.heap.size<=g/\bW w w'
def qkd{α : Type} (F C:FuncId) (et tp sz mo i0:Nat) (mi:Int) (ec : α->Array Value) (rd : α->List Value) (d : α):Prop :=
 ∀ {w:World} {o:Gh} {pt:Nat} {A:Option Addr} {n c:Nat} {l:List α},SlG w A n c sz rd l->cP F #[.slice A n c,ii mi,.func (.func C) #[] #[]] w λe w'=>∃ (B:Option Addr) (cap:Nat) (qs:List Nat) (o':Gh),e = .returned (.agg #[.slice B (l.take mo).length cap])/\SoR d ec w w' o pt i0 et tp (l.take mo) (l.take mo).length B cap qs o'
theorem qrv{α : Type} {F C N ct rt et tp ps ls sz mo i0:Nat} {fn:Func} {mi:Int} {st:Bool} {cl ec : α->Array Value} {rd : α->List Value} {d : α} {v : α->Value} (i:Si ct rt et tp sz mo i0 mi st cl ec rd d) (hE:ElemOf ps tp 1 8) (hu:Tryz.prog.underlying ls=some (.slice (Tryz.prog.elem ls))) (hz:∀ w,(sizeOf (Tryz.prog.elem ls)).run Tryz.prog w = .ok sz w) (hm:qkc C et v ec) (hF:Tryz.prog.funcs[F]?=some fn) (hN:fn.ntmps=N) (hd:tp≠rt/\tp≠ct/\et≠rt:=by decide)
    (s:Si ct rt et tp sz mo i0 mi st cl ec rd d->Hid (ElemOf ps tp 1 8)->Hid (∀ w (A:Option Addr) (n c m:Nat),m<=c->(Instr.sliceAt ls (.slice A n c) none (some (ii m)) none).run Tryz.prog w = .ok (.slice (slA A 0 c sz) m c) w)->Hid (qkc C et v ec)->Tryz.prog.funcs[F]?=some fn->fn.ntmps=N->Hid (tp≠rt/\tp≠ct/\et≠rt)->qkd F C et tp sz mo i0 mi ec rd d:=by
      intro i hE hU hM hF hN hd w o pt A n c l hl;(try dsimp only);have hc:=hl.1.2.1;have hlen:=hl.len;have ht:=hl.2.1;obtain⟨m,hm⟩:∃ m,m=min n i.mo:=⟨_,rfl⟩
      have h7:=qvt (k:=i.mo) hl.2.1;rw[<- hm]at h7
      simp only[Si.mo]at hm h7;have h9:SlG w (slA A 0 c i.sz) m c i.sz i.rd (l.take m):=by have h:=hl.cut (Nat.zero_le m) (by omega:m<=n);simpa using h
      have hsl:=λw=>hU.out w A n c m (by omega);have he:min (n:Int) i.mi=m:=by simp only[Si.mi];omega
      simp only[Si.mi]at he;rw[h7];have hq:(l.take m).length=m:=by rw[List.length_take];omega
      rw[hq];have hv:m<=i.mo:=by simp only[Si.mo];omega
      simp only[Si.mo]at hv;generalize l.take m=q at *;generalize slA A 0 c i.sz=A0 at *;clear hm h7 hl ht hU;have h0:=(Blk.new w i.rt #[.slice none 0 0]).alloc (.cells #[.slice none 0 0] i.rt);have h1:=Blk.new (w.alloc (.cells #[.slice none 0 0] i.rt)) i.rt #[.slice none 0 0];rw[World.size_alloc]at h1
      have b0:bW w ((w.alloc (.cells #[.slice none 0 0] i.rt)).alloc (.cells #[.slice none 0 0] i.rt)):=by go_grown
      obtain⟨wo,rfl⟩:∃ wo:World,wo=w:=⟨_,rfl⟩
      go_enter hF,hN;clear hF hN;go_upto_region 2 with fail;generalize (wo.alloc (.cells #[.slice none 0 0] i.rt)).alloc (.cells #[.slice none 0 0] i.rt)=w1 at *;obtain⟨r1,hf⟩:∃ r1,r1=wo.heap.size:=⟨_,rfl⟩
      obtain⟨r2,hh⟩:∃ r2,r2=wo.heap.size + 1:=⟨_,rfl⟩
      rw[<- hf]at h0
      rw[<- hh]at h1
      rw[<- hh,<- hf];have HR:Hid (r1≠r2/\wo.heap.size<=r1/\wo.heap.size<=r2):=by show _/\_;omega
      clear hf hh;go_wp2_with fail;go_loopw [17] (λi' wr=>∃ (k:Nat) (A:Option Addr) (c:Nat) (qs:List Nat) (o':Gh),i' = .int .i64 k/\k<=m/\Blk wr r1 i.rt #[.slice none 0 0]/\Blk wr r2 i.rt #[.slice A k c]/\SoR i.d i.ec wo wr o pt i.i0 i.et i.tp q k A c qs o') (λi' _=>m - (intOf i').toNat)
      case atStart=>exact⟨0,none,0,[],o,rfl,Nat.zero_le _,h0,h1,SoR.nil _ _ _ _ _ _ _ _ b0⟩
      case round =>
        clear b0 h0 h1;obtain⟨k,A,c,qs,o',rfl,hkn,h0,h1,R⟩:=hrel;by_cases hk:k < m
        · obtain⟨sb,so,hA,hy,h8⟩:=(h9.keep (R.M.f.below (λ_ _=>id) nL)).at_ i.d hk
          simp only[Si.sz,Si.rd,Nat.mul_one]at h8;have s0:=h8 0 _ rfl;(try have s1:=h8 1 _ rfl);rw[Nat.add_zero]at s0
          have hw1:wrap64 ((k:Int) + 1)=((k + 1:Nat):Int):=by unfold wrap64;omega
          have h4:=zhd (λ(w:World) (o':Gh) (R:SoR i.d i.ec wo w o pt i.i0 i.et i.tp q k A c qs o') (w9:World) (g g2 cap:Nat) kg hg own f hat hb=>R.push (w9:=w9) (g:=g) (g2:=g2) (cap:=cap) kg hg own f hat hb);clear h8;generalize atD i.d q k=x at *;rw[hA];go_upto_region 5 with fail
          first
            | (have _st:i.st=true:=rfl
               have b9:bW wr (wr.alloc (.cells (i.cl x) i.ct)):=by go_grown
               have h5:=Blk.new wr i.ct (i.cl x);generalize wr.alloc (.cells (i.cl x) i.ct)=w2 at *;obtain⟨gc,ha⟩:∃ gc,gc=wr.heap.size:=⟨_,rfl⟩
               rw[<- ha]at h5
               rw[<- ha];clear ha;simp only[Si.cl]at h5;obtain⟨kcc,lcc⟩:=h5.cl;have R2:=R.go (Mv.below b9);replace h0:=h0.keep b9;replace h1:=h1.keep b9;have hnc:¬ q02 A gc:=R2.row.1.1.ne h5 hd.out.2.1)
            | (have R2:=R
               obtain⟨w2,rfl⟩:∃ w2:World,w2=wr:=⟨_,rfl⟩)
          obtain⟨krc,lrc⟩:=h1.cl;clear hA hy R;have hx:¬ q02 A r2:=R2.row.1.1.ne h1 hd.out.1;refine q88 (q02 A) [(4,0),(0,0),(0,0),(1,2)] ?_;simp only[q03,tkO,dpO]
          repeat(go_big_quiet_step (fail))
          refine qwW (λK' hK'=>?_);go_wp2_with fail;have hr:=(Below.refl w2.heap.size w2).drew;refine hM.out.mono ?_;rintro _ w3 ⟨g,rfl,kg,hg,h2⟩;replace h2:bW w2 w3:=hr.trans h2;replace hg:w2.heap.size<=g:=hg;refine zGW (fO h2 _) ?_;clear hK' K';intro K' hK';go_wp2_with fail;have h3:bW w2 (w3.alloc (.cells #[pp g] i.tp)):=h2.alloc h2.size _;have kx:=Blk.new w3 i.tp #[pp g];have hj:=kg.alloc (.cells #[pp g] i.tp);dsimp only [Si.tp]at h3 kx hj;refine zG (fO h3 _) ?_;clear hK' K';have hp:=R2.row.1.1.keep h3;refine qwW (λK' hK'=>?_);refine q8a hE.out _ _ _ (by rfl) (by rfl) hp w3.heap.size #[pp g] rfl (by simp[Value.oneCell']) kx (by rfl) (by omega) ?_;intro g2 cap w9 hown9 hf9 hat9;have f9:=(fO h3 (q02 A)).trans hf9;have H0:=hj.fr hf9 (λh=>absurd (R2.row.1.1.lt h) (by omega));have hs:q02 A g2\/w2.heap.size<=g2:=hat9.imp id (λe=>by have:=h3.size;omega);have hb:g2≠g:=λe=>by
            have:=hj.lt;rcases hat9 with h | h
            · have:=R2.row.1.1.lt h;omega
            · omega
          have h6:=h1.fr f9 hx;have hn:=h0.fr f9 (R2.row.1.1.ne h0 hd.out.1);have kr9c:=h6.cell;have kr9f:=h6.frozen;have kr9l:=h6.lt;refine hK' _ _ rfl (q01 f9) ?_;clear hK' K';refine zN ?_;refine qwB (λK' hK'=>?_);go_wp2_with fail;refine zE ?_;clear hK' K';go_wp2_with fail;obtain⟨o2,R9⟩:=h4.out _ _ R2 w9 g g2 cap H0 hg hown9 f9 hs hb;have mS:Fr (λj=>j=r2) w9 (w9.setCell ⟨r2,0,none⟩ (.slice (some ⟨g2,0,none⟩) (k + 1) cap)):=(Fr.refl (λj=>j=r2) w9).setCell (p:=⟨r2,0,none⟩) (λ_=>rfl) _;exact⟨⟨k + 1,_,cap,_,o2,by go_num,hk,hn.fr mS HR.out.1,h6.set_ 0 _,R9.setR HR.out.2.2 h6 hd.out.1 hd.out.2.2⟩,by simp[intOf];omega⟩
        · obtain rfl:k=m:=by omega
          have y1:=h0.cell;have y2:=h1.cell;have z1:=h0.frozen;have l1:=h0.lt;have hne:=HR.out.1;go_wp2_with fail;have H1:=h0.set_ 0 (.slice A k c);have y3:=H1.cell 0;exact bodyPost_ret (by simp[results,go_sem,y3,Tryz.results231,Tryz.results233,Tryz.results235,Tryz.results237]) rfl ⟨A,c,qs,o',rfl,R.setR HR.out.2.1 h0 hd.out.1 hd.out.2.2⟩):qkd F C et tp sz mo i0 mi ec rd d :=
  s i (zhd hE) (zhd λw A n c m h=>q4p hu hz w A n c m h) (zhd hm) hF hN (zhd hd)
theorem qys:qkc 232 405 (λ(x:Sm) => .agg (Sm.lw x)) (λx=>#[ii x.first,ii x.most,ii x.first]):=by
 intro w x;refine inC ?_;go_in;go_wp2;go_returns;exact⟨_,rfl,by have:=Blk.new (w.alloc (.cells (Sm.lw x) 203)) 405 #[ii x.first,ii x.most,ii x.first];rwa [World.size_alloc]at this,zo,zv⟩
theorem qyt:qkd 231 232 405 406 2 4 0 4 (λx=>#[ii x.first,ii x.most,ii x.first]) z06.f Sm0 :=
 qrv (⟨⟩:Si 203 326 405 406 2 4 0 4 true (λ(x:Sm)=>(Sm.lw x)) (λx=>#[ii x.first,ii x.most,ii x.first]) z06.f Sm0) (ps:=324) (ls:=48) (q1l (z := .pointer none) zk zk rfl zd zd) zk (λ_=>by kernel_rfl) qys Tryz.func231 Tryz.ntmps231
theorem qyu:qkc 234 4 (λ(x:Bool) => .bool x) (λx=>#[.bool x]):=by
 intro w x;refine inC ?_;go_in;go_wp2;go_returns;exact⟨_,rfl,(Blk.new _ _ _),zo,zv⟩
theorem qyv:qkd 233 234 4 409 1 8 1 8 (λx=>#[.bool x]) (λ(x:Bool)=>[Value.bool x]) false :=
 qrv (⟨⟩:Si 4 329 4 409 1 8 1 8 false (λ(x:Bool)=>#[]) (λx=>#[.bool x]) (λ(x:Bool)=>[Value.bool x]) false) (ps:=327) (ls:=43) (q1l (z := .pointer none) zk zk rfl zd zd) zk (λ_=>by kernel_rfl) qyu Tryz.func233 Tryz.ntmps233
theorem qyw:qkc 236 413 (λ(x:Pl) => .agg (Pl.lw x)) (λx=>#[ii x.size,ii x.depth,.slice none 0 0]):=by
 intro w x;refine inC ?_;go_in;go_wp2;go_returns;exact⟨_,rfl,by have:=Blk.new (w.alloc (.cells (Pl.lw x) 207)) 413 #[ii x.size,ii x.depth,.slice none 0 0];rwa [World.size_alloc]at this,zo,zv⟩
theorem qyx:qkd 235 236 413 414 2 4 2 4 (λx=>#[ii x.size,ii x.depth,.slice none 0 0]) z07.f Pl0 :=
 qrv (⟨⟩:Si 207 332 413 414 2 4 2 4 true (λ(x:Pl)=>(Pl.lw x)) (λx=>#[ii x.size,ii x.depth,.slice none 0 0]) z07.f Pl0) (ps:=330) (ls:=49) (q1l (z := .pointer none) zk zk rfl zd zd) zk (λ_=>by kernel_rfl) qyw Tryz.func235 Tryz.ntmps235
theorem qyy:qkc 238 418 (λ(x:Int)=>ii x) (λx=>#[ii x,.slice none 0 0,.bool false]):=by
 intro w x;refine inC ?_;go_in;go_wp2;go_returns;exact⟨_,rfl,(Blk.new _ _ _),zo,zv⟩
theorem qyz:qkd 237 238 418 419 1 4 3 4 (λx=>#[ii x,.slice none 0 0,.bool false]) (λ(x:Int)=>[ii x]) (0:Int) :=
 qrv (⟨⟩:Si 3 335 418 419 1 4 3 4 false (λ(x:Int)=>#[]) (λx=>#[ii x,.slice none 0 0,.bool false]) (λ(x:Int)=>[ii x]) (0:Int)) (ps:=333) (ls:=29) (q1l (z := .pointer none) zk zk rfl zd zd) zk (λ_=>by kernel_rfl) qyy Tryz.func237 Tryz.ntmps237
end Go.Proofs.YtncfcbohiodnnaaGreat
