/- Parts of this seat's claims. -/
import Derived.Test.YtncfcbohiodnnaaGreatW33
set_option maxRecDepth 100000
set_option maxHeartbeats 6400000
namespace Go.Proofs.YtncfcbohiodnnaaGreat
open Go.RowKit
variable{w w' W wa wo W':World} {c n pt r B j b m mb q base cap id B0:Nat} {A:Option Addr} {a code what:Int} {cs:Array Value}
section
variable{W w w5:World} {o:Gh} {cf:Cf} {x:Yx} {s:Sy}
theorem SyR.push_ev(S:SyR W w o cf x s) {ys:List Ev} {A':Option Addr} {c':Nat} (own:Own w5 67 6 A' (s.evs.length + ys.length) c' (s.evs.flatMap Ev.f ++ ys.flatMap Ev.f)) (hf:Fr (q02 x.eA) w w5) (hat:∀ k,q02 A' k->q02 x.eA k\/w.heap.size<=k) :
  ∃ o',Mv (λl=>l = .sys 6\/l = .sys 0) o w o' (w5.setCell ⟨x.y,0,none⟩ (.slice A' (s.evs.length + ys.length) c'))/\SyR W (w5.setCell ⟨x.y,0,none⟩ (.slice A' (s.evs.length + ys.length) c')) o' cf { x with eA:=A',ec:=c' } { s with evs:=s.evs ++ ys }:=by
 have m1:Mv (λl=>l = .sys 6) o w (lay w o (.sys 6)) w5:=Mv.lay (S:=q02 x.eA) _ hf (λk _ hk=>S.ev.2 k hk);have k9:=S.k.go m1 zp;have m:Mv (λl=>l = .sys 6\/l = .sys 0) o w (lay w o (.sys 6)) (w5.setCell ⟨x.y,0,none⟩ (.slice A' (s.evs.length + ys.length) c')):=(m1.mono λ_ h => .inl h).setC (λ_ => .inr S.k.2) 0 _;have hL:(s.evs ++ ys).length=s.evs.length + ys.length:=List.length_append;have hk:=k9.set 0 (.slice A' (s.evs.length + ys.length) c');rw[<- hL]at hk
 refine⟨_,m,⟨S.B.go m zp,S.hc,(by rw[<- hL];exact hk),S.G.go m zp S.B.l zp zp,S.L.go m zp zp,S.R.go m (by rintro _ (rfl | rfl) <;> rfl) zp,S.cn,S.ca.go m zp,S.pa.go m zp,S.sn,S.se.go m zp,?_,S.ms.go m zp,S.mg,λy hy=>(S.md y hy).go m zp,S.bd.go m zp,S.sh.go m zp,S.mo.go m zp,S.cr.go m zp,S.cv⟩⟩;refine⟨?_,λk hk=>?_⟩
 .rw[hL,List.flatMap_append];exact own.fr ((Fr.refl (λk=>k=x.y) w5).setCell (p:=⟨x.y,0,none⟩) (λ_=>rfl) _) (λk hk e=>own.ne k9.1 zd (by rw[<- e];exact hk))
 .by_cases h:k < w.heap.size
  .exact(q0l h).trans (S.ev.2 k ((hat k hk).resolve_right zo))
  .exact q07 zo
theorem SyR.push_bd(S:SyR W w o cf x s) {ys:List Bd} {A':Option Addr} {c':Nat} (own:Own w5 86 3 A' (s.bounds.length + ys.length) c' (s.bounds.flatMap Bd.f ++ ys.flatMap Bd.f)) (hf:Fr (q02 x.bA) w w5) (hat:∀ k,q02 A' k->q02 x.bA k\/w.heap.size<=k) :
  ∃ o',Mv (λl=>l = .sys 8\/l = .sys 0) o w o' (w5.setCell ⟨x.y,2,none⟩ (.slice A' (s.bounds.length + ys.length) c'))/\SyR W (w5.setCell ⟨x.y,2,none⟩ (.slice A' (s.bounds.length + ys.length) c')) o' cf { x with bA:=A',bc:=c' } { s with bounds:=s.bounds ++ ys }:=by
 have m1:Mv (λl=>l = .sys 8) o w (lay w o (.sys 8)) w5:=Mv.lay (S:=q02 x.bA) _ hf (λk _ hk=>S.bd.2 k hk);have k9:=S.k.go m1 zp;have m:Mv (λl=>l = .sys 8\/l = .sys 0) o w (lay w o (.sys 8)) (w5.setCell ⟨x.y,2,none⟩ (.slice A' (s.bounds.length + ys.length) c')):=(m1.mono λ_ h => .inl h).setC (λ_ => .inr S.k.2) 2 _;have hL:(s.bounds ++ ys).length=s.bounds.length + ys.length:=List.length_append;have hk:=k9.set 2 (.slice A' (s.bounds.length + ys.length) c');rw[<- hL]at hk
 refine⟨_,m,⟨S.B.go m zp,S.hc,(by rw[<- hL];exact hk),S.G.go m zp S.B.l zp zp,S.L.go m zp zp,S.R.go m (by rintro _ (rfl | rfl) <;> rfl) zp,S.cn,S.ca.go m zp,S.pa.go m zp,S.sn,S.se.go m zp,S.ev.go m zp,S.ms.go m zp,S.mg,λy hy=>(S.md y hy).go m zp,?_,S.sh.go m zp,S.mo.go m zp,S.cr.go m zp,S.cv⟩⟩;refine⟨?_,λk hk=>?_⟩
 .rw[hL,List.flatMap_append];exact own.fr ((Fr.refl (λk=>k=x.y) w5).setCell (p:=⟨x.y,2,none⟩) (λ_=>rfl) _) (λk hk e=>own.ne k9.1 zd (by rw[<- e];exact hk))
 .by_cases h:k < w.heap.size
  .exact(q0l h).trans (S.bd.2 k ((hat k hk).resolve_right zo))
  .exact q07 zo
theorem SyR.push_sh(S:SyR W w o cf x s) {ys:List Int} {A':Option Addr} {c':Nat} (own:Own w5 3 1 A' (s.sheds.length + ys.length) c' (s.sheds.map (.int .i64) ++ ys.map (.int .i64))) (hf:Fr (q02 x.hA) w w5) (hat:∀ k,q02 A' k->q02 x.hA k\/w.heap.size<=k) :
  ∃ o',Mv (λl=>l = .sys 14\/l = .sys 0) o w o' (w5.setCell ⟨x.y,8,none⟩ (.slice A' (s.sheds.length + ys.length) c'))/\SyR W (w5.setCell ⟨x.y,8,none⟩ (.slice A' (s.sheds.length + ys.length) c')) o' cf { x with hA:=A',hc:=c' } { s with sheds:=s.sheds ++ ys }:=by
 have m1:Mv (λl=>l = .sys 14) o w (lay w o (.sys 14)) w5:=Mv.lay (S:=q02 x.hA) _ hf (λk _ hk=>S.sh.2 k hk);have k9:=S.k.go m1 zp;have m:Mv (λl=>l = .sys 14\/l = .sys 0) o w (lay w o (.sys 14)) (w5.setCell ⟨x.y,8,none⟩ (.slice A' (s.sheds.length + ys.length) c')):=(m1.mono λ_ h => .inl h).setC (λ_ => .inr S.k.2) 8 _;have hL:(s.sheds ++ ys).length=s.sheds.length + ys.length:=List.length_append;have hk:=k9.set 8 (.slice A' (s.sheds.length + ys.length) c');rw[<- hL]at hk
 refine⟨_,m,⟨S.B.go m zp,S.hc,(by rw[<- hL];exact hk),S.G.go m zp S.B.l zp zp,S.L.go m zp zp,S.R.go m (by rintro _ (rfl | rfl) <;> rfl) zp,S.cn,S.ca.go m zp,S.pa.go m zp,S.sn,S.se.go m zp,S.ev.go m zp,S.ms.go m zp,S.mg,λy hy=>(S.md y hy).go m zp,S.bd.go m zp,?_,S.mo.go m zp,S.cr.go m zp,S.cv⟩⟩;refine⟨?_,λk hk=>?_⟩
 .rw[hL,List.map_append];exact own.fr ((Fr.refl (λk=>k=x.y) w5).setCell (p:=⟨x.y,8,none⟩) (λ_=>rfl) _) (λk hk e=>own.ne k9.1 zd (by rw[<- e];exact hk))
 .by_cases h:k < w.heap.size
  .exact(q0l h).trans (S.sh.2 k ((hat k hk).resolve_right zo))
  .exact q07 zo
theorem SyR.push_mo(S:SyR W w o cf x s) {ys:List Int} {A':Option Addr} {c':Nat} (own:Own w5 3 1 A' (s.modes.length + ys.length) c' (s.modes.map (.int .i64) ++ ys.map (.int .i64))) (hf:Fr (q02 x.dA) w w5) (hat:∀ k,q02 A' k->q02 x.dA k\/w.heap.size<=k) :
  ∃ o',Mv (λl=>l = .sys 15\/l = .sys 0) o w o' (w5.setCell ⟨x.y,9,none⟩ (.slice A' (s.modes.length + ys.length) c'))/\SyR W (w5.setCell ⟨x.y,9,none⟩ (.slice A' (s.modes.length + ys.length) c')) o' cf { x with dA:=A',dc:=c' } { s with modes:=s.modes ++ ys }:=by
 have m1:Mv (λl=>l = .sys 15) o w (lay w o (.sys 15)) w5:=Mv.lay (S:=q02 x.dA) _ hf (λk _ hk=>S.mo.2 k hk);have k9:=S.k.go m1 zp;have m:Mv (λl=>l = .sys 15\/l = .sys 0) o w (lay w o (.sys 15)) (w5.setCell ⟨x.y,9,none⟩ (.slice A' (s.modes.length + ys.length) c')):=(m1.mono λ_ h => .inl h).setC (λ_ => .inr S.k.2) 9 _;have hL:(s.modes ++ ys).length=s.modes.length + ys.length:=List.length_append;have hk:=k9.set 9 (.slice A' (s.modes.length + ys.length) c');rw[<- hL]at hk
 refine⟨_,m,⟨S.B.go m zp,S.hc,(by rw[<- hL];exact hk),S.G.go m zp S.B.l zp zp,S.L.go m zp zp,S.R.go m (by rintro _ (rfl | rfl) <;> rfl) zp,S.cn,S.ca.go m zp,S.pa.go m zp,S.sn,S.se.go m zp,S.ev.go m zp,S.ms.go m zp,S.mg,λy hy=>(S.md y hy).go m zp,S.bd.go m zp,S.sh.go m zp,?_,S.cr.go m zp,S.cv⟩⟩;refine⟨?_,λk hk=>?_⟩
 .rw[hL,List.map_append];exact own.fr ((Fr.refl (λk=>k=x.y) w5).setCell (p:=⟨x.y,9,none⟩) (λ_=>rfl) _) (λk hk e=>own.ne k9.1 zd (by rw[<- e];exact hk))
 .by_cases h:k < w.heap.size
  .exact(q0l h).trans (S.mo.2 k ((hat k hk).resolve_right zo))
  .exact q07 zo
theorem SyR.late_(S:SyR W w o cf x s) (z:Int):Mv (λl=>l = .sys 0) o w o (w.setCell ⟨x.y,11,none⟩ (ii z))/\SyR W (w.setCell ⟨x.y,11,none⟩ (ii z)) o cf x { s with late:=z }:=by
 have m:Mv (λl=>l = .sys 0) o w o (w.setCell ⟨x.y,11,none⟩ (ii z)):=Mv.setC (L:=λl=>l = .sys 0) (Mv.refl _ o w) (q:=x.y) (λ_=>S.k.2) 11 _;exact⟨m,⟨S.B.go m zp,S.hc,S.k.set 11 _,S.G.go m zp S.B.l zp zp,S.L.go m zp zp,S.R.go m (by rintro _ rfl;rfl) zp,S.cn,S.ca.go m zp,S.pa.go m zp,S.sn,S.se.go m zp,S.ev.go m zp,S.ms.go m zp,S.mg,λy hy=>(S.md y hy).go m zp,S.bd.go m zp,S.sh.go m zp,S.mo.go m zp,S.cr.go m zp,S.cv⟩⟩
end
section
variable{W w w5:World} {o:Gh} {cf:Cf} {x:Yx} {s:Sy}
theorem SyR.push_ms(S:SyR W w o cf x s) {ys:List Mh} {A':Option Addr} {c':Nat} (own:Own w5 122 3 A' (x.mh.length + ys.length) c' (x.mh.flatMap Mh.f ++ ys.flatMap Mh.f)) (hf:Fr (q02 x.mA) w w5) (hat:∀ k,q02 A' k->q02 x.mA k\/w.heap.size<=k) (hd:∀ m ∈ ys,Dat w o m.d) :
  ∃ o',Mv (λl=>l = .sys 7\/l = .sys 0) o w o' (w5.setCell ⟨x.y,1,none⟩ (.slice A' (x.mh.length + ys.length) c'))/\SyR W (w5.setCell ⟨x.y,1,none⟩ (.slice A' (x.mh.length + ys.length) c')) o' cf { x with mA:=A',mc:=c',mh:=x.mh ++ ys } { s with msgs:=s.msgs ++ ys.map Mh.g }:=by
 have m1:Mv (λl=>l = .sys 7) o w (lay w o (.sys 7)) w5:=Mv.lay (S:=q02 x.mA) _ hf (λk _ hk=>S.ms.2 k hk);have k9:=S.k.go m1 zp;have m:Mv (λl=>l = .sys 7\/l = .sys 0) o w (lay w o (.sys 7)) (w5.setCell ⟨x.y,1,none⟩ (.slice A' (x.mh.length + ys.length) c')):=(m1.mono λ_ h => .inl h).setC (λ_ => .inr S.k.2) 1 _;have hL:(x.mh ++ ys).length=x.mh.length + ys.length:=List.length_append;have hk:=k9.set 1 (.slice A' (x.mh.length + ys.length) c');rw[<- hL]at hk
 refine⟨_,m,⟨S.B.go m zp,S.hc,(by rw[<- hL];exact hk),S.G.go m zp S.B.l zp zp,S.L.go m zp zp,S.R.go m (by rintro _ (rfl | rfl) <;> rfl) zp,S.cn,S.ca.go m zp,S.pa.go m zp,S.sn,S.se.go m zp,S.ev.go m zp,?_,by rw[List.map_append,S.mg],?_,S.bd.go m zp,S.sh.go m zp,S.mo.go m zp,S.cr.go m zp,S.cv⟩⟩
 .refine⟨?_,λk hk=>?_⟩
  .rw[hL,List.flatMap_append];exact own.fr ((Fr.refl (λk=>k=x.y) w5).setCell (p:=⟨x.y,1,none⟩) (λ_=>rfl) _) (λk hk e=>own.ne k9.1 zd (by rw[<- e];exact hk))
  .by_cases h:k < w.heap.size
   .exact(q0l h).trans (S.ms.2 k ((hat k hk).resolve_right zo))
   .exact q07 zo
 .intro y hy;rcases List.mem_append.1 hy with hy | hy
  .exact(S.md y hy).go m zp
  .exact(hd y hy).go m zp
theorem SyR.push_cr(S:SyR W w o cf x s) {ys:List Value} {A':Option Addr} {c':Nat} (own:Own w5 29 1 A' (x.rv.length + ys.length) c' (x.rv ++ ys)) (hf:Fr (q02 x.rA) w w5) (hat:∀ k,q02 A' k->q02 x.rA k\/w.heap.size<=k) (hv:∀ u ∈ ys,u.oneCell'=true) {z:List (List Int)} (hz:z.length=s.creds.length + ys.length) :
  ∃ o',Mv (λl=>l = .sys 16\/l = .sys 0) o w o' (w5.setCell ⟨x.y,10,none⟩ (.slice A' (x.rv.length + ys.length) c'))/\SyR W (w5.setCell ⟨x.y,10,none⟩ (.slice A' (x.rv.length + ys.length) c')) o' cf { x with rA:=A',rc:=c',rv:=x.rv ++ ys } { s with creds:=z }:=by
 have m1:Mv (λl=>l = .sys 16) o w (lay w o (.sys 16)) w5:=Mv.lay (S:=q02 x.rA) _ hf (λk _ hk=>S.cr.2 k hk);have k9:=S.k.go m1 zp;have m:Mv (λl=>l = .sys 16\/l = .sys 0) o w (lay w o (.sys 16)) (w5.setCell ⟨x.y,10,none⟩ (.slice A' (x.rv.length + ys.length) c')):=(m1.mono λ_ h => .inl h).setC (λ_ => .inr S.k.2) 10 _;have hL:(x.rv ++ ys).length=x.rv.length + ys.length:=List.length_append;have hk:=k9.set 10 (.slice A' (x.rv.length + ys.length) c');rw[<- hL]at hk
 refine⟨_,m,⟨S.B.go m zp,S.hc,(by rw[<- hL];exact hk),S.G.go m zp S.B.l zp zp,S.L.go m zp zp,S.R.go m (by rintro _ (rfl | rfl) <;> rfl) zp,S.cn,S.ca.go m zp,S.pa.go m zp,S.sn,S.se.go m zp,S.ev.go m zp,S.ms.go m zp,S.mg,λy hy=>(S.md y hy).go m zp,S.bd.go m zp,S.sh.go m zp,S.mo.go m zp,?_,?_⟩⟩
 .refine⟨?_,λk hk=>?_⟩
  .rw[hL];exact own.fr ((Fr.refl (λk=>k=x.y) w5).setCell (p:=⟨x.y,10,none⟩) (λ_=>rfl) _) (λk hk e=>own.ne k9.1 zd (by rw[<- e];exact hk))
  .by_cases h:k < w.heap.size
   .exact(q0l h).trans (S.cr.2 k ((hat k hk).resolve_right zo))
   .exact q07 zo
 .refine⟨λu hu=>?_,by rw[hL,S.cv.2];exact hz.symm⟩;rcases List.mem_append.1 hu with hu | hu
  .exact S.cv.1 u hu
  .exact hv u hu
theorem FnL.ns{i:Nat} (h:i≠9) (h1:i≠11) (h2:i≠12) (h3:i≠13):¬ FnL (.sys i):=by
 rintro(h' | h' | h' | h' | h')
 .exact qft.ns h'
 .cases h';exact h rfl
 .cases h';exact h1 rfl
 .cases h';exact h2 rfl
 .cases h';exact h3 rfl
theorem SyR.flush_(S:SyR W w o cf x s) {w':World} {o':Gh} {cs':List Ce} (m:Mv FnL o w o' w') (R:CsR w' o' x.c x.x cs') (hl:cs'.length=s.cs.length):SyR W w' o' cf x { s with cs:=cs' } :=
 ⟨S.B.go m FnL.nf,S.hc,S.k.go m (FnL.ns zd zd zd zd),S.G.go m FnL.nf S.B.l (FnL.ns zd zd zd zd) (FnL.ns zd zd zd zd),S.L.go m (FnL.ns zd zd zd zd) (FnL.ns zd zd zd zd),R,by rw[hl];exact S.cn,S.ca.go m (FnL.ns zd zd zd zd),S.pa.go m (FnL.ns zd zd zd zd),S.sn,S.se.go m (FnL.ns zd zd zd zd),S.ev.go m (FnL.ns zd zd zd zd),S.ms.go m (FnL.ns zd zd zd zd),S.mg,λy hy=>(S.md y hy).go m FnL.nd,S.bd.go m (FnL.ns zd zd zd zd),S.sh.go m (FnL.ns zd zd zd zd),S.mo.go m (FnL.ns zd zd zd zd),S.cr.go m (FnL.ns zd zd zd zd),S.cv⟩
end
def SyL:Lb->Prop:=λl=>l ≠ .free/\l ≠ .data/\l ≠ .sys 3
theorem SyL.s{i:Nat} (h:i≠3):SyL (.sys i):=⟨zp,zp,by simpa using h⟩
theorem SyL.p{p:Nat} {l:Lb} (h:l.part=some p):SyL l:=⟨by rintro rfl;simp[Lb.part]at h,by rintro rfl;simp[Lb.part]at h,by rintro rfl;simp[Lb.part]at h⟩
theorem qwe:ElemOf 57 86 3 24:=q1l (z := .agg #[ii 0,ii 0,ii 0]) zk zk rfl zd zd
def SyA(W:World) (o:Gh) (w:World) (cf:Cf) (x:Yx) (s:Sy) (w':World):Prop:=∃ o' x',x'.y=x.y/\Mv SyL o w o' w'/\SyR W w' o' cf x' s
section
variable{W w:World} {o:Gh} {cf:Cf} {x:Yx} {s:Sy}
theorem qoz(S:SyR W w o cf x s) {due part:Int} (hn:s.bounds.length<=100000000000):cP 128 #[pp x.y,ii due,ii part] w λe w'=>e = .returned (.tuple #[])/\SyA W o w cf x (q1w s due part) w':=by
 have h1:w.cell? ⟨x.y,12,none⟩=some (pp x.gx.g):=S.k.1.cell 12;have c2:w.cell? ⟨x.y,2,none⟩=some (.slice x.bA s.bounds.length x.bc):=S.k.1.cell 2;have ly:=S.k.1.lt;obtain⟨kg,lg⟩:=S.G.N.k.cl;have HO:=zhd S.bd.1;have HN:=zhd hn;have HP:=zhd S.G.N.P;clear hn;refine inC ?_;go_in;go_upto_region 2 with (first
  | (go_at_call 132;refine(q20 HP.out).mono ?_;rintro _ _ ⟨rfl,rfl⟩)
  | (at_builtin;refine q2k qwe w (by rfl) _ _ (by rfl) (by rfl) HO.out #[ii due,ii s.g.pl.now,ii part] rfl (by simp[Value.oneCell']) (by rfl) HN.out ?_;intro A' c' w5 own5 hf5 hat5;have h0:=S.k.1.fr hf5 (λh=>S.bd.1.ne S.k.1 (by decide) h);have h2:w5.cell? ⟨x.y,2,none⟩=some (.slice x.bA s.bounds.length x.bc):=h0.cell 2;have h3:=h0.frozen;have h4:=h0.lt))
 obtain⟨o6,m6,S6⟩:=S.push_bd (ys:=[⟨due,s.g.pl.now,part⟩]) own5 hf5 hat5;have M6:=m6.mono (L':=SyL) (by rintro _ (rfl | rfl) <;> exact SyL.s (by decide));clear own5 hf5 hat5 h0 h2 h3 h4 m6 h1 c2 kg lg HO HN HP ly;simp only[List.length_cons,List.length_nil,Nat.zero_add]at M6 S6;generalize w5.setCell ⟨x.y,2,none⟩ (.slice A' (s.bounds.length + 1) c')=w6 at *;by_cases q:due < s.g.pl.now
 .have b1:decide (due < s.g.pl.now)=true:=decide_eq_true q;have c11:w6.cell? ⟨x.y,11,none⟩=some (ii s.late):=S6.k.1.cell 11;have f6:∀ i,w6.frozen? ⟨x.y,i,none⟩=false:=S6.k.1.frozen;have l6:x.y < w6.heap.size:=S6.k.1.lt;have HE:Hid (q1w s due part={ s with bounds:=s.bounds ++ [⟨due,s.g.pl.now,part⟩],late:=wrap64 (s.late + 1) }):=by unfold q1w;rw[if_pos q];exact rfl
  clear q;go_wp2_with fail;go_returns;obtain⟨m7,S7⟩:=S6.late_ (wrap64 (s.late + 1));refine⟨rfl,o6,{ x with bA:=A',bc:=c' },rfl,M6.trans (m7.mono (by rintro _ rfl;exact SyL.s (by decide))),?_⟩;rw[HE.out];exact S7
 .have b1:decide (due < s.g.pl.now)=false:=decide_eq_false q;have HE:Hid (q1w s due part={ s with bounds:=s.bounds ++ [⟨due,s.g.pl.now,part⟩] }):=by unfold q1w;rw[if_neg q];exact rfl
  clear q;go_wp2_with fail;go_returns;refine⟨rfl,o6,{ x with bA:=A',bc:=c' },rfl,M6,?_⟩;rw[HE.out];exact S6
end
theorem Rdy.mv{L:Lb->Prop} {o o':Gh} {s:Ce} (Y:Rdy W w o s n) (m:Mv L o w o' w') (hL:¬ L .free):Rdy W w' o' s n:=⟨Y.H,Y.B.go m hL,Y.l,Y.sl,Y.h,Y.e,Y.d,Y.z,Y.pr⟩
section
variable{W w w5:World} {o:Gh} {cf:Cf} {x:Yx} {s:Sy}
theorem SyR.seen_(S:SyR W w o cf x s) {p:Nat} (n:Nat):Mv (λl=>l = .sys 5) o w o (w.setCell ⟨x.sb,p,none⟩ (ii n))/\SyR W (w.setCell ⟨x.sb,p,none⟩ (ii n)) o cf x { s with seen:=s.seen.set p n }:=by
 have m:Mv (λl=>l = .sys 5) o w o (w.setCell ⟨x.sb,p,none⟩ (ii n)):=Mv.setC (L:=λl=>l = .sys 5) (Mv.refl _ o w) (q:=x.sb) (λ_=>S.se.2) p _;have hk:=S.se.set p (ii n);rw[List.setIfInBounds_toArray,<- List.map_set (f:=λ(j:Nat)=>(ii (j:Int):Value))]at hk
 exact⟨m,S.B.go m zp,S.hc,S.k.go m zp,S.G.go m zp S.B.l zp zp,S.L.go m zp zp,S.R.go m (by rintro _ rfl;rfl) zp,S.cn,S.ca.go m zp,S.pa.go m zp,by rw[List.length_set];exact S.sn,hk,S.ev.go m zp,S.ms.go m zp,S.mg,λy hy=>(S.md y hy).go m zp,S.bd.go m zp,S.sh.go m zp,S.mo.go m zp,S.cr.go m zp,S.cv⟩
end
theorem z0t:Tryz.prog.underlying 55=some (.slice 67):=zk
theorem qsy(w:World):(sizeOf 67).run Tryz.prog w = .ok 6 w:=zk
def WkQ(W w:World) (o:Gh) (cf:Cf) (x:Yx) (p:Nat) (en:Int) (last:Sy) (wr:World) (n:Nat):Prop :=
 ∃ (t:Sy) (o':Gh) (x':Yx) (m:Nat),SyR W wr o' cf x' t/\x'.y=x.y/\x'.c=x.c/\Mv SyL o w o' wr/\Rdy W wr o' (atD Ce0 t.cs p) (21 * (n + 1))/\RoomI (atD Ce0 t.cs p)/\GvI cf.pw t.g/\(atD Ce0 t.cs p).sk.room.toNat=n/\n + 1<=m/\Hid (q3e cf p en m t=last)/\Hid (t.seen=last.seen/\t.evs=last.evs)/\(atD Ce0 t.cs p).evs.length + 21 * (n + 1)<=95000000000
theorem q8k(cf:Cf) (p:Nat) (en:Int):∀ (n:Nat) (s:Sy),(q3e cf p en n s).seen=s.seen/\(q3e cf p en n s).evs=s.evs
 | 0,s=>⟨rfl,rfl⟩
 | n + 1,s=>by
  unfold q3e;split
  .exact⟨rfl,rfl⟩
  .exact q8k cf p en n (q5z cf p en s)
theorem qsz{o:Gh} {cf:Cf} {x:Yx} {s:Sy} (S:SyR W w o cf x s) {p:Nat} (hp:p < cf.parts.l.length) (I:CeI W (atD Ce0 s.cs p)) (GI:GvI cf.pw s.g) (hcap:(atD Ce0 s.cs p).cf.cap<=1000000) (he:(atD Ce0 s.cs p).evs.length<=90000000000) (hsn:s.seen.getD p 0<=(atD Ce0 s.cs p).evs.length) (hev:s.evs.length<=1000000000) (hpn:cf.parts.l.length<=1000) {en:Int} :
  cP 129 #[pp x.y,ii p,ii en] w λe w'=>e = .returned (.tuple #[])/\SyA W o w cf x (q5i cf s p en) w':=by
 have aa:w.cell? ⟨x.y,26,none⟩=some (.slice x.cA cf.parts.l.length x.cc):=S.k.1.cell 26;have H3:w.cell? ⟨x.y,12,none⟩=some (pp x.gx.g):=S.k.1.cell 12;have ly:=S.k.1.lt;obtain⟨cb,cf0,bh,bj,bk⟩:=qoy S.ca.1 hp;rw[bh]at aa
 have b1:decide (cf.parts.l.length<=p)=false:=decide_eq_false (by omega);have hj:p < s.cs.length:=by rw[S.cn];exact hp
 have HB:=zhd (qo8 (S.R p hj) I.H S.B I.l I.h0 I.h1 I.hh (by omega));have HS:=zhd S;have HP:=zhd hp;have HI:=zhd I;have ax:=zhd GI;have hn:=zhd hcap;have Hx:=zhd he;have bb:=zhd hsn;have ba:=zhd hev;have HPN:=zhd hpn;have a4:=zhd hj;clear I GI hcap he hsn hev hp hpn hj S;refine inC ?_;go_in;go_upto_region 2 with (go_at_call 185;refine(HB.out).mono ?_;rintro _ w2 ⟨rfl,o2,m2,c1,ar,R2⟩)
 have S2:=HS.out.cell HP.out m2 ar R2;have M2:=m2.mono (L':=SyL) λl h=>SyL.p h;obtain⟨x2,hk⟩:∃ x2:Yx,x2={ x with x:=λq=>if q=p then c1 else x.x q }:=⟨_,rfl⟩
 have H6:x2.y=x.y/\x2.c=x.c:=by rw[hk];exact⟨rfl,rfl⟩
 rw[<- hk]at S2
 have H3:w2.cell? ⟨x.y,12,none⟩=some (pp x2.gx.g):=by rw[<- H6.1];exact S2.k.1.cell 12
 have ly:x.y < w2.heap.size:=by rw[<- H6.1];exact S2.k.1.lt
 have Hk:=zhd H6;have Hf:=zhd S2;have a2:=zhd M2;clear hk H6 R2 ar m2 HB bk bj aa S2 M2;go_upto_region 3 with (go_at_call 186;refine(qso Hf.out.G.N).mono ?_;rintro _ w3 ⟨rfl,N3⟩)
 obtain⟨m3,S3⟩:=Hf.out.gov N3;have M3:=a2.out.trans (m3.mono (L':=SyL) (by rintro _ rfl;exact SyL.s (by decide)));obtain⟨s1,hf⟩:∃ s1:Sy,s1={ s with cs:=s.cs.set p (q2g (atD Ce0 s.cs p)),g:=qf4 s.g }:=⟨_,rfl⟩
 have S3:SyR W w3 o2 cf x2 s1:=by rw[hf];exact S3
 have hs:atD Ce0 s1.cs p=q2g (atD Ce0 s.cs p):=by
  rw[hf];show atD Ce0 (s.cs.set p _) p=_;rw[Me.atD_set _ _ _ _ _ a4.out,if_pos rfl]
 obtain⟨Y3,hv⟩:=qp6 (n:=21 * ((max 0 (atD Ce0 s.cs p).cf.cap).toNat + 1)) HI.out S3.B (by have:=Hx.out;have:=hn.out;omega);have HW:Hid (q5i cf s p en=q2t (q3e cf p en ((atD Ce0 s1.cs p).sk.room.toNat + 1) s1) p):=by rw[hf];exact rfl
 obtain⟨h5,h6⟩:∃ h5,h5=q3e cf p en ((atD Ce0 s1.cs p).sk.room.toNat + 1) s1:=⟨_,rfl⟩
 have a0:Hid (h5.seen=s.seen/\h5.evs=s.evs):=by
  have:=q8k cf p en ((atD Ce0 s1.cs p).sk.room.toNat + 1) s1;rw[h6,hf];rw[hf]at this
  exact this
 have HQ:Hid (∃ n,WkQ W w o cf x p en h5 w3 n):=by
  refine⟨(atD Ce0 s1.cs p).sk.room.toNat,s1,o2,x2,(atD Ce0 s1.cs p).sk.room.toNat + 1,S3,Hk.out.1,Hk.out.2,M3,?_,?_,by rw[hf];exact ax.out.sync,rfl,nL,h6.symm,?_,?_⟩
  .rw[hs,hv];exact Y3
  .rw[hs];exact⟨by rw[hv];omega,by rw[hv];have:=hn.out;omega⟩
  .have:=q8k cf p en ((atD Ce0 s1.cs p).sk.room.toNat + 1) s1;rw[h6];exact⟨this.1.symm,this.2.symm⟩
  .rw[hs,hv];have h1:=(qav HI.out).len;have h2:=Hx.out;have h3:=hn.out;have h4:(beginS (atD Ce0 s.cs p)).evs=(atD Ce0 s.cs p).evs:=rfl;rw[h4]at h1
   omega
 have az:Hid ((atD Ce0 s.cs p).evs.length<=(atD Ce0 h5.cs p).evs.length):=by
  have h1:=qdp cf (p:=p) en ((atD Ce0 s1.cs p).sk.room.toNat + 1) s1 (by rw[hf];show p < (s.cs.set p _).length;rw[List.length_set];exact a4.out);rw[<- h6]at h1
  obtain⟨l,e,_⟩:=h1.e.ev;obtain⟨l2,e2,_⟩:=(qau (atD Ce0 s.cs p)).ev;show _<=_;rw[e,hs,e2];simp only[List.length_append];omega
 rw[<- h6]at HW
 have HCE:Hid ((atD Ce0 s.cs p).cf.cap<=1000000):=hn;clear h6 hf hs Y3 hv S3 M3 m3 N3 Hf a2 Hk H3 ly hn HI;go_loopw [] (λwr=>∃ n,WkQ W w o cf x p en h5 wr n) (λwr=>q3w (WkQ W w o cf x p en h5 wr))
 case atStart=>exact HQ.out
 case round =>
  clear HQ;obtain⟨n0,ah⟩:=hrel;have hq:=(q16 ah).1;generalize hL:q3w (WkQ W w o cf x p en h5 wr)=n at hq ⊢;have HL:=zhd hL;clear hL ah n0;obtain⟨t,o',x',m,S,hy,Ht,M,Y,RI,GI,aj,hm,Hz,Hh,Hs⟩:=hq;have hj:p < t.cs.length:=by rw[S.cn];exact HP.out
  have R:=S.R p hj;rw[Ht]at R
  have ac:wr.cell? ⟨x.y,29,none⟩=some (pp x'.lb):=by rw[<- hy];exact S.k.1.cell 29
  have ly:x.y < wr.heap.size:=by rw[<- hy];exact S.k.1.lt
  have a9:=zhd (λ(w':World) (hb:bW wr w')=>qir (R.blw hb) Y.l Y.h);have a3:=zhd (λ(w':World) (hb:bW wr w') (z:Int)=>qji (n:=z) (S.L.H.keep hb) HP.out S.hc.2.2.2.1 (bt S.B.b hb));have HS:=zhd S;have HR:=zhd R;have HY:=zhd Y;have He:=zhd RI;have hr:=zhd GI;have HM:=zhd M;have b9:=zhd aj;have Hb:=zhd hm;have h8:=zhd hy;have Hj:=zhd Ht;have a5:=zhd hj;have a8:=zhd Hs;clear Hs S R Y RI GI M aj hm hy Ht hj;go_upto_region 4 with ((with_reducible refine qe4 [(6,0),(0,2)] ?_);(try simp only[q03,tkO,dpO]);(repeat(go_big_quiet_step (fail)));refine qwW (λK' hK'=>?_);go_wp2_with fail;go_at_call 188;refine(a9.out _ bR.drew).mono ?_;rintro _ w4 ⟨rfl,b4⟩;refine zGB (fO (bt bR.drew b4) _) ?_;clear hK' K';intro K' hK';go_wp2_with fail;go_at_call 187;refine(a3.out _ (bt bR.drew b4) _).mono ?_;rintro _ w5 ⟨rfl,b5⟩;refine zE ?_;clear hK' K')
  have B5:=bt (bt bR.drew b4) b5;have ag:q6m cf t.cy p (q58 (atD Ce0 t.cs p))=q5y cf t p:=rfl;rw[ag];have hd:=zhd B5;have Hq:¬ q5y cf t p < 1->q5y cf t p<=q58 (atD Ce0 t.cs p):=qcd;clear b4 b5 ag ac ly a9 a3 B5;generalize hz:q5y cf t p=z at *;have HZ:=zhd hz;clear hz;by_cases q:z < 1
  .have b2:decide (z < 1)=true:=decide_eq_true q;have a1:Hid (h5=t):=by
    rw[<- Hz.out];cases m with
    | zero=>have:=Hb.out;omega
    | succ m=>unfold q3e;rw[HZ.out];exact if_pos q
   clear q Hq;go_upto_region 7 with fail;have S5:=HS.out.blw hd.out;have R5:=HR.out.blw hd.out;have aq:(atD Ce0 t.cs p).evs.length<=95000000000:=by have:=a8.out;omega
   have Hv:=zhd (ql4 R5 (by omega));have H2:=zhd S5;have bc:=zhd aq;have b0:=zhd (HM.out.trans (Mv.below hd.out));clear S5 R5 aq HS HR hd;go_upto_region 8 with (go_at_call 193;refine(Hv.out).mono ?_;rintro _ w6 ⟨lA,lc,rfl,af,bm,b6⟩)
   have S6:=H2.out.blw b6;have b3:=zhd (b0.out.trans (Mv.below b6));have c0:w6.cell? ⟨x.y,0,none⟩=some (.slice x'.eA t.evs.length x'.ec):=by rw[<- h8.out];exact S6.k.1.cell 0
   have ab:w6.cell? ⟨x.y,28,none⟩=some (.slice (some ⟨x'.sb,0,none⟩) cf.parts.l.length cf.parts.l.length):=by rw[<- h8.out];exact S6.k.1.cell 28
   have ly:x.y < w6.heap.size:=by rw[<- h8.out];exact S6.k.1.lt
   have hu:p < t.seen.length:=by rw[S6.sn];exact HP.out
   have cs:w6.cell? ⟨x'.sb,p,none⟩=some (ii (t.seen.getD p 0:Nat)):=by
    have:=S6.se.1.cell p;rw[this];simp[hu]
   have ls:=S6.se.1.lt;have h9:t.seen.getD p 0<=(atD Ce0 t.cs p).evs.length:=by
    rw[Hh.out.1,a0.out.1,<- a1.out];exact Nat.le_trans bb.out az.out
   obtain⟨lo,hg⟩:∃ lo,lo=t.seen.getD p 0:=⟨_,rfl⟩
   rw[<- hg]at cs h9
   have ay:=zhd hg;clear hg hu;have ap:SlG w6 lA (atD Ce0 t.cs p).evs.length lc 6 Ev.f (atD Ce0 t.cs p).evs:=⟨af.sl,rfl,λ_ _=>rfl⟩
   have Hn:=ap.cut h9 nL;have ae:((atD Ce0 t.cs p).evs.drop lo).take ((atD Ce0 t.cs p).evs.length - lo)=(atD Ce0 t.cs p).evs.drop lo:=List.take_of_length_le (by simp);rw[ae]at Hn
   have hsl:∀ w,(Instr.sliceAt 55 (.slice lA (atD Ce0 t.cs p).evs.length lc) (some (ii (lo:Int))) none none).run Tryz.prog w = .ok (.slice (slA lA lo lc 6) ((atD Ce0 t.cs p).evs.length - lo) (lc - lo)) w:=λw=>qen z0t qsy w _ _ _ lo h9;have bq:¬ q02 x'.eA x.y:=λh=>S6.ev.1.ne S6.k.1 (by decide) (by rw[h8.out];exact h);have hns:¬ q02 x'.eA x'.sb:=λh=>S6.ev.1.ne S6.se.1 (by decide) h;have Hg:=zhd S6;have av:=zhd Hn;have ad:t.evs.length + ((atD Ce0 t.cs p).evs.length - lo)<=100000000000:=by
    rw[Hh.out.2,a0.out.2];have:=ba.out;have:=bc.out;omega
   have au:=zhd ad;have bp:decide (cf.parts.l.length<=p)=false:=decide_eq_false (by have:=HP.out;omega);have HLO2:=zhd h9;clear ap Hn ae S6 ad h9 af H2 Hv b6 bm;refine q88 (q02 x'.eA) [(15,0),(3,2)] ?_;simp only[q03,tkO,dpO]
   repeat(go_big_quiet_step (fail))
   refine qwW (λK' hK'=>?_);have bd:bW w6 w6.drew:=bR.drew;refine qas q8e w6.drew _ _ (by rfl) (by rfl) (Hg.out.ev.1.keep bd) (by rfl) (av.out.1.keep bd) (qp8 _) au.out ?_;intro A' c' w9 own9 hf9 hat9;have f9:=(fO bd (q02 x'.eA)).trans hf9;refine hK' _ _ rfl (q01 f9) ?_;clear hK' K';have H0:=Hg.out.k.1.fr f9 (by rw[h8.out];exact bq);rw[h8.out]at H0
   have bf:w9.cell? ⟨x.y,0,none⟩=some (.slice x'.eA t.evs.length x'.ec):=H0.cell 0;have bg:=H0.frozen;have bu:=H0.lt;refine zN ?_;refine qwB (λK' hK'=>?_);go_wp2_with fail;refine zE ?_;clear hK' K';have ht:(atD Ce0 t.cs p).evs.length - lo=((atD Ce0 t.cs p).evs.drop lo).length:=by rw[List.length_drop]
   rw[ht]at own9 ⊢
   obtain⟨bz,Hu,Hm⟩:=Hg.out.push_ev (ys:=(atD Ce0 t.cs p).evs.drop lo) own9 f9 hat9;rw[h8.out]at Hu Hm
   have Ha:=zhd Hu;have h7:=zhd Hm;clear own9 hf9 hat9 f9 H0 bf bg bu Hu Hm c0 ab ly cs ls bd;generalize w9.setCell ⟨x.y,0,none⟩ (.slice A' (t.evs.length + ((atD Ce0 t.cs p).evs.drop lo).length) c')=w10 at *;have ab:w10.cell? ⟨x.y,28,none⟩=some (.slice (some ⟨x'.sb,0,none⟩) cf.parts.l.length cf.parts.l.length):=h7.out.k.1.cell 28;have ly:x.y < w10.heap.size:=h7.out.k.1.lt;have hu:p < t.seen.length:=by have:=h7.out.sn;have h2:=HP.out;rw[<- this]at h2;exact h2
   have csb:w10.cell? ⟨x'.sb,p,none⟩=some (ii (t.seen.getD p 0:Nat)):=by
    have:=h7.out.se.1.cell p;rw[this];simp[hu]
   have fsb:∀ i,w10.frozen? ⟨x'.sb,i,none⟩=false:=h7.out.se.1.frozen;have lsb:x'.sb < w10.heap.size:=h7.out.se.1.lt;clear hu;go_wp2_with fail;go_returns;obtain⟨bx,be⟩:=h7.out.seen_ (p:=p) ((atD Ce0 t.cs p).evs.length);refine⟨rfl,bz,{ x' with y:=x.y,eA:=A',ec:=c' },rfl,(b3.out.trans (Ha.out.mono (L':=SyL) (by rintro _ (rfl | rfl) <;> exact SyL.s (by decide)))).trans (bx.mono (by rintro _ rfl;exact SyL.s (by decide))),?_⟩;rw[HW.out,a1.out];unfold q2t;rw[<- ay.out];exact be
  .have b2:decide (z < 1)=false:=decide_eq_false q;have bs:=Hq q;have an:q5x (atD Ce0 t.cs p) z=z:=by unfold q5x;omega
   have H1:=zhd an;have Hc:=zhd (show 1<=z by omega);have S5:=HS.out.blw hd.out;have R5:=HR.out.blw hd.out;have H3:w5.cell? ⟨x.y,12,none⟩=some (pp x'.gx.g):=by rw[<- h8.out];exact S5.k.1.cell 12
   have ly:x.y < w5.heap.size:=by rw[<- h8.out];exact S5.k.1.lt
   have Hy:=zhd (λ(w':World) (hb:bW w5 w')=>qs4 (R5.blw hb));have a6:=zhd (λ(w':World) (hb:bW w5 w')=>qst (part:=p) (n:=z) (en:=en) (S5.blw hb).G.N hr.out (qwf He.out));have H2:=zhd S5;clear Hq bs an q S5 R5 HS HR;go_upto_region 6 with ((with_reducible refine qe4 [(7,0),(1,2)] ?_);(try simp only[q03,tkO,dpO]);(repeat(go_big_quiet_step (fail)));refine qwW (λK' hK'=>?_);go_wp2_with fail;go_at_call 190;refine(Hy.out _ bR.drew).mono ?_;rintro _ w6 ⟨rfl,b6⟩;refine zGB (fO (bt bR.drew b6) _) ?_;clear hK' K';intro K' hK';go_wp2_with fail;go_at_call 189;refine(a6.out _ (bt bR.drew b6)).mono ?_;rintro _ w7 ⟨rfl,N7⟩;refine zE ?_;clear hK' K')
   obtain⟨m7,S7⟩:=(H2.out.blw (bt bR.drew b6)).gov N7;have H7:=bt bR.drew b6;have Y7:=(HY.out.mv (Mv.below (L:=λ_=>False) (bt hd.out H7)) id).mv m7 (by simp);have R7:=S7.R p a5.out;have NR:Nw W w7.drew o' p (x'.c p) (x'.x p).p (atD Ce0 t.cs p) (12 + (9 + 21 * n)) w7.drew o' (x'.x p):=⟨Mv.refl _ _ _,rfl,(Y7.mv (Mv.below (L:=λ_=>False) bR.drew) id).mono (by omega),R7.blw bR.drew⟩
   have Hr:=NR.ran (m:=z);rw[Hj.out,show(if q5x (atD Ce0 t.cs p) z < 1 then 0 else q5x (atD Ce0 t.cs p) z)=z by rw[H1.out,if_neg (by have:=Hc.out;omega)]]at Hr
   have b8:=zhd Hr;have ac:w7.cell? ⟨x.y,29,none⟩=some (pp x'.lb):=by rw[<- h8.out];exact S7.k.1.cell 29
   have ly:x.y < w7.heap.size:=by rw[<- h8.out];exact S7.k.1.lt
   have hnp:¬ (o' x.y).part=some p:=by rw[<- h8.out,S7.k.2];simp[Lb.part]
   have a7:=zhd S7;have b7:=zhd ((HM.out.trans (Mv.below (bt hd.out H7))).trans (m7.mono (L':=SyL) (by rintro _ rfl;exact SyL.s (by decide))));have H8:=zhd (λ(w8:World) (o8:Gh) (xx:Cx) (N8:Nw W w7.drew o' p (x.c p) (x'.x p).p (qb3 (atD Ce0 t.cs p) z) (21 * n) w8 o8 xx)=>(a7.out.blw bR.drew).cell HP.out N8.M N8.hx.out (by rw[Hj.out];exact N8.R));clear Hr NR R7 Y7 S7 m7 H7 b6 N7 H3 Hy a6;go_wp2_with ((with_reducible refine q88 (λk=>(o' k).part=some p) [(7,0),(0,2)] ?_);(try simp only[q03,tkO,dpO]);(repeat(go_big_quiet_step (fail)));refine qwW (λK' hK'=>?_);go_wp2_with fail;go_at_call 192;refine(b8.out).mono ?_;rintro _ w8 ⟨rfl,o8,xx,N8⟩;refine zGB ((fO bR.drew _).trans N8.M.f) ?_;clear hK' K';intro K' hK';go_wp2_with fail;go_at_call 191;refine(qjj (H8.out _ _ _ N8).L.H HP.out a7.out.hc.2.2.2.1 (H8.out _ _ _ N8).B.b).mono ?_;rintro _ w9 ⟨rfl,H9,f9⟩;refine zE ?_;clear hK' K');obtain⟨m9,S9⟩:=(H8.out w8 o8 xx N8).led H9 f9;have Hp:¬ q5x (atD Ce0 t.cs p) z < 1:=by rw[H1.out];have:=Hc.out;omega
   obtain⟨H5,br⟩:=qj4 He.out Hp;rw[H1.out]at H5 br
   have am:=He.out;have hz1:=Hc.out;have H4:atD Ce0 (q5z cf p en t).cs p=qb3 (atD Ce0 t.cs p) z:=by
    show atD Ce0 (t.cs.set p (qb3 (atD Ce0 t.cs p) (q5y cf t p))) p=_;rw[Me.atD_set _ _ _ _ _ a5.out,if_pos rfl,HZ.out]
   have ak:q5z cf p en t={ t with g:=qtx cf.pw t.g p z (qgz (atD Ce0 t.cs p)) en,cs:=t.cs.set p (qb3 (atD Ce0 t.cs p) z),cy:=(q5r cf t.cy p z).2 }:=by
    unfold q5z;rw[HZ.out];dsimp only;rw[if_neg Hp,H1.out]
   have ht:=qp7 HY.out.H.n8 HY.out.l Hp;have Hs:=a8.out;have hnn:=b9.out;have bn:(qb3 (atD Ce0 t.cs p) z).sk.room.toNat < n:=by
    have ha:=am.a;rw[H5];omega
   have Q9:WkQ W w o cf x p en h5 w9 (qb3 (atD Ce0 t.cs p) z).sk.room.toNat:=by
    refine⟨q5z cf p en t,o8,{ x' with x:=λq=>if q=p then xx else x'.x q },m - 1,by rw[ak];exact S9,h8.out,Hj.out,((b7.out.trans (Mv.below bR.drew)).trans (N8.M.mono λl h=>SyL.p h)).trans (m9.mono (by rintro _ rfl;exact SyL.s (by decide))),?_,?_,by rw[ak];exact hr.out.run _ _ _ _,by rw[H4],?_,?_,?_,?_⟩
    .rw[H4];exact(N8.Y.mv m9 (by simp)).mono (by omega)
    .rw[H4];exact⟨by rw[H5];omega,by rw[H5];have:=am.b;omega⟩
    .have:=Hb.out;omega
    .have h1:=Hz.out;have h2:=Hb.out;obtain⟨m',rfl⟩:∃ m',m=m' + 1:=⟨m - 1,by omega⟩
     unfold q3e at h1;rw[if_neg (by rw[HZ.out];omega)]at h1
     exact h1
    .have h1:=Hh.out;exact⟨h1.1,h1.2⟩
    .rw[H4];omega
   exact⟨⟨_,Q9⟩,Nat.lt_of_le_of_lt ((q16 Q9).2 _ Q9) bn⟩
end Go.Proofs.YtncfcbohiodnnaaGreat
