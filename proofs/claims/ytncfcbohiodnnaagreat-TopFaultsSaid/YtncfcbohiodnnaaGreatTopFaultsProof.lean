/- TopFaults: whatever the configuration and the script (of such as the statement speaks of; else nothing but the small check is asked), each fault is met by just what the partition's table says of its kind; a call that is none, and a bad pointer, are told as such, and then a fault. No condition. -/
import Derived.Test.YtncfcbohiodnnaaGreatWF0
import Derived.Test.YtncfcbohiodnnaaGreatTopFaultsFactsC
set_option maxRecDepth 100000
set_option maxHeartbeats 6400000
namespace Go.Proofs.YtncfcbohiodnnaaGreat
open Go.RowKit
variable{w w' W wa wo W':World} {c n pt r B j b m mb q base cap id B0:Nat} {A:Option Addr} {a code what:Int} {cs:Array Value}
section
open Go.ChangeShapes Go.WideShapes Go.ChangeAt Go.RowKit Go.Joins
theorem q94(os:Os) (started:os.Started) (H:Type) (enc:TypeId×Value->H) :
  ReturnsInHanded {} Tryz.checked os 4 .any (Rows.topFaultsSpec.pre6 enc Tryz.prog Tryz.f4 Rows.topFaultsRow.domain false) (Rows.topFaultsSpec.post enc Tryz.prog Tryz.f4 false true false false):=by
 refine qbp 4 Tryz.f4 Rows.topFaultsSpec os started H enc rfl Tryz.func4 zk zk zk zk
  (λds hl=>by
   have h2:ds.length=2:=hl.trans zk
   match ds,h2 with
   | [d1,d2],_=>rfl)
  (ChangeSpec.witness6 (enc:=enc) (C:=Tryz.checked) false ⟨#[],#[.agg #[.slice none 0 0,.slice none 0 0,.slice none 0 0,.slice none 0 0,.slice none 0 0,ii 0,ii 0,ii 0,ii 0,ii 0,ii 0,.slice none 0 0,.slice none 0 0],.agg #[.slice none 0 0,.slice none 0 0]],[]⟩ 40 zk zk zk zk) ?_
 intro W base args ds ps hval hA;rw[Tryz.params4]at hA hval
 obtain⟨v0,vs0,d0,ds0,p0,q0,hargs,rfl,rfl,h0,r0⟩:=trodAll_cons hA;obtain⟨v1,vs1,d1,ds1,p1,q1,rfl,rfl,rfl,h1,r1⟩:=trodAll_cons r0;obtain⟨rfl,rfl,rfl⟩:=trodAll_nil r1;obtain rfl:args = #[v0,v1]:=by cases args;simp_all
 obtain⟨x,rfl,hx⟩:=qpx (hval 0 _ v0 rfl rfl) h0;obtain⟨y,rfl,hy⟩:=qug (hval 1 _ v1 rfl rfl) h1;exact qdu hx hy
theorem topFaults_holds:Rows.TopFaultsSaid :=
 OpenClaim.holds_of_wide 4 Tryz.f4 rfl rfl rfl rfl rfl rfl rfl ⟨rfl,rfl,rfl,rfl,rfl⟩ rfl rfl rfl rfl rfl zk Tryz.func4 jf
  (of_decide_eq_true zk) (by unfold Func.isWrapper;first | (rw[if_pos (by decide +kernel)];kernel_rfl) | (rw[if_neg (by decide +kernel)];exact⟨rfl,rfl⟩))
  (λos started H enc _=>q94 os started H enc)
#print axioms topFaults_holds
end
end Go.Proofs.YtncfcbohiodnnaaGreat
