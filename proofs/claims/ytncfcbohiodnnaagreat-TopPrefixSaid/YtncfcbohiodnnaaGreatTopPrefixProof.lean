/- TopPrefix: whatever the configuration, the script, and the number of frames (of such as the statement speaks of; else nothing but the small check is asked), what happened in the first frames does not hang on frames that come behind. No condition. -/
import Derived.Test.YtncfcbohiodnnaaGreatWP0
import Derived.Test.YtncfcbohiodnnaaGreatTopPrefixFactsC
set_option maxRecDepth 100000
set_option maxHeartbeats 6400000
namespace Go.Proofs.YtncfcbohiodnnaaGreat
open Go.RowKit
variable{w w' W wa wo W':World} {c n pt r B j b m mb q base cap id B0:Nat} {A:Option Addr} {a code what:Int} {cs:Array Value}
section
open Go.ChangeShapes Go.WideShapes Go.ChangeAt Go.RowKit Go.Joins
theorem q95(os:Os) (started:os.Started) (H:Type) (enc:TypeId×Value->H) :
  ReturnsInHanded {} Tryz.checked os 5 .any (Rows.topPrefixSpec.pre6 enc Tryz.prog Tryz.f5 Rows.topPrefixRow.domain false) (Rows.topPrefixSpec.post enc Tryz.prog Tryz.f5 false true false false):=by
 refine qbp 5 Tryz.f5 Rows.topPrefixSpec os started H enc rfl Tryz.func5 zk zk zk zk
  (λds hl=>by
   have h3:ds.length=3:=hl.trans zk
   match ds,h3 with
   | [d1,d2,d3],_=>rfl)
  (ChangeSpec.witness6 (enc:=enc) (C:=Tryz.checked) false ⟨#[],#[.agg #[.slice none 0 0,.slice none 0 0,.slice none 0 0,.slice none 0 0,.slice none 0 0,ii 0,ii 0,ii 0,ii 0,ii 0,ii 0,.slice none 0 0,.slice none 0 0],.agg #[.slice none 0 0,.slice none 0 0],.int .u8 0],[]⟩ 40 zk zk zk zk) ?_
 intro W base args ds ps hval hA;rw[Tryz.params5]at hA hval
 obtain⟨v0,vs0,d0,ds0,p0,q0,hargs,rfl,rfl,h0,r0⟩:=trodAll_cons hA;obtain⟨v1,vs1,d1,ds1,p1,q1,rfl,rfl,rfl,h1,r1⟩:=trodAll_cons r0;obtain⟨v2,vs2,d2,ds2,p2,q2,rfl,rfl,rfl,h2,r2⟩:=trodAll_cons r1;obtain⟨rfl,rfl,rfl⟩:=trodAll_nil r2;obtain rfl:args = #[v0,v1,v2]:=by cases args;simp_all
 obtain⟨x,rfl,hx⟩:=qpx (hval 0 _ v0 rfl rfl) h0;obtain⟨y,rfl,hy⟩:=qug (hval 1 _ v1 rfl rfl) h1;obtain⟨n,rfl,hn⟩:=qy4 (hval 2 _ v2 rfl rfl) h2 zk;exact qdv hx hy hn
theorem topPrefix_holds:Rows.TopPrefixSaid :=
 OpenClaim.holds_of_wide 5 Tryz.f5 rfl rfl rfl rfl rfl rfl rfl ⟨rfl,rfl,rfl,rfl,rfl⟩ rfl rfl rfl rfl rfl zk Tryz.func5 jf
  (of_decide_eq_true zk) (by unfold Func.isWrapper;first | (rw[if_pos (by decide +kernel)];kernel_rfl) | (rw[if_neg (by decide +kernel)];exact⟨rfl,rfl⟩))
  (λos started H enc _=>q95 os started H enc)
#print axioms topPrefix_holds
end
end Go.Proofs.YtncfcbohiodnnaaGreat
