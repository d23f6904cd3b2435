/- TopOnTime: whatever the input, where the document's checks let it pass no boundary is late, and a partition whose cycles fit its Cap, with budget enough in all modes, misses no deadline and overruns no cost. No condition. -/
import Derived.Test.YtncfcbohiodnnaaGreatWX38
import Derived.Test.YtncfcbohiodnnaaGreatTopOnTimeFactsC
set_option maxRecDepth 100000
namespace Go.Proofs.YtncfcbohiodnnaaGreat
section
open Go.ChangeShapes Go.WideShapes Go.ChangeAt Go.RowKit Go.Joins
section
variable{P:Program}{H:Type}{enc:TypeId×Value->H}{W:World}
theorem jU{n:Int}(h:(Lit.int .u8 n).wf=true):0<=n/\n<256:=by have h1:IntKind.u8.min=0:=rfl;have h2:IntKind.u8.max=255:=rfl;simp only[Lit.wf,Z6,Zt,h1,h2]at h;omega
theorem jS{r:Reach}{base:Nat}{t e:TypeId}(ht:P.underlying t=some (.slice e))(he:P.underlying e=some (.int .u8))(hC:P.cellsOf e=1){v:Value}{d:DataW H}{p:List MemPlace}(hv:Value.okWide P W r base t v)
 (h:DataW.Trod enc P W 0 (λ_=>true) true t v d p):∃A n c l,v=.slice A n c/\SlB W A n c l:=by obtain⟨a,len,cap,rfl⟩:=okWide_slice ht hv;obtain⟨fuel,hf⟩:=h;have h:DataW.trod enc P W 0 (λ_=>true) true fuel t [.slice a len cap]=some (d,p):=by{simpa[Value.cells] using hf};rcases open_ints ht he hC h with⟨hcs,_⟩|⟨a,len,cap,zs,hcs,_,hl,hm,hz,_,hcell,hwz⟩;{cases hcs;exact⟨none,0,0,[],rfl,SlB.nil W⟩};{cases hcs;have hz':zs.length=cap:=by{simpa using hz};refine⟨some a,len,cap,(zs.take len).map λz=>z.toNat.toUInt8,rfl,⟨⟨by simp;omega,hl,hm,(λe=>by cases e),λhn=>?_⟩,by simp;omega⟩⟩;have h0:=hcell 0 zo;obtain⟨b,o,h3⟩:=a;have h1:h3=none:=by{simpa[Addr.add] using World.cell?_spot h0};subst h1;refine⟨b,o,rfl,?_,λj u hu=>?_⟩;{have:=World.block_lt_of_cell? W _ h0;simpa[Addr.add] using this};{have hj:j<len:=by{have:=(ZL.1 hu).1;simp at this;omega};have hc:=hcell j zo;have h2:(⟨b,o,none⟩:Addr).add j=⟨b,o+j,none⟩:=q11 b o j;rw[h2]at hc;rw[hc,<- hu];have hw:=jU (hwz _ (ZO (show j<zs.length from zo)));have hb:bv (zs[j]'zo).toNat.toUInt8=.int .u8 (zs[j]'zo):=by{have:((zs[j]'zo).toNat.toUInt8).toNat=(zs[j]'zo).toNat:=by{show(UInt8.ofNat _).toNat=_;rw[UInt8.toNat_ofNat'];omega};unfold bv;rw[this,Int.toNat_of_nonneg hw.1]};rw[List.map_map,X5,QX,Z1 hj,Zo (show j<zs.length from zo),List.getD,Zo (show j<zs.length from zo)];exact Zy some hb.symm}}
end
theorem jg(os:Os)(started:os.Started)(H:Type)(enc:TypeId×Value->H) :
  ReturnsInHanded {} Tryz.checked os 3 .any (Rows.topOnTimeSpec.pre6 enc Tryz.prog Tryz.f3 Rows.topOnTimeRow.domain false) (Rows.topOnTimeSpec.post enc Tryz.prog Tryz.f3 false true false false):=by
 refine qbp 3 Tryz.f3 Rows.topOnTimeSpec os started H enc rfl Tryz.func3 zk zk zk zk
  (λds hl=>by
   have h3:ds.length=3:=hl.trans zk
   match ds,h3 with
   | [d1,d2,d3],_=>rfl)
  (ChangeSpec.witness6 (enc:=enc) (C:=Tryz.checked) false ⟨#[],#[.agg #[nS,nS,nS,nS,nS,ii 0,ii 0,ii 0,ii 0,ii 0,ii 0,nS,nS],.agg #[nS,nS],nS],[]⟩ 40 zk zk zk zk) ?_
 intro W base args ds ps hval hA;rw[Tryz.params3]at hA hval;obtain⟨v0,vs0,d0,ds0,p0,q0,hargs,rfl,rfl,h0,r0⟩:=trodAll_cons hA;obtain⟨v1,vs1,d1,ds1,p1,q1,rfl,rfl,rfl,h1,r1⟩:=trodAll_cons r0;obtain⟨v2,vs2,d2,ds2,p2,q2,rfl,rfl,rfl,h2,r2⟩:=trodAll_cons r1;obtain⟨rfl,rfl,rfl⟩:=trodAll_nil r2;obtain rfl:args = #[v0,v1,v2]:=by{cases args;simp_all};obtain⟨x,rfl,hx⟩:=qpx (hval 0 _ v0 rfl rfl) h0;obtain⟨y,rfl,hy⟩:=qug (hval 1 _ v1 rfl rfl) h1;obtain⟨A,n,c,l,rfl,hz⟩:=jS (t:=38) (e:=5) zk zk zk (hval 2 _ v2 rfl rfl) h2;obtain rfl:=hz.2;exact w_ hx hy hz
theorem topOnTime_holds:Rows.TopOnTimeSaid :=
 OpenClaim.holds_of_wide 3 Tryz.f3 rfl rfl rfl rfl rfl rfl rfl ⟨rfl,rfl,rfl,rfl,rfl⟩ rfl rfl rfl rfl rfl zk Tryz.func3 jf
  (Xp zk) (by unfold Func.isWrapper;first|(rw[Z1 (by decide+kernel)];kernel_rfl)|(rw[Z0 (by decide+kernel)];exact⟨rfl,rfl⟩))
  (λos started H enc _=>jg os started H enc)
#print axioms topOnTime_holds
end
end Go.Proofs.YtncfcbohiodnnaaGreat
