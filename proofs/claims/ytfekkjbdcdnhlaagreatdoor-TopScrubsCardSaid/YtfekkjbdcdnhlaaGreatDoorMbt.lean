/- A granule that comes back to the host is noughts, and none is the host's and a realm's at once: the tied statement TopScrubs. No condition. -/
import Derived.Test.YtfekkjbdcdnhlaaGreatDoorMbs
set_option linter.all false
set_option maxHeartbeats 8000000
set_option maxRecDepth 100000
namespace Go.Proofs.YtfekkjbdcdnhlaaGreatDoor
noncomputable section
section
open Go.ChangeShapes Go.WideShapes Go.ChangeAt Go.RowKit
theorem k1:Rows.topScrubsRow.wfByText (OpenSpec.ofChange Rows.topScrubsSpec)=true:=kR
theorem k2:Tryz.pinned.checked.prog.mainIs=some (true,"4e6437ec516427830985439d736836bde32b375019343cf9f72dc231d419c503".toList):=kR
theorem k3:true=Tryz.prog.looks []:=kR
theorem k4:([27,28].all fun u=> !Tryz.prog.wantsStandIn u)=true:=kR
theorem k5:false=Rows.topScrubsRow.goesBy Tryz.pinned.checked.prog:=kR
theorem proved:Rows.TopScrubsCardSaid:=
 Claim7.holds_tied_plain_at .later [] [.data,.data,.data,.data,.sentinel,.sentinel,.pinned] true (true,"4e6437ec516427830985439d736836bde32b375019343cf9f72dc231d419c503") true said (fun _ h=>by cases h) k1 (fun _ h=>by cases h) topScrubs_row_tie rfl ⟨rfl,rfl⟩ k2 rfl
  (fun f fn hf hfn=>by
   obtain rfl:f=3:=Option.some.inj (SE.symm.trans hf)|>.symm;obtain rfl:fn=Tryz.f3:=(Option.some.inj (Tryz.func3.symm.trans hfn)).symm;exact⟨k3,fun j t ht=>by
    rw[Tryz.params3]at ht;have hm:t∈[27,28]:=by simpa using Dw ht
    exact(show Tryz.prog.wantsStandIn t=false by simpa using AY.1 k4 t hm)⟩)
  k5
end
end
end Go.Proofs.YtfekkjbdcdnhlaaGreatDoor
