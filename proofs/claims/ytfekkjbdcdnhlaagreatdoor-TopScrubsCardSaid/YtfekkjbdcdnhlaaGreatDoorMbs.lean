/- Lemmas for TopScrubs. No condition but those that each states. -/
import Derived.Test.YtfekkjbdcdnhlaaGreatDoorMbr
set_option linter.all false
set_option maxHeartbeats 8000000
set_option maxRecDepth 100000
namespace Go.Proofs.YtfekkjbdcdnhlaaGreatDoor
noncomputable section
section
open Go.ChangeShapes Go.WideShapes Go.ChangeAt Go.RowKit
theorem aEY{a b:Bool}(h:a=true)(k:b=true):(a&&b)=true:=by rw[h,k];rfl
theorem j1:(Rows.topScrubsRow.inPlace==Tryz.prog.inPlace 3)=true:=kR
theorem j2:(Rows.topScrubsRow.unfollowed==Tryz.prog.unfollowed 3)=true:=kR
theorem j3:(Rows.topScrubsRow.recurses==Tryz.prog.recurses 3)=true:=kR
theorem j4:(Rows.topScrubsRow.named==Tryz.prog.varsNamed 3)=true:=kR
theorem j5:mapsRowed Tryz.prog=true:=kR
theorem j6:(Rows.topScrubsRow.plainKeys==Tryz.prog.plainKeys)=true:=kR
theorem j7:Tryz.prog.stopsHeard=true:=kR
theorem j8:Tryz.prog.mayEnter=true:=kR
theorem closed:joinedFacts Tryz.prog 3 Tryz.f3 Rows.topScrubsSpec Rows.topScrubsRow=true:=by
 unfold joinedFacts
 repeat' (with_reducible apply aEY)
 all_goals first|with_reducible exact laidOut|with_reducible exact j1|with_reducible exact j2|with_reducible exact j3|with_reducible exact j4|with_reducible exact j5|with_reducible exact j6|with_reducible exact j7|with_reducible exact j8|kernel_rfl
theorem SE:Tryz.prog.funcNamed "anchorite/anchoritetop.TopScrubs"=some 3:=kR
theorem said:Rows.TopScrubsSaid:=
 OpenClaim.holds_of_wide 3 Tryz.f3 J J J J J J J ⟨rfl,rfl,rfl,rfl,rfl⟩ J J J J J SE Tryz.func3 closed
  (of_decide_eq_true kR) (by unfold Func.isWrapper;first|(rw[BE (by decide+kernel)];kernel_rfl)|(rw[Ah (by decide+kernel)];exact⟨rfl,rfl⟩))
  (fun os started H enc _=>lifted os started H enc)
end
end
end Go.Proofs.YtfekkjbdcdnhlaaGreatDoor
