/- Lemmas for TopScrubs. No condition but those that each states. -/
import Derived.Test.YtfekkjbdcdnhlaaGreatDoorRows
import Derived.Test.YtfekkjbdcdnhlaaGreatDoorTie
import Derived.Test.YtfekkjbdcdnhlaaGreatDoorCards
import Derived.LaidMore
import Derived.Lay
import Derived.SevenTiedAt
import Derived.Stop.Joined
import Derived.Test.YtfekkjbdcdnhlaaGreatDoorMbp
import Derived.Test.YtfekkjbdcdnhlaaGreatDoorMbq
set_option linter.all false
set_option maxHeartbeats 8000000
set_option maxRecDepth 100000
namespace Go.Proofs.YtfekkjbdcdnhlaaGreatDoor
noncomputable section
section
open Go.ChangeShapes Go.WideShapes Go.ChangeAt Go.RowKit
theorem own:ownKnob Tryz.prog.godebug=none:=kR
theorem laidOut:laidOutB Tryz.prog=true:=kR
theorem hread:∀t∈Tryz.f3.params.toList,Tryz.prog.readableRec t=true/\t<Tryz.prog.types.size:=by
 rw[Tryz.params3];intro t ht;simp at ht;rcases ht with rfl|rfl
 ·exact⟨kR,of_decide_eq_true kR⟩
 ·exact⟨kR,of_decide_eq_true kR⟩
theorem yq{AG:World}{base:Nat}{cs:Array Value}(h:Value.okWide Tryz.prog AG .any base 27 (.agg cs))(i:Nat)(hi:i=34\/i=35)(a:Addr)(len cap:Nat)(hc:cs.toList[i]? =some (.slice (some a) len cap)):a.spot=none:=by
 simp only[Value.okWide,Tryz.underlying27]at h;obtain⟨cs',e,hsz,ts,hts,_,hall⟩:=h;cases e;obtain⟨u,hu,hok⟩:=hall i _ (by simpa using hc);have ht:Tryz.prog.cellTypes Tryz.prog.depth 27=some ([3,4]++List.replicate 32 5++[24,25]):=kR;rw[ht]at hts;cases hts;rcases hi with rfl|rfl
 ·have hu':u=24:=by have:(([3,4]++List.replicate 32 5++[24,25]:List Nat))[34%([3,4]++List.replicate 32 5++[24,25]:List Nat).length]? =some 24:=rfl;exact Option.some.inj (hu.symm.trans this)
  subst hu';simp only[Cell.okWide,Cell.ok,Tryz.underlying24]at hok;exact hok.2.2.2.1
 ·have hu':u=25:=by have:(([3,4]++List.replicate 32 5++[24,25]:List Nat))[35%([3,4]++List.replicate 32 5++[24,25]:List Nat).length]? =some 25:=rfl;exact Option.some.inj (hu.symm.trans this)
  subst hu';simp only[Cell.okWide,Cell.ok,Tryz.underlying25]at hok;exact hok.2.2.2.1
theorem yr{AG:World}{base:Nat}{a:Addr}{len cap:Nat}(h:Value.okWide Tryz.prog AG .any base 28 (.slice (some a) len cap)):a.spot=none:=by simp only[Value.okWide,Cell.okWide,Cell.ok,Tryz.underlying28]at h;exact h.2.2.2.1
theorem aEX{AG:World}{v0 v1:Value}{H:Type}{enc:TypeId×Value->H}{d0 d1:DataW H}{p0 p1:List MemPlace}{base:Nat}(h0:DataW.Trod enc Tryz.prog AG 0 (fun _=>true) true 27 v0 d0 p0)(h1:DataW.Trod enc Tryz.prog AG 0 (fun _=>true) true 28 v1 d1 p1)(k0:Value.okWide Tryz.prog AG .any base 27 v0)(k1:Value.okWide Tryz.prog AG .any base 28 v1):
 Calls Tryz.prog 3 #[v0,v1] AG fun e W'=>e=.returned (.bool true)/\Below AG.heap.size AG W':=by
 obtain⟨cs,rfl⟩:∃cs,v0=.agg cs:=by simp only[Value.okWide,Tryz.underlying27]at k0;obtain⟨cs,e,_⟩:=k0;exact⟨cs,e⟩
 obtain⟨f0,e0⟩:=h0;obtain⟨f1,e1⟩:=h1;obtain⟨n0,ib,M,dp,ep,dl,dc,el,ec,D,hcs,g0,g1,g2,g3,g4,g5,g6,g7⟩:=Sep.nH (cs:=cs.toList) ⟨f0,_,e0⟩ (fun i hi a len cap hc=>yq k0 i hi a len cap hc);obtain⟨L,lv,hlv,l1,l2,l3⟩:=Sep.nE ⟨f1,_,e1⟩ (fun a len cap e=>by
  have hv:v1=.slice (some a) len cap:=by
   cases v1<;>simp[Value.cells]at e;case agg l=>exfalso;simp only[Value.okWide,Cell.okWide,Cell.ok,Tryz.underlying28]at k1
   all_goals simp[e]
  subst hv;exact yr k1)
 have hv1:v1=lv:=by
  cases v1 with
  |agg l=>simp only[Value.okWide,Cell.okWide,Cell.ok,Tryz.underlying28]at k1
  |_=>simpa[Value.cells]using hlv
 subst hv1;have hcs':Value.agg cs=.agg (Sep.setW n0 ib M (.slice dp dl dc) (.slice ep el ec)).toArray:=by
  congr 1
  exact Bl.1 (by simpa using hcs)
 rw[hcs'];have h:=Sep.aEW (old:=Sep.allB AG) (ib:=ib) g0 g1 g2 g3 g4 g6 l1 l2 g5 g7 l3;refine(h (Sep.mq AG) [] AG (Sep.mr AG)).mono ?_;rintro e W' ⟨_,S',hs,rfl,rfl⟩;exact⟨rfl,Sep.my hs⟩
abbrev Zt:List (String×DataW Unit):=Rows.topScrubsRow.laid
def yt:Value:=.agg (([.int .i64 0,.bool false]:List Value)++(List.replicate 32 (Value.int .u8 0))++([.slice none 0 0,.slice none 0 0]:List Value)).toArray
set_option maxRecDepth 100000 in
theorem lifted(os:Os)(started:os.Started)(H:Type)(enc:TypeId×Value->H):
 ReturnsInHanded {} Tryz.checked os 3 .any (fun w args=>(Rows.topScrubsSpec.pre enc Tryz.prog Tryz.f3 Rows.topScrubsRow.domain false w args/\laidMetH Tryz.prog Zt w)/\sizedMet enc Tryz.prog Tryz.f3 (OpenSpec.ofChange Rows.topScrubsSpec) false w args)
  (Rows.topScrubsSpec.post enc Tryz.prog Tryz.f3 false true false false):=by
 refine returnsInHanded_of_change_and (C:=Tryz.checked) (X:=fun w _=>laidMetH Tryz.prog Zt w) (fun _ _ _ hh h=>h.of_heap hh) own started kR Tryz.func3
  (ChangeSpec.witness_shaped (enc:=enc) (C:=Tryz.checked) (os:=os) (X:=fun w _=>laidMetH Tryz.prog Zt w) false (World.laidAll Tryz.prog os Zt) #[yt,.slice none 0 0] 8 (World.laidAll_os _ _ _)
   (World.shaped_of_ZipB kR kR) kR kR kR
   (by rw[MakeChecks.laidMetH_plain _ _ _ kR];exact laidMet_laidAll _ kR kR)) ?_
 intro AG base args ds gs before hval0 hW _ _ _ _;have hval:∀(j:Nat) t v,Tryz.f3.params[j]? =some t->args[j]? =some v->Value.okWide Tryz.prog AG .any base t v:=hval0;have hW':=hW;obtain⟨p,q,hA0,hV,rfl,_,_⟩:=hW;have hA:DataW.TrodAll enc Tryz.prog AG 0 (fun _=>true) true Tryz.f3.params.toList args.toList ds p:=hA0;have hA1:=hA;rw[Tryz.params3]at hA hval;obtain⟨v0,vs0,d0,ds0,p0,q0,hargs,rfl,rfl,h0,r0⟩:=trodAll_cons hA;obtain⟨v1,vs1,d1,ds1,p1,q1,rfl,rfl,rfl,h1,r1⟩:=trodAll_cons r0;obtain⟨rfl,rfl,rfl⟩:=trodAll_nil r1;obtain rfl:args= #[v0,v1]:=by cases args;simp_all
 obtain⟨rfl,rfl⟩:=trodVars_none hV;clear hA0 hval0;simp only[Am]at hW' hA1;refine(aEX h0 h1 (hval 0 27 v0 J J) (hval 1 28 v1 J J)).mono fun e W' ⟨he,hg⟩=> ?_
 subst he;exact⟨_,rfl,de hW' hA1 J J (fun _=>rfl) J Tryz.underlying4 laidOut hread hg⟩
end
end
end Go.Proofs.YtfekkjbdcdnhlaaGreatDoor
