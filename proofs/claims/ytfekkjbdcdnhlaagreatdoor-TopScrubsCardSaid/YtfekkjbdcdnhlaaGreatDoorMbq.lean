/- Lemmas for TopScrubs. No condition but those that each states. -/
import Derived.ProofKit
import Derived.OpenShut
import Derived.Lib.Hide
import Derived.Deep.QuietTactic
import Derived.BigQuiet
import Derived.Test.YtfekkjbdcdnhlaaGreatDoorMaa
set_option linter.all false
set_option maxHeartbeats 8000000
set_option maxRecDepth 100000
namespace Go.Proofs.YtfekkjbdcdnhlaaGreatDoor
noncomputable section
section
open Go.ChangeShapes Go.WideShapes Go.ChangeAt Go.RowKit
section
variable{P:Program}
end
section
variable{P:Program} (w:World)
theorem GV(d:Nat){e:TypeId}{k:IntKind}(he:P.underlying e=some (.int k))(xs ys:List Int):∀(m i:Nat),i+m<=xs.length->i+m<=ys.length->
 (Op.eqItems (d+1) e 1 (xs.map (Value.int k)).toArray (ys.map (Value.int k)).toArray (List.range' i m)).run P w=.ok (decide ((xs.drop i).take m=(ys.drop i).take m)) w
 |0,i,_,_=>by simp[Op.eqItems]
 |m+1,i,h1,h2=>by
  have ih:=GV d he xs ys m (i+1) I I;have px:∀zs:List Int,i<zs.length->(part e (zs.map (Value.int k)).toArray (i*1)).run P w=.ok (.int k (zs.getD i 0)) w:=fun zs h=>by simp[part,isAgg,Ac he,AZ h]
  have dx:∀zs:List Int,i<zs.length->(zs.drop i).take (m+1)=zs.getD i 0::(zs.drop (i+1)).take m:=fun zs h=>by rw[CQ h,EF];simp[AZ h]
  rw[List.range'_succ];simp only[Op.eqItems,Ag,px xs I,px ys I,Ad,D4 w d e k k _ _ he,Sem.run_ite,ih,BA];rw[dx xs I,dx ys I];generalize xs.getD i 0=a;generalize ys.getD i 0=b;by_cases hq:a=b<;>simp[hq]
theorem KG(d:Nat){t e:TypeId}{n:Nat}{i:TypeInfo}{k:IntKind}(ht:P.underlying t=some (.array n e))(hi:P.info? e=some i)(hc:P.cellsOf e=1)(he:P.underlying e=some (.int k))
 (xs ys:List Int) (hx:xs.length=n) (hy:ys.length=n):
 (Op.equalIn (d+2) t (.agg (xs.map (Value.int k)).toArray) (.agg (ys.map (Value.int k)).toArray)).run P w=.ok (decide (xs=ys)) w:=by
 rw[run_equalIn_array w (d+1) _ _ ht hi,hc,List.range_eq_range',GV w d he xs ys n 0 I I];simp[AX,hx,hy]
end
theorem Below.next{B:Nat}{a w w1:World}(h:Below B a w)(hB:B<=w.heap.size)(k:Below w.heap.size w w1):Below B a w1:=h.trans (k.mono hB)
section
variable{H:Type} {enc:TypeId×Value->H} {P:Program}
theorem S7{f:Func}{s:ChangeSpec}{apart fresh handsOn again:Bool}{AG W':World}{args:Array Value}{v:Value}{ds gs:List (DataW H)}{before pa pv:List MemPlace}
 (hW:DataW.Whole enc P f.params.toList s.vars apart AG args.toList ds gs before)
 (hres:∀(b:Nat) (sp:Nat->Bool) (hd:Bool),DataW.TrodAll enc P W' b sp hd f.resultTypes.toList (v.resultList f.resultTypes.size) (s.fn H (ds++gs)).results [])
 (hargs:∀sp:Nat->Bool,(∀p∈before,sp p.block=true)->DataW.TrodAll enc P W' 0 sp true f.params.toList args.toList (s.fn H (ds++gs)).args pa)
 (hvars:∀sp:Nat->Bool,(∀p∈before,sp p.block=true)->DataW.TrodVars enc P W' sp s.vars (s.fn H (ds++gs)).vars pv)
 (hps:before=pa++pv) (hb:Below AG.heap.size AG W')
 (hok:∀(j:Nat) (t:TypeId) (r:Value),f.resultTypes[j]? =some t->(v.resultList f.resultTypes.size)[j]? =some r->Value.okWide P W' .any 0 t r):
 s.post enc P f apart fresh handsOn again AG args v W':=by
 have hlt:∀p∈before,p.block<AG.heap.size:=fun p hp=>hW.lt p hp
 have hold:∀p∈before,(fun b=>decide (b<AG.heap.size)) p.block=true:=fun p hp=>by simpa using hlt p hp
 refine⟨ds,gs,before,[],pa,pv,hW,hres _ _ _,hargs _ hold,hvars _ hold,World.keptBut_mono (fun p hp=>⟨hp,?_⟩) (hb.frame (·∈before)),fun _=> ?_⟩
 ·rw[hps,Aj]at hp;exact Or.inr hp
 ·obtain⟨_,_,_,_,_,hz,hn⟩:=hW;refine⟨hok,_,_,([]++pa)++pv,⟨[]++pa,pv,trodAll_append (hargs _ (fun _ _=>rfl)) (hres _ _ _),hvars _ (fun _ _=>rfl),rfl,?_,?_⟩,?_⟩
  ·intro b off hp;have hin:MemPlace.cell b off∈before:=by rw[hps];simpa using hp
   rw[hb.frozen (hlt _ hin)];exact hz b off hin
  ·intro ha;have:=hn ha;rw[hps]at this;simpa using this
  ·intro p hp _;rw[hps];simpa using hp
end
section
variable{H:Type} {enc:TypeId×Value->H} {P:Program}
theorem NK(hl:laidOutB P=true){AG W':World}{sp:Nat->Bool}(hb:Below AG.heap.size AG W'):∀(ts:List TypeId) (vs:List Value) (ds:List (DataW H)) (ps:List MemPlace),
 (∀t∈ts,P.readableRec t=true/\t<P.types.size)->DataW.TrodAll enc P AG 0 (fun _=>true) true ts vs ds ps->(∀p∈ps,p.block<AG.heap.size)->(∀p∈ps,sp p.block=true)->
 DataW.TrodAll enc P W' 0 sp true ts vs ds ps
 |[],vs,ds,ps,_,h,_,_=>by obtain⟨rfl,rfl,rfl⟩:=trodAll_nil h;exact trodAll_mk0
 |t::ts,vs,ds,ps,hr,h,hlt,hs=>by obtain⟨v,vs',d,ds',p,q,rfl,rfl,rfl,h0,h1⟩:=trodAll_cons h;have ih:=NK hl (sp:=sp) hb ts vs' ds' q (fun t ht=>hr t (by simp[ht])) h1 (fun x hx=>hlt x (by simp[hx])) (fun x hx=>hs x (by simp[hx]));exact trodAll_cons_mk (WideElems.Trod_stays hl (hr t DI).1 (hr t DI).2 h0 (fun x hx=>hb.same (hlt x (by simp[hx]))) (fun x hx=>hs x (by simp[hx]))) ih
theorem de{f:Func}{s:ChangeSpec}{apart fresh handsOn again:Bool}{AG W':World}{args:Array Value}{ds:List (DataW H)}{before:List MemPlace}{tb:TypeId}
 (hW:DataW.Whole enc P f.params.toList s.vars apart AG args.toList ds [] before) (hA:DataW.TrodAll enc P AG 0 (fun _=>true) true f.params.toList args.toList ds before)
 (hres:(s.fn H (ds++[])).results=[.lit (.bool true)]) (hargs:(s.fn H (ds++[])).args=ds) (hvars:∀sp:Nat->Bool,DataW.TrodVars enc P W' sp s.vars (s.fn H (ds++[])).vars [])
 (hr:f.resultTypes= #[tb]) (hu:P.underlying tb=some .bool) (hl:laidOutB P=true) (hread:∀t∈f.params.toList,P.readableRec t=true/\t<P.types.size) (hb:Below AG.heap.size AG W'):
 s.post enc P f apart fresh handsOn again AG args (.bool true) W':=by
 have hlt:∀p∈before,p.block<AG.heap.size:=fun p hp=>by simpa using hW.lt p hp
 refine S7 (pa:=before) (pv:=[]) hW ?_ ?_ (fun sp _=>hvars sp) DI hb ?_
 ·intro b sp hd;rw[hres,hr];exact trodAll_cons_mk (shut_bool hu _) trodAll_mk0
 ·intro sp hsp;rw[hargs];exact NK hl hb _ _ _ _ hread hA hlt hsp
 ·exact ok_one hr J (okWide_bool_mk hu _)
end
section
variable{H:Type} {enc:TypeId×Value->H} {P:Program} {w:World} {base:Nat} {spare:Nat->Bool} {held:Bool}
end
end
end
end Go.Proofs.YtfekkjbdcdnhlaaGreatDoor
