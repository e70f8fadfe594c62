/- Lemmas for TopScrubs. No condition but those that each states. -/
import Derived.KernelRfl
import Derived.Calls
import Derived.WalkKit
import Derived.Orders
import Derived.Laws.StructEq
import Derived.Laws.Entries
set_option linter.all false
set_option maxHeartbeats 8000000
set_option maxRecDepth 100000
namespace Go.Proofs.YtfekkjbdcdnhlaaGreatDoor
noncomputable section
theorem J.{u}{α:Sort u}{a:α}:a=a:=rfl
theorem I{p:Prop}(h:p:=by omega):p:=h
theorem Ba{p:Prop}(h:p:=by decide):p:=h
theorem DI{p:Prop}(h:p:=by simp):p:=h
theorem kR{α:Sort _}{a b:α}(h:a=b:=by kernel_rfl):a=b:=h
theorem AW.{u}:∀{α:Type u} {l:List α} {L:List (List α)},(l::L).flatten=l++L.flatten:=@List.flatten_cons
theorem Ai.{u,v}:∀{α:Type u} {β:Type v} {f:α->β} {l₁ l₂:List α},List.map f (l₁++l₂)=List.map f l₁++List.map f l₂:=@List.map_append
theorem Bg.{u}:∀{α:Type u} {l₁ l₂:List α},(l₁++l₂).Nodup↔l₁.Nodup/\l₂.Nodup/\∀(a:α),a∈l₁->∀(b:α),b∈l₂->a≠b:=@List.nodup_append
theorem Aj.{u}:∀{α:Type u} {a:α} {s t:List α},a∈s++t↔a∈s\/a∈t:=@List.mem_append
theorem A1.{u}:∀{α:Type u} {i:Nat} {b:α} {xs:Array α},xs[i]? =some b↔∃(h:i<xs.size),xs[i]=b:=@Array.getElem?_eq_some_iff
theorem EJ.{u}:∀{α:Type u} {x:α} {l:List α},[x]++l=x::l:=@List.singleton_append
theorem Ap.{u,v}:∀{α:Type u} {β:Type v} {f:α->β} {a:α} {l:List α},List.map f (a::l)=f a::List.map f l:=@List.map_cons
theorem Bv.{u}:∀{α:Type u} {a:α} {l:List α},(a::l).Nodup↔¬a∈l/\l.Nodup:=@List.nodup_cons
theorem A8.{u,v}:∀{α:Type u} {β:Type v} {b:β} {f:α->β} {l:List α},b∈List.map f l↔∃(a:α),a∈l/\f a=b:=@List.mem_map
theorem Ab.{u}:∀{α:Type u} {b:α} {l:List α} {a:α},a∈b::l↔a=b\/a∈l:=@List.mem_cons
theorem Ah.{u}:∀{c:Prop} {h:Decidable c},¬c->∀{α:Sort u} {t e:α},(if c then t else e)=e:=@if_neg
theorem AQ.{u}:∀{α:Type u} {a:α} {AA bs:List α},a::AA++bs=a::(AA++bs):=@List.cons_append
theorem Av.{u}:∀{α:Type u} {xs:Array α} {i:Nat} {d:α},xs.getD i d=xs[i]?.getD d:=@Array.getD_eq_getD_getElem?
theorem AK:∀{n m:Nat},n.beq m=true->n=m:=@Nat.eq_of_beq_eq_true
theorem BE.{u}:∀{c:Prop} {h:Decidable c},c->∀{α:Sort u} {t e:α},(if c then t else e)=t:=@if_pos
theorem AU.{u}:∀{α:Type u} (AA bs cs:List α),AA++bs++cs=AA++(bs++cs):=@List.append_assoc
theorem AI:∀(a b:Bool),((a&&b)=true)=(a=true/\b=true):=@Bool.and_eq_true
theorem A3.{u}:∀{α:Type u} {a:α} {AA:List α} (bs:List α),a∈AA->a∈AA++bs:=@List.mem_append_left
theorem CN.{u}:∀{α:Type u} {xs:Array α} {i j:Nat},i≠j->∀{a:α},(xs.setIfInBounds i a)[j]? =xs[j]?:=@Array.getElem?_setIfInBounds_ne
theorem AO.{u}:∀{α:Sort u} (a b:α),(bif false then a else b)=b:=@cond_false
theorem AN.{u}:∀{α:Sort u} (a b:α),(bif true then a else b)=a:=@cond_true
theorem AS.{u}:∀{α:Type u} (AA:List α),[]++AA=AA:=@List.nil_append
theorem CY.{u}:∀{α:Type u} {a:α} {l₁ l₂:List α},(l₁++a::l₂).Perm (a::(l₁++l₂)):=@List.perm_middle
theorem Aw.{u}:∀{α:Type u} (y:α) {a:α} {l:List α},a∈l->a∈y::l:=@List.mem_cons_of_mem
theorem AY.{u}:∀{α:Type u} {p:α->Bool} {l:List α},l.all p=true↔∀(x:α),x∈l->p x=true:=@List.all_eq_true
theorem Dq.{u}:∀{α:Type u} {p:α->Bool} {l:List α},l.any p=true↔∃(x:α),x∈l/\p x=true:=@List.any_eq_true
theorem BI:∀(a b:Bool),((a||b)=true)=(a=true\/b=true):=@Bool.or_eq_true
theorem B6.{u}:∀{α:Type u} {xs:Array α} {i:Nat} (h:i<xs.size),xs[i]? =some xs[i]:=@Array.getElem?_eq_getElem
theorem Cm.{u}:∀{α:Type u} {x:α×Nat} {l:List α},x∈l.zipIdx↔l[x.snd]? =some x.fst:=@List.mem_zipIdx_iff_getElem?
theorem EE:∀{listed:Array Bool} {i j:Nat} (d:Bool),i≠j->(listed.setIfInBounds i true).getD j d=listed.getD j d:=@getD_set_ne
theorem EL.{u}:∀{α:Type u} {l₁ l₂:List α},l₁.Sublist l₂->∀(l:List α),(l++l₁).Sublist (l++l₂):=@List.Sublist.append_left
theorem Dl:∀{listed:Array Bool} {i j:Nat},listed.getD j false=true->(listed.setIfInBounds i true).getD j false=true:=@getD_set_true
theorem C9.{u}:∀{α:Sort u} {x:Decidable True} (t e:α),(if True then t else e)=t:=@if_true
theorem Ak:∀{m n:Nat},m∈List.range n↔m<n:=@List.mem_range
theorem Bc:∀{n:Nat},(List.range n).Nodup:=@List.nodup_range
theorem Dw.{u}:∀{α:Type u} {xs:Array α} {i:Nat} {a:α},xs[i]? =some a->a∈xs:=@Array.mem_of_getElem?
theorem BU.{u}:∀{α:Type u} {x:Option α},x.isSome=true↔∃(a:α),x=some a:=@Option.isSome_iff_exists
theorem Ae.{u}:∀{α:Type u} {i:Nat} {a:α} {l:List α},l[i]? =some a↔∃(h:i<l.length),l[i]=a:=@List.getElem?_eq_some_iff
theorem CZ.{u,v}:∀{α:Type u} {β:Type v} (a:α) (f:α->β),Option.map f (some a)=some (f a):=@Option.map_some
theorem AZ.{u}:∀{α:Type u} {l:List α} {i:Nat} (h:i<l.length),l[i]? =some l[i]:=@List.getElem?_eq_getElem
theorem Ac:∀{P:Program} {t:TypeId} {d:TypeDesc},P.underlying t=some d->∀(w:World),Sem.run P (underlying t) w=Result.ok d w:=@run_underlying
theorem AH.{u}:∀{α:Type u} (val aFb:α),(some val=some aFb)=(val=aFb):=@Option.some.injEq
theorem Ag:∀{α β:Type} (P:Program) (w:World) (x:Sem α) (f:α->Sem β),Sem.run P (x>>=f) w=(Sem.run P x w).andThen fun(a:α) (w':World)=>Sem.run P (f a) w':=@Sem.run_bind
theorem Ad:∀{α β:Type} (a:α) (w:World) (f:α->World->Result β),(Result.ok a w).andThen f=f a w:=@Result.andThen_ok
theorem DD:∀(b o n:Nat),({block:=b,off:=o}:Addr).add n=({block:=b,off:=o+n}:Addr):=@Addr.add_lit
theorem Bl.{u}:∀{α:Type u} {xs ys:Array α},xs.toList=ys.toList↔xs=ys:=@Array.toList_inj
theorem BA:∀{α:Type} (P:Program) (w:World) (a:α),Sem.run P (pure a) w=Result.ok a w:=@Sem.run_pure
theorem CP.{u,v}:∀{α:Type u} {β:Type v} {f:α->β},List.map f []=[]:=@List.map_nil
theorem Bf.{u}:∀{α:Type u} {l:List α} {i j:Nat},(List.take i l)[j]? =if j<i then l[j]? else none:=@List.getElem?_take
theorem CG.{u}:∀{α:Type u} {xs:List α} {i j:Nat},(List.drop i xs)[j]? =xs[i+j]?:=@List.getElem?_drop
theorem BL.{u}:∀{α:Type u} {l:List α},List.drop 0 l=l:=@List.drop_zero
theorem CV:∀(n:Nat),n+0=n:=@Nat.add_zero
theorem BJ.{u}:∀{α:Type u} {i:Nat} {l:List α},l.length<=i->List.drop i l=[]:=@List.drop_of_length_le
theorem AP.{u}:∀{α:Type u} {a b:α},a∈[b]↔a=b:=@List.mem_singleton
theorem Bo:∀(b:Bool),((!b)=true)=(b=false):=@Bool.not_eq_true'
theorem DR.{u}:∀{α:Type u} {a:α} {i:Nat} {l:List α},(a::l)[i+1]? =l[i]?:=@List.getElem?_cons_succ
theorem Df:∀(n:Nat),n-0=n:=@Nat.sub_zero
theorem Ci.{u}:∀{α:Type u} {a:α} {l:List α},(a::l)[0]? =some a:=@List.getElem?_cons_zero
theorem Bz.{u}:∀{α:Type u} {a:α} {AA:List α},(a::AA).length=AA.length+1:=@List.length_cons
theorem BM:∀(n:Nat),0+n=n:=@Nat.zero_add
theorem AL:∀{n m:Nat},n.ble m=true->n<=m:=@Nat.le_of_ble_eq_true
theorem Dt.{u}:∀{α:Type u} {xs:Array α},xs.toList.length=xs.size:=@Array.length_toList
theorem BH.{u}:∀{α:Type u} {a:α} {l:List α},a∈a::l:=@List.mem_cons_self
theorem Bq:∀{p:Prop} [inst:Decidable p],p->decide p=true:=@decide_eq_true
theorem BW:∀{p:Prop} [inst:Decidable p],¬p->decide p=false:=@decide_eq_false
theorem D1.{u}:∀{α:Type u} (head:α) (tail:List α) (aE9:α) (aFa:List α),(head::tail=aE9::aFa)=(head=aE9/\tail=aFa):=@List.cons.injEq
theorem Af.{u,v}:∀{α:Type u} {β:Type v} (fst:α) (snd:β) (aFc:α) (aFd:β),((fst,snd)=(aFc,aFd))=(fst=aFc/\snd=aFd):=@Prod.mk.injEq
theorem D2:∀(n m k:Nat),(n+m)*k=n*k+m*k:=@Nat.add_mul
theorem Bi:∀(n:Nat),1*n=n:=@Nat.one_mul
theorem CM.{u}:∀{α:Type u} {l₁ l₂:List α} {i:Nat},List.drop i (l₁++l₂)=List.drop i l₁++List.drop (i-l₁.length) l₂:=@List.drop_append
theorem DZ:∀{n m:Nat} (k:Nat),n<=m->n*k<=m*k:=@Nat.mul_le_mul_right
theorem B9.{u}:∀{α:Type u} {i:Nat} {l:List α},(List.drop i l).length=l.length-i:=@List.length_drop
theorem BG.{u}:∀{α:Type u} {l₁ l₂:List α} {i:Nat},i<l₁.length->(l₁++l₂)[i]? =l₁[i]?:=@List.getElem?_append_left
theorem Ao:∀(n:Nat),n<=n:=@Nat.le_refl
theorem Az.{u}:∀{α:Type u} {a:α},¬a∈[]:=@List.not_mem_nil
theorem Ce:(false=true)=False:=@Bool.false_eq_true
theorem Cc.{u}:∀{α:Sort u} {x:Decidable False} (t e:α),(if False then t else e)=e:=@if_false
theorem Cf.{u}:∀{α:Type u} {x:α} {xs:List α} {i:Nat} {a:α},(x::xs).set (i+1) a=x::xs.set i a:=@List.set_cons_succ
theorem Dx.{u}:∀{α:Type u} {xs:List α} {i:Nat},xs.toArray[i]? =xs[i]?:=@List.getElem?_toArray
theorem Di:∀{a b:Int},0<=a->a.tdiv b=a/b:=@Int.tdiv_eq_ediv_of_nonneg
theorem DJ:∀{a b:Int},0<=a->a.tmod b=a%b:=@Int.tmod_eq_emod_of_nonneg
theorem DW.{u}:∀{α:Type u} (l:List α),l≠[]->∃(x:α),x∈l:=@List.exists_mem_of_ne_nil
theorem Bh.{u}:∀{α:Type u} {p:α->Bool} {AA:List α} {x:α},x∈List.filter p AA↔x∈AA/\p x=true:=@List.mem_filter
theorem BB.{u,v}:∀{α:Type u} {l:List α} {aFe:Type v} {f g:α->aFe},(∀(a:α),a∈l->f a=g a)->List.map f l=List.map g l:=@List.map_congr_left
theorem Dj.{u}:∀{α:Type u} [inst:BEq α] [LawfulBEq α] {a:α} {l₁:List α} (l₂:List α),¬a∈l₁->(l₁++l₂).erase a=l₁++l₂.erase a:=@List.erase_append_right
theorem Dm.{u}:∀{α:Type u} [inst:BEq α] [LawfulBEq α] (a:α) (l:List α),(a::l).erase a=l:=@List.erase_cons_head
theorem D3.{u,v}:∀{α:Type u} {β:Type v} {AA:List α} (f:α->β),(List.map f AA).length=AA.length:=@List.length_map
theorem Dh:∀{a b:Nat},a<b->a%b=a:=@Nat.mod_eq_of_lt
theorem CJ.{u}:∀{α:Type u} {a:α} {n:Nat},List.replicate (n+1) a=a::List.replicate n a:=@List.replicate_succ
theorem A4:∀(a:Int),a<=a:=@Int.le_refl
theorem BR.{u}:∀{α:Type u} {l:List α} {i:Nat} {a:α},l.getD i a=l[i]?.getD a:=@List.getD_eq_getElem?_getD
theorem Cj:∀(n:Nat),0<=n:=@Nat.zero_le
theorem EN.{u}:∀{α:Type u} {a:α},none.getD a=a:=@Option.getD_none
theorem B0.{u}:∀{α:Type u} {a b:α},(some a).getD b=a:=@Option.getD_some
theorem A0.{u}:∀{α:Type u},([]:List (List α)).flatten=[]:=@List.flatten_nil
theorem Am.{u}:∀{α:Type u} (AA:List α),AA++[]=AA:=@List.append_nil
theorem EF.{u}:∀{α:Type u} {a:α} {AA:List α} {i:Nat},List.take (i+1) (a::AA)=a::List.take i AA:=@List.take_succ_cons
theorem A6.{u}:∀{α:Type u} {L₁ L₂:List (List α)},(L₁++L₂).flatten=L₁.flatten++L₂.flatten:=@List.flatten_append
theorem Aq.{u}:∀{α:Type u} {AA bs:List α},(AA++bs).length=AA.length+bs.length:=@List.length_append
theorem Dn.{u}:∀{α:Type u} {i:Nat} {a:α} {l:List α},a∈List.take i l->a∈l:=@List.mem_of_mem_take
theorem B1.{u}:∀{α:Type u} {l:List α} {n:Nat} (h:n<l.length),l[n]∈l:=@List.getElem_mem
theorem CQ.{u}:∀{α:Type u} {i:Nat} {l:List α} (h:i<l.length),List.drop i l=l[i]::List.drop (i+1) l:=@List.drop_eq_getElem_cons
theorem D4:∀{P:Program} (w:World) (d:Nat) (t:TypeId) (k k':IntKind) (a b:Int),P.underlying t=some (TypeDesc.int k')->Sem.run P (Op.equalIn (d+1) t (Value.int k a) (Value.int k b)) w=Result.ok (a==b) w:=@run_equalIn_int
theorem AX.{u}:∀{α:Type u} {i:Nat} {l:List α},l.length<=i->List.take i l=l:=@List.take_of_length_le
theorem BX:∀(p:Prop),(p\/False)=p:=@or_false
theorem A5:∀(bs:ByteArray),bs.toList=bs.data.toList:=@ByteArray.toList_eq
theorem CX.{u}:∀{α:Type u} {l₁ l₂:List α} {i:Nat},(l₁++l₂)[i]? =if i<l₁.length then l₁[i]? else l₂[i-l₁.length]?:=@List.getElem?_append
theorem Ar.{u}:∀{α:Type u} {l₁ l₂:List α} {i:Nat},i<=l₁.length->List.take i (l₁++l₂)=List.take i l₁:=@List.take_append_of_le_length
theorem CL.{u}:∀{α:Type u} [inst:BEq α] [LawfulBEq α] {a:α} {l:List α},a∈l->l.Perm (a::l.erase a):=@List.perm_cons_erase
theorem Be.{u}:∀{α:Type u} [inst:BEq α] [LawfulBEq α] {a b:α} {l:List α},a≠b->(a∈l.erase b↔a∈l):=@List.mem_erase_of_ne
theorem CO.{u}:∀{α:Type u} (p:α->Bool) (l:List α),(List.filter p l++List.filter (fun(x:α)=> !p x) l).Perm l:=@List.filter_append_perm
theorem Bm.{u}:∀{α:Type u} {l₁ l₂:List α} (t₁:List α),l₁.Perm l₂->(l₁++t₁).Perm (l₂++t₁):=@List.Perm.append_right
theorem B8.{u}:∀{α:Type u} {l₁ l₂:List α},l₁.Nodup->l₂.Nodup->(l₁.Perm l₂↔∀(a:α),a∈l₁↔a∈l₂):=@List.perm_ext_iff_of_nodup
theorem BO:∀{a:Int},0<=a->∃(n:Nat),a=↑n:=@Int.eq_ofNat_of_zero_le
theorem BP.{u}:∀{α:Type u} {i:Nat} {l:List α},(List.take i l).length=min i l.length:=@List.length_take
theorem DT.{u}:∀{α:Type u} {l₁ l₂:List α} {i:Nat},i<=l₁.length->List.drop i (l₁++l₂)=List.drop i l₁++l₂:=@List.drop_append_of_le_length
theorem DN.{u}:∀{α:Type u} {s t:List α} (i:Nat) (x:α),s.length<=i->(s++t).set i x=s++t.set (i-s.length) x:=@List.set_append_right
theorem EU.{u}:∀{α:Type u} {i j:Nat} {l:List α},List.drop i (List.drop j l)=List.drop (j+i) l:=@List.drop_drop
theorem EQ.{u}:∀{α:Type u} {l:List α} {i:Nat} {a:α},l[i]? =some a->a∈l:=@List.mem_of_getElem?
theorem C4.{u}:∀{α:Type u} {l₁ l₂:List α} {i:Nat},List.take i (l₁++l₂)=List.take i l₁++List.take (i-l₁.length) l₂:=@List.take_append
theorem Dk:∀(n:Nat),n*1=n:=@Nat.mul_one
theorem EG:∀(n:Nat),n<=n.succ:=@Nat.le_succ
theorem EH.{u,v}:∀{α:Type u} {β:Type v} {l:List α} {a:α} {f:α->β},a∈l->f a∈List.map f l:=@List.mem_map_of_mem
theorem CS.{u}:∀{α:Type u} (i:Nat) (l:List α),List.take i l++List.drop i l=l:=@List.take_append_drop
theorem BK.{u}:∀{α:Type u} {b:α} (AA:List α) {bs:List α},b∈bs->b∈AA++bs:=@List.mem_append_right
theorem CC.{u}:∀{α:Type u} {l₁ l₂:List α},(l₁++l₂).Perm (l₂++l₁):=@List.perm_append_comm
theorem ER.{u}:∀{α:Type u} {a:α} {i:Nat} {l:List α},a∈List.drop i l->a∈l:=@List.mem_of_mem_drop
theorem D6.{u}:∀{α:Type u} {a b:α} {n:Nat},b∈List.replicate n a↔n≠0/\b=a:=@List.mem_replicate
theorem Ax.{u}:∀{α:Type u} [inst:BEq α] {a:α} {l₁ l₂:List α},List.count a (l₁++l₂)=List.count a l₁+List.count a l₂:=@List.count_append
theorem Do.{u}:∀{α:Type u},([]:List α).Nodup:=@List.nodup_nil
theorem EI.{u}:∀{α:Type u} (l:List α),l.Perm l:=@List.Perm.refl
theorem BF.{u}:∀{α:Type u} {l₁ l₂:List α} {i:Nat},l₁.length<=i->(l₁++l₂)[i]? =l₂[i-l₁.length]?:=@List.getElem?_append_right
theorem Db.{u}:∀{α:Type u} [inst:BEq α] {a b:α} {l:List α},List.count a (b::l)=List.count a l+if(b==a)=true then 1 else 0:=@List.count_cons
theorem EK.{u}:∀{α:Type u} {n:Nat} {a:α},(List.replicate n a).length=n:=@List.length_replicate
end
end Go.Proofs.YtfekkjbdcdnhlaaGreatDoor
