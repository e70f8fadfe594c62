/- Lemmas for TopScrubs. No condition but those that each states. -/
import Derived.Laws.CopyRow
import Derived.Laws.Cells
import Derived.Test.YtfekkjbdcdnhlaaGreatDoorMaa
set_option linter.all false
set_option maxHeartbeats 8000000
set_option maxRecDepth 100000
namespace Go.Proofs.YtfekkjbdcdnhlaaGreatDoor.Sep
noncomputable section
section
abbrev CH:=Nat×Obj
abbrev A2:=List (List CH)
structure Om where
 os:Os
 tape:Nat->Question->Nat
 output:Array (Nat×ByteArray)
 base:Nat
 inv:Act->Prop:=fun a=>a.defers=[]
structure Ds (A:Om) (w:World) (S:A2):Prop where
 os:w.os=A.os
 tape:w.tape=A.tape
 output:w.output=A.output
 size:A.base<=w.heap.size
 nodup:(S.flatten.map (·.1)).Nodup
 has:∀x∈S.flatten,w.heap[x.1]? =some x.2
variable{A:Om}{w:World}{S T:A2}
theorem Ds.perm(h:Ds A w S)(p:S.Perm T):Ds A w T:=⟨h.os,h.tape,h.output,h.size,(p.flatten.map _).nodup_iff.1 h.nodup,fun x hx=>h.has x (p.flatten.mem_iff.2 hx)⟩
theorem Ds.drop{c:List CH}(h:Ds A w (c::S)):Ds A w S:=⟨h.os,h.tape,h.output,h.size,by have:=h.nodup;simp only[AW,Ai]at this;exact(Bg.1 this).2.1,fun x hx=>h.has x (by simp only[AW,Aj];exact .inr hx)⟩
theorem Ds.lt(h:Ds A w S){x:CH}(hx:x∈S.flatten):x.1<w.heap.size:=(A1.1 (h.has x hx)).1
theorem Ds.drops{C:A2}(h:Ds A w (C++S)):Ds A w S:=by
 induction C with
 |nil=>exact h
 |cons c C ih=>exact ih h.drop
theorem Ds.tQ(h:Ds A w S)(i:Act->Prop):Ds {A with inv:=i} w S:=⟨h.os,h.tape,h.output,h.size,h.nodup,h.has⟩
theorem Ds.On{i:Act->Prop}(h:Ds {A with inv:=i} w S):Ds A w S:=⟨h.os,h.tape,h.output,h.size,h.nodup,h.has⟩
theorem Ds.new(h:Ds A w S)(o:Obj):Ds A {w with heap:=w.heap.push o} ([(w.heap.size,o)]::S):=by
 refine⟨h.os,h.tape,h.output,by have:=h.size;simp;omega,?_,?_⟩
 ·simp only[AW,EJ,Ap,Bv];refine⟨fun hm=> ?_,h.nodup⟩;obtain⟨x,hx,he⟩:=A8.1 hm;have:=h.lt hx;omega
 ·intro x hx;simp only[AW,EJ,Ab]at hx;rcases hx with rfl|hx
  ·simp
  ·have:=h.lt hx;show(w.heap.push o)[x.1]? =_;rw[Array.getElem?_push,Ah I];exact h.has x hx
theorem Ds.put{w':World}{b:Nat}{o o':Obj}(h:Ds A w ([(b,o)]::S))(ho:w'.os=w.os)(ht:w'.tape=w.tape)(hp:w'.output=w.output)(hs:w.heap.size<=w'.heap.size)
 (hb:w'.heap[b]? =some o') (hk:∀k,k<w.heap.size->k≠b->w'.heap[k]? =w.heap[k]?):Ds A w' ([(b,o')]::S):=by
 have hn:=h.nodup;simp only[AW,EJ,Ap,Bv]at hn;refine⟨ho.trans h.os,ht.trans h.tape,hp.trans h.output,Nat.le_trans h.size hs,?_,?_⟩
 ·simp only[AW,EJ,Ap,Bv];exact hn
 ·intro x hx;simp only[AW,EJ,Ab]at hx;rcases hx with rfl|hx
  ·exact hb
  ·rw[hk x.1 (h.drop.lt hx) (fun he=>hn.1 (A8.2 ⟨x,hx,he⟩))];exact h.drop.has x hx
theorem Ds.drawn(h:Ds A w S)(n:Nat):Ds A {w with drawn:=n} S:=⟨h.os,h.tape,h.output,h.size,h.nodup,h.has⟩
inductive Gg (c:List CH):A2->A2->Prop
 |here {S:A2}:Gg c (c::S) S
 |there {x:List CH} {S T:A2} (h:Gg c S T):Gg c (x::S) (x::T)
theorem Gg.perm{c:List CH}(h:Gg c S T):S.Perm (c::T):=by
 induction h with
 |here=>exact .refl _
 |there _ ih=>exact(List.Perm.cons _ ih).trans (.swap _ _ _)
inductive DV:A2->A2->A2->Prop
 |nil {S:A2}:DV S [] S
 |cons {c:List CH} {S T F U:A2} (h:Gg c S T) (k:DV T F U):DV S (c::F) U
variable{F U:A2}
theorem DV.perm(h:DV S F U):S.Perm (F++U):=by
 induction h with
 |nil=>exact .refl _
 |cons h _ ih=>exact h.perm.trans (.cons _ ih)
inductive App:A2->A2->A2->Prop
 |nil {S:A2}:App [] S S
 |cons {c:List CH} {F S T:A2} (h:App F S T):App (c::F) S (c::T)
theorem App.eq(h:App F S T):F++S=T:=by
 induction h with
 |nil=>rfl
 |cons _ ih=>rw[AQ,ih]
abbrev Fr:=List (Nat×Value)
def lk:Fr->Nat->Option Value
 |[],_=>none
 |(s,v)::r,t=>bif Nat.beq s t then some v else lk r t
def Eg(fr:Fr):Operand->Option Value
 | .tmp t=>lk fr t
 | .const v=>some v
 | .global g=>some (.pointer (some ⟨g,0,none⟩))
 | .func f=>some (.func (.func f) #[] #[])
structure Ep (n:Nat) (a:Act) (fr:Fr):Prop where
 size:n<=a.tmps.size
 has:∀t v,lk fr t=some v->a.tmps[t]? =some v
variable{n:Nat}{a:Act}{fr:Fr}{v:Value}
theorem Ep.eval(h:Ep n a fr){x:Operand}(hx:Eg fr x=some v):a.eval x=v:=by
 cases x with
 |tmp t=>have:=h.has t v hx;simp[Act.eval,Av,this]
 |const u=>simpa[Eg,Act.eval]using hx
 |global g=>simpa[Eg,Act.eval]using hx
 |func f=>simpa[Eg,Act.eval]using hx
theorem Ep.put(h:Ep n a fr){d:Nat}(hd:d<n)(v:Value):Ep n (a.put (some d) v) ((d,v)::fr):=by
 have hs:=h.size;refine⟨by simp[Act.put];omega,fun t u hu=> ?_⟩;simp only[Act.put,Array.getElem?_setIfInBounds];simp only[lk]at hu;by_cases e:d=t
 ·subst e;simp at hu;simp[hu];omega
 ·have:Nat.beq d t=false:=by
   cases hq:Nat.beq d t with
   |false=>rfl
   |true=>exact absurd (AK hq) e
  rw[this]at hu;rw[Ah e];exact h.has t u hu
theorem Act.put_defers(a:Act)(d:Option Nat)(v:Value):(a.put d v).defers=a.defers:=by cases d<;>rfl
def Eo(fr gr:Fr):Prop:=∀t v,lk fr t=some v->lk gr t=some v
theorem Ep.sub{gr:Fr}(h:Ep n a gr)(s:Eo fr gr):Ep n a fr:=⟨h.size,fun t v hv=>h.has t v (s t v hv)⟩
theorem Eo.refl(fr:Fr):Eo fr fr:=fun _ _ h=>h
theorem Eo.nil(gr:Fr):Eo [] gr:=fun t v h=>by simp[lk]at h
theorem Eo.cons{s:Nat}{v:Value}{fr gr:Fr}(h:lk gr s=some v)(k:Eo fr gr):Eo ((s,v)::fr) gr:=by
 intro t u hu;simp only[lk]at hu;cases hq:Nat.beq s t with
 |true=>rw[hq]at hu;obtain rfl:=AK hq;simpa[h]using hu
 |false=>rw[hq]at hu;exact k t u hu
structure EX where
 go:Exit->Fr->A2->Prop
 Eu:List PanicEntry->A2->Prop
def HY(n:Nat)(A:Om)(R:A2)(Q:EX):Exit->Act->World->Prop:=fun e a w=>A.inv a/\match e with
 | .panic ch=>∃S,Ds A w (S++R)/\Q.Eu ch S
 |e=>∃fr S,Ep n a fr/\Ds A w (S++R)/\Q.go e fr S
def Wr:Code->Nat->Prop
 | .seq x y,d=>Wr x d\/Wr y d
 | .cond _ x y,d=>Wr x d\/Wr y d
 | .block _ x,d=>Wr x d
 | .loop x,d=>Wr x d
 | .scope x,d=>Wr x d
 | .region _ An _,d=>∃(i:Nat) (o:Oper),An[i]? =some o/\o.dst=some d
 |_,_=>False
def VT(A:Om)(c:Code)(a:Act):Prop:=A.inv a/\∀d v a,Wr c d->A.inv a->A.inv (a.put (some d) v)
def eB(A:Om)(An:Array Oper)(a:Act):Prop:=A.inv a/\∀(i:Nat) (o:Oper) (d:Nat) (v:Value) (a:Act),An[i]? =some o->o.dst=some d->A.inv a->A.inv (a.put (some d) v)
variable{i:Nat}{o:Oper}
theorem eB.put{An:Array Oper}(h:eB A An a)(ho:An[i]? =some o)(v:Value):eB A An (a.put o.dst v):=by
 refine⟨?_,h.2⟩;cases hd:o.dst with
 |none=>exact h.1
 |some d=>exact h.2 i o d v a ho hd h.1
variable{id:Nat}{b:Bool}
theorem VT.An{An:Array Oper}(h:VT A (.region id An b) a):eB A An a:=⟨h.1,fun i o d v a ho hd=>h.2 d v a ⟨i,o,ho,hd⟩⟩
variable{x y:Code}
theorem VT.left(h:VT A (.seq x y) a):VT A x a:=⟨h.1,fun d v a hw=>h.2 d v a (.inl hw)⟩
theorem VT.right{a':Act}(h:VT A (.seq x y) a)(k:A.inv a'):VT A y a':=⟨k,fun d v a hw=>h.2 d v a (.inr hw)⟩
theorem VT.thn{c:Operand}(h:VT A (.cond c x y) a):VT A x a:=⟨h.1,fun d v a hw=>h.2 d v a (.inl hw)⟩
theorem VT.els{c:Operand}(h:VT A (.cond c x y) a):VT A y a:=⟨h.1,fun d v a hw=>h.2 d v a (.inr hw)⟩
def CW(P:Program)(n:Nat)(c:Code)(Q:EX)(fr:Fr)(S:A2):Prop:=∀A R a w,VT A c a->Ep n a fr->Ds A w (S++R)->c.wp P (HY n A R Q) a w
def IL(next:Fr->A2->Prop)(Q:EX):EX where
 go:=fun
  | .normal,fr,S=>next fr S
  |e,fr,S=>Q.go e fr S
 Eu:=Q.Eu
def QZ(id:Nat)(Q:EX):EX where
 go:=fun
  | .exit id',fr,S=>if id'=id then Q.go .normal fr S else Q.go (.exit id') fr S
  |e,fr,S=>Q.go e fr S
 Eu:=Q.Eu
variable{P:Program} {n:Nat} {Q:EX} {fr gr:Fr} {S T:A2}
theorem CW.seq(h:CW P n x (IL (fun fr S=>CW P n y Q fr S) Q) fr S):CW P n (.seq x y) Q fr S:=by
 intro A R a w hd hk hs;refine wp_seq (wp_mono (h A R a w hd.left hk hs) ?_);rintro e a' w' ⟨hd',hh⟩;cases e with
 |normal=>obtain⟨fr',S',hk',hs',hq⟩:=hh;exact hq A R a' w' (hd.right hd') hk' hs'
 |_=>exact⟨hd',hh⟩
theorem CW.skip(h:Q.go .normal fr S):CW P n .skip Q fr S:=fun A R a w hd hk hs=>wp_skip ⟨hd.1,fr,S,hk,hs,h⟩
theorem CW.ret(h:Q.go .ret fr S):CW P n .ret Q fr S:=fun A R a w hd hk hs=>wp_ret ⟨hd.1,fr,S,hk,hs,h⟩
theorem CW.exit(h:Q.go (.exit id) fr S):CW P n (.exit id) Q fr S:=fun A R a w hd hk hs=>wp_exit ⟨hd.1,fr,S,hk,hs,h⟩
theorem CW.label{l:Nat}(h:Q.go .normal fr S):CW P n (.label l) Q fr S:=fun A R a w hd hk hs=>wp_label ⟨hd.1,fr,S,hk,hs,h⟩
theorem CW.block{c:Code}(h:CW P n c (QZ id Q) fr S):CW P n (.block id c) Q fr S:=by
 intro A R a w hd hk hs;refine wp_block (wp_mono (h A R a w hd hk hs) ?_);rintro e a' w' ⟨hd',hh⟩;cases e with
 |exit id'=>
  obtain⟨fr',S',hk',hs',hq⟩:=hh;simp only[QZ]at hq;simp only[Exit.inBlock];split
  ·rename_i he;rw[BE he]at hq;exact⟨hd',fr',S',hk',hs',hq⟩
  ·rename_i he;rw[Ah he]at hq;exact⟨hd',fr',S',hk',hs',hq⟩
 |_=>exact⟨hd',hh⟩
theorem CW.Qa{c:Operand}(hc:Eg fr c=some (.bool true))(h:CW P n x Q fr S):CW P n (.cond c x y) Q fr S:=fun A R a w hd hk hs=>wp_cond_true (hk.eval hc) (h A R a w hd.thn hk hs)
theorem CW.Qb{c:Operand}(hc:Eg fr c=some (.bool false))(h:CW P n y Q fr S):CW P n (.cond c x y) Q fr S:=fun A R a w hd hk hs=>wp_cond_false (hk.eval hc) (h A R a w hd.els hk hs)
theorem CW.cond{c:Operand}{t:Bool}(hc:Eg fr c=some (.bool t))(h:t=true->CW P n x Q fr S)(k:t=false->CW P n y Q fr S):CW P n (.cond c x y) Q fr S:=fun A R a w hd hk hs=>wp_cond_split (hk.eval hc) (fun e=>h e A R a w hd.thn hk hs) (fun e=>k e A R a w hd.els hk hs)
theorem CW.sub{c:Code}(h:CW P n c Q fr S)(s:Eo fr gr):CW P n c Q gr S:=fun A R a w hd hk hs=>h A R a w hd (hk.sub s) hs
theorem CW.perm{c:Code}(h:CW P n c Q fr S)(p:S.Perm T):CW P n c Q fr T:=fun A R a w hd hk hs=>h A R a w hd hk (hs.perm (p.symm.append_right R))
theorem CW.zM{c:Code}(h:CW P n c Q fr S)(p:T.Perm (S++U)):CW P n c Q fr T:=fun A R a w hd hk hs=>h A R a w hd hk ((hs.perm ((p.append_right R).trans (by rw[AU];exact(List.perm_append_comm_assoc S U R)))).drops)
theorem CW.drop{c:Code}(h:CW P n c Q fr S)(p:DV T S U):CW P n c Q fr T:=h.zM p.perm
variable{ι:Type}
theorem CW.loop{c:Code}(m:ι->Nat)(hyp:ι->Prop)(F:ι->Fr)(H:ι->A2)(i:ι)(h0:hyp i)(hf:Eo (F i) fr)(hp:DV S (H i) U)
 (round:∀i,hyp i->CW P n c (IL (fun fr' S'=>∃j U,m j<m i/\hyp j/\Eo (F j) fr'/\DV S' (H j) U) Q) (F i) (H i)):CW P n (.loop c) Q fr S:=by
 suffices hh:CW P n (.loop c) Q (F i) (H i) by exact(hh.sub hf).drop hp
 intro A R a w hd hk hs;have key:∀(k:Nat) (j:ι) (a:Act) (w:World),m j=k->hyp j->VT A c a->Ep n a (F j)->Ds A w (H j++R)->
  ∀(b:Frame) (κ:List Item) (cs:List Frame),∃e a' w',HY n A R Q e a' w'/\Arrives P (lone (b.at a (.code c:: .inLoop c::κ)) cs w) b κ cs e a' w':=by
  intro k;induction k using Nat.strongRecOn with
  |_ k ih=>
   intro j a w hj hyj hd hk hs b κ cs;obtain⟨e,a₁,w₁,⟨hd₁,hh⟩,harr⟩:=round j hyj A R a w hd hk hs b (.inLoop c::κ) cs;cases e with
   |normal=>obtain⟨aEZ,aE0,hk₁,hs₁,hq⟩:=hh;obtain⟨nT,aCq,hm,hy₁,zN,hp₁⟩:=hq;have hs₂:Ds A w₁ (H nT++R):=(hs₁.perm ((hp₁.perm.append_right R).trans (by rw[AU];exact(List.perm_append_comm_assoc (H nT) aCq R)))).drops;obtain⟨e₂,a₂,w₂,hq₂,harr₂⟩:=ih (m nT) (hj▸hm) nT a₁ w₁ rfl hy₁ ⟨hd₁,hd.2⟩ (hk₁.sub zN) hs₂ b κ cs;exact⟨e₂,a₂,w₂,hq₂,.of_steps (Steps.trans harr (.one step_inLoop)) harr₂⟩
   |exit id=>exact⟨_,a₁,w₁,⟨hd₁,hh⟩,.pass (x:=.inLoop c) J (fun _ _=>.inl DI) harr⟩
   |goto l=>exact⟨_,a₁,w₁,⟨hd₁,hh⟩,.pass (x:=.inLoop c) J (fun _ _=>.inl DI) harr⟩
   |ret=>exact⟨_,a₁,w₁,⟨hd₁,hh⟩,.pass (x:=.inLoop c) J (fun _ _=>.inl DI) harr⟩
   |panic ch=>exact⟨_,a₁,w₁,⟨hd₁,hh⟩,.pass (x:=.inLoop c) J (fun _ _=>.inl DI) harr⟩
   |outgrown=>exact⟨_,a₁,w₁,⟨hd₁,hh⟩,.pass (x:=.inLoop c) J (fun _ _=>.inl DI) harr⟩
 intro b κ cs;obtain⟨e,a',w',hq,harr⟩:=key _ i a w J h0 hd hk hs b κ cs;exact⟨e,a',w',hq,.of_steps (.one step_loop) harr⟩
theorem CW.cut(hyp:ι->Prop)(F:ι->Fr)(H:ι->A2)
 (h:CW P n x (IL (fun fr' S'=>∃j U,hyp j/\Eo (F j) fr'/\DV S' (H j) U) Q) fr S) (k:∀j,hyp j->CW P n y Q (F j) (H j)):CW P n (.seq x y) Q fr S:=by
 refine CW.seq (fun A R a w hd hk hs=>wp_mono (h A R a w hd hk hs) ?_);rintro e a' w' ⟨hd',hh⟩;cases e with
 |normal=>obtain⟨fr',S',hk',hs',j,U,hy,hf,hp⟩:=hh;exact⟨hd',fr',S',hk',hs',((k j hy).sub hf).drop hp⟩
 |_=>exact⟨hd',hh⟩
def E7(P:Program)(K:Value->World->Prop)(Eu:List PanicEntry->World->Prop):Result Next->Prop
 | .ok (.value v) w'=>K v w'
 | .ok .skip w'=>K undef w'
 | .ok (.enter f args) w'=>Calls P f args w' fun
  | .returned v,w''=>K v w''
  | .panicked chain,w''=>Eu chain w''
  | .outgrown,_=>False
 | .halt (.panic v) w'=>Eu [{v,recovered:=false}] w'
 |_=>False
def Fq(P:Program)(o:Oper)(a:Act)(w:World)(K:Value->World->Prop)(Eu:List PanicEntry->World->Prop):Prop:=E7 P K Eu ((execOp a.eval o).run P w)
variable{Eu:List PanicEntry->World->Prop}
theorem E7.mono{K K':Value->World->Prop}{zO:List PanicEntry->World->Prop}(h:∀v w,K v w->K' v w)(g:∀c w,Eu c w->zO c w):∀{r:Result Next},E7 P K Eu r->E7 P K' zO r:=by
 intro r hr;cases r with
 |ok x w'=>
  cases x<;>simp only[E7]at hr⊢;case value v=>exact h _ _ hr
  case skip=>exact h _ _ hr
  case enter f args=>exact Calls.mono hr fun e w'' he=>by cases e<;>first|exact h _ _ he|exact g _ _ he|exact he
 |halt x w'=>cases x<;>simp only[E7]at hr⊢;exact g _ _ hr
theorem E7.upon{K:Value->World->Prop}{Q':Exit->Act->World->Prop}{r:Result Next}(h:E7 P K Eu r)(hp:∀c w,Eu c w->Q' (.panic c) a w):
 o.upon P a (fun a' w'=>∃v,a'=a.put o.dst v/\K v w') Q' r:=by
 cases r with
 |ok x w'=>
  cases x<;>simp only[E7]at h<;>simp only[Oper.upon];case value v=>exact⟨v,rfl,h⟩
  case skip=>exact⟨_,rfl,h⟩
  case enter f args=>
   refine Calls.mono h fun e w'' he=> ?_
   cases e with
   |returned v=>exact⟨v,rfl,he⟩
   |panicked c=>exact hp _ _ he
   |outgrown=>exact he.elim
 |halt x w'=>cases x<;>simp only[E7]at h<;>simp only[Oper.upon];exact hp _ _ h
inductive K3|Ia|IP|XC
 deriving DecidableEq
def B5(o:Oper):K3:=
 match o.op with
 | .alloc _=>.IP
 | .makeMap _ none=>.IP
 | .box .. | .buildSlice .. | .insert .. | .store .. | .ready .. | .makeChan .. | .makeSlice .. | .mapUpdate .. | .mapEntry .. | .entryStore .. | .range .. | .next .. | .entry .. | .go .. | .defer .. | .panic .. | .send .. | .recv .. | .select .. =>.XC
 | .call {callee:=.builtin b,..}=>match b with
  | .len| .cap| .min| .max=>.Ia
  |_=>.XC
 | .call _=>.XC
 | .convert s d _=>bif Nat.beq s d then .XC else .Ia
 |_=>.Ia
structure FO where
 i:Nat
 o:Oper
 g:Option (Nat×Bool)
def Ib(An:Array Oper)(o:Oper):Option (Nat×Bool):=
 match o.guard with
 |none=>none
 |some (j,b)=>match(An[j]?).bind (·.dst)with
  |some d=>some (d,b)
  |none=>none
def Wt(g:Option (Nat×Bool))(a:Act):Bool:=
 match g with
 |none=>true
 |some (s,b)=>match a.tmps[s]? with
  |some (.bool b')=>b'==b
  |_=>false
def lg(fr:Fr)(g:Option (Nat×Bool)):Option Bool:=
 match g with
 |none=>some true
 |some (s,b)=>match lk fr s with
  |some (.bool b')=>some (b'==b)
  |some _=>some false
  |none=>none
theorem La{g:Option (Nat×Bool)}(h:Ep n a fr)(hg:lg fr g=some b):Wt g a=b:=by
 unfold lg at hg;unfold Wt;cases g with
 |none=>simpa using hg
 |some p=>
  obtain⟨s,c⟩:=p;simp only at hg⊢;cases hl:lk fr s with
  |none=>rw[hl]at hg;simp at hg
  |some v=>rw[hl]at hg;rw[h.has s v hl];cases v<;>simp at hg⊢<;>exact hg
def Dc:Option Nat->Value->Fr->Fr
 |some d,v,fr=>(d,v)::fr
 |none,_,fr=>fr
variable{d:Option Nat}
theorem Ep.Dc(h:Ep n a fr)(hd:∀e,d=some e->e<n)(v:Value):Ep n (a.put d v) (Sep.Dc d v fr):=by
 cases d with
 |none=>exact h
 |some e=>exact h.put (hd e J) v
def FV(P:Program)(n:Nat)(o:Oper)(fr:Fr)(S:A2)(v:Value):Prop:=∀A R a w,Ep n a fr->Ds A w (S++R)->(execOp a.eval o).run P w=.ok (.value v) w
def FR(P:Program)(n:Nat)(o:Oper)(fr:Fr)(obj:Obj)(mk:Nat->Value):Prop:=∀a w,Ep n a fr->(execOp a.eval o).run P w=.ok (.value (mk w.heap.size)) {w with heap:=w.heap.push obj}
def Ym(P:Program)(o:Oper)(obj:Obj)(mk:Nat->Value):Prop:=∀ρ w,(execOp ρ o).run P w=.ok (.value (mk w.heap.size)) {w with heap:=w.heap.push obj}
def Eff(P:Program)(n:Nat)(o:Oper)(fr:Fr)(S:A2)(post:Value->A2->Prop)(Eu:List PanicEntry->A2->Prop):Prop:=∀A R a w,Ep n a fr->Ds A w (S++R)->Fq P o a w (fun v w'=>∃S',Ds A w' (S'++R)/\post v S') (fun c w'=>∃S',Ds A w' (S'++R)/\Eu c S')
def Ge:Option A2->A2->Prop
 |none,_=>True
 |some K,S=>∃U,S.Perm (K++U)
inductive DL (P:Program) (n:Nat) (K:Option A2) (Q:EX):List FO->Fr->A2->Prop
 |nil {fr gr:Fr} {S T:A2} (hq:Q.go .normal fr S) (hf:Eo fr gr) (hp:S.Perm T):DL P n K Q [] gr T
 |skip {x:FO} {rest:List FO} {fr:Fr} {S:A2} (hg:lg fr x.g=some false) (hd:∀e,x.o.dst=some e->e<n) (h:DL P n K Q rest (Dc x.o.dst undef fr) S):DL P n K Q (x::rest) fr S
 |Ia {x:FO} {rest:List FO} {fr:Fr} {S:A2} {d:Nat} {v:Value} (hk:B5 x.o=.Ia\/K=none) (hg:lg fr x.g=some true) (hd:x.o.dst=some d) (hn:d<n) (hv:FV P n x.o fr (K.getD S) v) (h:DL P n K Q rest ((d,v)::fr) S):DL P n K Q (x::rest) fr S
 |IP {x:FO} {rest:List FO} {fr:Fr} {S:A2} {d:Nat} {obj:Obj} {mk:Nat->Value} (hk:B5 x.o≠.Ia) (hg:x.g=none) (hd:x.o.dst=some d) (hn:d<n) (hv:Ym P x.o obj mk) (h:∀b,DL P n K Q rest ((d,mk b)::fr) ([(b,obj)]::S)):DL P n K Q (x::rest) fr S
 |eff {x:FO} {rest:List FO} {fr:Fr} {S:A2} (post:Value->A2->Prop) (Eu:List PanicEntry->A2->Prop) (hk:B5 x.o=.XC\/K=none) (hg:lg fr x.g=some true) (hd:∀e,x.o.dst=some e->e<n) (he:Eff P n x.o fr S post Eu)
  (hp:∀c S',Eu c S'->Q.Eu c S') (hK:∀v S',post v S'->Ge K S') (h:∀v S',post v S'->DL P n K Q rest (Dc x.o.dst v fr) S'):DL P n K Q (x::rest) fr S
theorem Eo.put{d:Nat}(h:Eo fr gr):Eo ((d,v)::fr) ((d,v)::gr):=by
 intro t u hu;simp only[lk]at hu⊢;cases hq:Nat.beq d t with
 |true=>rw[hq]at hu;simpa using hu
 |false=>rw[hq]at hu;exact h t u hu
theorem Eo.Dc(h:Eo fr gr):Eo (Sep.Dc d v fr) (Sep.Dc d v gr):=by
 cases d with
 |none=>exact h
 |some e=>exact h.put
theorem Eo.trans{hr:Fr}(h:Eo fr gr)(k:Eo gr hr):Eo fr hr:=fun t v hv=>k t v (h t v hv)
theorem XD{g:Option (Nat×Bool)}(h:Eo fr gr)(hg:lg fr g=some b):lg gr g=some b:=by
 unfold lg at*
 cases g with
 |none=>exact hg
 |some p=>
  obtain⟨s,c⟩:=p;simp only at hg⊢;cases hl:lk fr s with
  |none=>rw[hl]at hg;simp at hg
  |some v=>rw[hl]at hg;rw[h s v hl];exact hg
theorem Ge.perm{K:Option A2}(h:Ge K S)(p:S.Perm T):Ge K T:=by
 cases K with
 |none=>trivial
 |some K=>obtain⟨U,hu⟩:=h;exact⟨U,p.symm.trans hu⟩
theorem DL.congr{K:Option A2}{l:List FO}(h:DL P n K Q l fr S):∀{gr:Fr} {T:A2},Eo fr gr->S.Perm T->DL P n K Q l gr T:=by
 induction h with
 |nil hq hf hp=>exact fun s p=>.nil hq (hf.trans s) (hp.trans p)
 |skip hg hd h ih=>exact fun s p=>.skip (XD s hg) hd (ih s.Dc p)
 |Ia hk hg hd hn hv h ih=>
  refine fun s p=>.Ia hk (XD s hg) hd hn (fun A R a w hk hs=>hv A R a w (hk.sub s) ?_) (ih s.put p)
  cases K with
  |none=>exact hs.perm (p.symm.append_right R)
  |some K=>exact hs
 |IP hk hg hd hn hv h ih=>exact fun s p=>.IP hk hg hd hn hv (fun b=>ih b s.put (.cons _ p))
 |eff post Eu hk hg hd he hp hK h ih=>exact fun s p=>.eff post Eu hk (XD s hg) hd (fun A R a w hk hs=>he A R a w (hk.sub s) (hs.perm (p.symm.append_right R))) hp hK (fun v S' hv=>ih v S' hv s.Dc (.refl _))
def First(P:Program)(n:Nat)(x:FO)(fr:Fr)(S:A2)(Eu:List PanicEntry->A2->Prop)(next:Value->A2->Prop):Prop:=
 (∀e,x.o.dst=some e->e<n)/\∀A R a w,Ep n a fr->Ds A w (S++R)->
  if Wt x.g a then Fq P x.o a w (fun v w'=>∃S',Ds A w' (S'++R)/\next v S') (fun c w'=>∃S',Ds A w' (S'++R)/\Eu c S')else next undef S
theorem First.mono{x:FO}{Eu:List PanicEntry->A2->Prop}{next next':Value->A2->Prop}(h:First P n x fr S Eu next)(k:∀v S',next v S'->next' v S'):First P n x fr S Eu next':=by
 refine⟨h.1,fun A R a w hk hs=> ?_⟩;have:=h.2 A R a w hk hs;split
 ·rename_i hw;rw[BE hw]at this;exact E7.mono (fun v w' ⟨S',h1,h2⟩=>⟨S',h1,k _ _ h2⟩) (fun _ _ hc=>hc) this
 ·rename_i hw;rw[Ah hw]at this;exact k _ _ this
def looks(x:FO):List Nat:=(x.o.op.operands.toList.filterMap fun| .tmp t=>some t|_=>none)++(match x.g with|some (s,_)=>[s]|none=>[])
def JH(x y:FO):Bool:=
 (match x.o.dst with|some d=> !(looks y).contains d&&y.o.dst !=some d|none=>true)&&(match y.o.dst with|some d=> !(looks x).contains d|none=>true)&&
 (match x.o.op with| .select .. =>false|_=>true)&&(match y.o.op with| .select .. =>false|_=>true)
structure Apart (x y:FO):Prop where
 a:∀d,x.o.dst=some d->d∉looks y
 b:∀d,x.o.dst=some d->y.o.dst≠some d
 c:∀d,y.o.dst=some d->d∉looks x
 sx:∀cs b,x.o.op≠.select cs b
 sy:∀cs b,y.o.op≠.select cs b
theorem HZ{x y:FO}(h:JH x y=true):Apart x y:=by
 unfold JH at h;simp only[AI]at h;obtain⟨⟨⟨h1,h2⟩,h3⟩,h4⟩:=h;refine⟨fun d hd=> ?_,fun d hd=> ?_,fun d hd=> ?_,fun cs b e=> ?_,fun cs b e=> ?_⟩
 ·rw[hd]at h1;simp at h1;exact h1.1
 ·rw[hd]at h1;simp at h1;exact h1.2
 ·rw[hd]at h2;simpa using h2
 ·rw[e]at h3;simp at h3
 ·rw[e]at h4;simp at h4
theorem Apart.symm{x y:FO}(h:Apart x y):Apart y x:=⟨h.c,fun d hd e=>h.b d e hd,h.a,h.sy,h.sx⟩
theorem Nx{x:FO}(hs:∀cs b,x.o.op≠.select cs b)(a:Act)(h:∀e,d=some e->e∉looks x):execOp (a.put d v).eval x.o=execOp a.eval x.o:=execOp_congr x.o hs fun y hy=>Act.eval_put fun e he hxd=>h e he (by subst hxd;exact A3 _ (List.mem_filterMap.2 ⟨.tmp e,by simpa using hy,rfl⟩))
theorem eC{x:FO}(a:Act)(h:∀e,d=some e->e∉looks x):Wt x.g (a.put d v)=Wt x.g a:=by
 cases d with
 |none=>rfl
 |some e=>
  unfold Wt;cases hg:x.g with
  |none=>rfl
  |some p=>
   obtain⟨s,b⟩:=p;have hne:e≠s:=fun he=>h e J (by subst he;simp[looks,hg])
   simp[Act.put,CN hne]
theorem Qc{d:Nat}(h:Ep n a ((d,v)::fr)):∃u,Ep n (a.put (some d) u) fr:=by
 cases hl:lk fr d with
 |none=>
  refine⟨v,by simp[Act.put];exact h.size,fun t u hu=> ?_⟩;have hne:d≠t:=fun e=>by subst e;rw[hl]at hu;cases hu
  have hq:Nat.beq d t=false:=by
   cases hq:Nat.beq d t with
   |false=>rfl
   |true=>exact absurd (AK hq) hne
  simp only[Act.put,CN hne];exact h.has t u (by simp[lk,hq,hu])
 |some x=>
  refine⟨x,by simp[Act.put];exact h.size,fun t u hu=> ?_⟩;by_cases hne:d=t
  ·subst hne;have hin:=h.has d v (by simp[lk]);have hlt:=(A1.1 hin).1;rw[hl]at hu;simp[Act.put,hlt]at hu⊢;exact hu
  ·have hq:Nat.beq d t=false:=by
    cases hq:Nat.beq d t with
    |false=>rfl
    |true=>exact absurd (AK hq) hne
   simp only[Act.put,CN hne];exact h.has t u (by simp[lk,hq,hu])
variable{u:Value}
theorem FV.put{x:FO}(hs:∀cs b,x.o.op≠.select cs b)(h:FV P n x.o fr S v)(hd:∀e,d=some e->e∉looks x):FV P n x.o (Dc d u fr) S v:=by
 intro A R a w hk hw;cases d with
 |none=>exact h A R a w hk hw
 |some e=>obtain⟨z,hz⟩:=Qc hk;have:=h A R _ w hz hw;rw[Nx hs a hd]at this;exact this
theorem Qd{x:FO}(h:lg fr x.g=some b)(hd:∀e,d=some e->e∉looks x):lg (Dc d u fr) x.g=some b:=by
 cases d with
 |none=>exact h
 |some e=>
  unfold lg at*
  cases hg:x.g with
  |none=>rw[hg]at h;exact h
  |some p=>
   obtain⟨s,c⟩:=p;rw[hg]at h;have hne:e≠s:=fun he=>hd e J (by subst he;simp[looks,hg])
   have hq:Nat.beq e s=false:=by
    cases hq:Nat.beq e s with
    |false=>rfl
    |true=>exact absurd (AK hq) hne
   simp only[Dc,lk,hq,AO];exact h
theorem S8{e:Option Nat}(h:∀x,d=some x->e≠some x):Eo (Dc d u (Dc e v fr)) (Dc e v (Dc d u fr)):=by
 cases d with
 |none=>exact Eo.refl _
 |some d=>
  cases e with
  |none=>exact Eo.refl _
  |some e=>
   intro t x hx;have hne:e≠d:=fun he=>h d J (by rw[he])
   simp only[Dc,lk]at hx⊢;cases h1:Nat.beq d t with
   |true=>
    have e1:=AK h1;have h2:Nat.beq e t=false:=by
     cases hq:Nat.beq e t with
     |false=>rfl
     |true=>exact absurd ((AK hq).trans e1.symm) hne
    rw[h1]at hx;simp only[h2,AO,AN]at hx⊢;exact hx
   |false=>rw[h1]at hx;cases h2:Nat.beq e t<;>rw[h2]at hx<;>simpa using hx
variable{K R:A2}
theorem Ds.Ge(h:Ds A w (S++R))(k:Sep.Ge (some K) S):∃U,Ds A w (K++U):=by obtain⟨U,p⟩:=k;exact⟨U++R,h.perm ((p.append_right R).trans (by rw[AU]))⟩
theorem DL.first{K:A2}{x:FO}{l2:List FO}:∀(l1:List FO) (fr:Fr) (S:A2),Ge (some K) S->(∀y∈l1,Apart y x/\B5 y.o=.Ia)->DL P n (some K) Q (l1++x::l2) fr S->
 First P n x fr S Q.Eu (fun v S'=>Ge (some K) S'/\DL P n (some K) Q (l1++l2) (Dc x.o.dst v fr) S')
 |[],fr,S,hK,_,h=>by
  simp only[AS]at h⊢;cases h with
  |skip hg hd h=>exact⟨hd,fun A R a w hk hs=>by rw[Ah (by simp[La hk hg])];exact⟨hK,h⟩⟩
  |Ia hkd hg hd hn hv h=>refine⟨fun e he=>by rw[hd]at he;cases he;exact hn,fun A R a w hk hs=> ?_⟩;rw[BE (La hk hg),Fq];obtain⟨U,hU⟩:=hs.Ge hK;rw[hv A U a w hk hU];exact⟨S,hs,hK,by rw[hd];exact h⟩
  |IP hk hg hd hn hv h=>refine⟨fun e he=>by rw[hd]at he;cases he;exact hn,fun A R a w hk hs=> ?_⟩;rw[BE (La hk (by rw[hg];rfl)),Fq,hv a.eval w];exact⟨[(w.heap.size,_)]::S,hs.new _,(by obtain⟨U,p⟩:=hK;exact⟨_,(List.Perm.cons _ p).trans CY.symm⟩),by rw[hd];exact h w.heap.size⟩
  |eff post Eu hk hg hd he hp tV h=>refine⟨hd,fun A R a w hk hs=> ?_⟩;rw[BE (La hk hg)];exact E7.mono (fun v w' ⟨S',h1,h2⟩=>⟨S',h1,tV v S' h2,h v S' h2⟩) (fun c w' ⟨S',h1,h2⟩=>⟨S',h1,hp c S' h2⟩) (he A R a w hk hs)
 |y::l1,fr,S,hK,hy,h=>by
  have hy0:=hy y DI;have hy1:=fun z hz=>hy z (Aw _ hz)
  simp only[AQ]at h;cases h with
  |skip hg hd h=>
   have ih:=DL.first l1 _ _ hK hy1 h
   refine⟨ih.1,fun A R a w hk hs=> ?_⟩;have hk':=hk.Dc hd undef;have:=ih.2 A R _ w hk' hs;rw[eC a hy0.1.a,Fq,Nx hy0.1.sy a hy0.1.a]at this;have back:∀v S',Ge (some K) S'/\DL P n (some K) Q (l1++l2) (Dc x.o.dst v (Dc y.o.dst undef fr)) S'->Ge (some K) S'/\DL P n (some K) Q (y::(l1++l2)) (Dc x.o.dst v fr) S':=fun v S' ⟨h1,h2⟩=>⟨h1,.skip (Qd hg hy0.1.c) hd (h2.congr (S8 hy0.1.symm.b) (.refl _))⟩
   split
   ·rename_i hw;rw[BE hw]at this;exact E7.mono (fun v w' ⟨S',h1,h2⟩=>⟨S',h1,back v S' h2⟩) (fun _ _ hc=>hc) this
   ·rename_i hw;rw[Ah hw]at this;exact back _ _ this
  | @Ia _ _ _ _ d vy hkd hg hd hn hv h=>
   have ih:=DL.first l1 _ _ hK hy1 h
   refine⟨ih.1,fun A R a w hk hs=> ?_⟩;have hk':=hk.put hn vy;have:=ih.2 A R _ w hk' hs;have ha:∀e,some d=some e->e∉looks x:=fun e he=>hy0.1.a e (by rw[hd];exact he)
   rw[eC a ha,Fq,Nx hy0.1.sy a ha]at this;have back:∀v S',Ge (some K) S'/\DL P n (some K) Q (l1++l2) (Dc x.o.dst v ((d,vy)::fr)) S'->Ge (some K) S'/\DL P n (some K) Q (y::(l1++l2)) (Dc x.o.dst v fr) S':=fun v S' ⟨h1,h2⟩=>⟨h1,.Ia hkd (Qd hg hy0.1.c) hd hn (hv.put hy0.1.sx hy0.1.c) (h2.congr (S8 (d:=x.o.dst) (e:=some d) (fun z hz he=>hy0.1.b d hd (by rw[hz,he]))) (.refl _))⟩
   split
   ·rename_i hw;rw[BE hw]at this;exact E7.mono (fun v w' ⟨S',h1,h2⟩=>⟨S',h1,back v S' h2⟩) (fun _ _ hc=>hc) this
   ·rename_i hw;rw[Ah hw]at this;exact back _ _ this
  |IP hk hg hd hn hv h=>exact absurd hy0.2 hk
  |eff post Eu hk hg hd he hp tV h=>rcases hk with hk|hk<;>simp[hy0.2]at hk
theorem Ym.det{obj nU:Obj}{mk mk':Nat->Value}(h:Ym P o obj mk)(k:Ym P o nU mk'):obj=nU/\mk=mk':=by
 have e:∀b:Nat,mk b=mk' b/\obj=nU:=fun b=>by
  let w:World:={(default:World)with heap:=Array.replicate b default}
  have h1:=h (fun _=>undef) w;rw[k (fun _=>undef) w]at h1;injection h1 with h1 h2
  injection h1 with h1
  have hb:w.heap.size=b:=by simp[w]
  rw[hb]at h1;injection h2 with h2
  exact⟨h1.symm,(Array.push_eq_push.1 h2).1.symm⟩
 exact⟨(e 0).2,funext fun b=>(e b).1⟩
theorem DL.Hz{K:A2}{x:FO}{l2:List FO}{obj:Obj}{mk:Nat->Value}(hx:B5 x.o=.IP)(hg:x.g=none)(hf:Ym P x.o obj mk){d:Nat}(hd:x.o.dst=some d)(hn:d<n):
 ∀(l1:List FO) (fr:Fr) (S:A2),(∀y∈l1,Apart y x)->DL P n (some K) Q (l1++x::l2) fr S->∀b,DL P n (some K) Q (l1++l2) ((d,mk b)::fr) ([(b,obj)]::S)
 |[],fr,S,_,h,b=>by
  simp only[AS]at h⊢;cases h with
  |skip hg' hd' h=>rw[hg]at hg';simp[lg]at hg'
  |Ia hkd=>rcases hkd with hkd|hkd<;>simp[hx]at hkd
  |IP hk hg' hd' hn' hv h=>obtain⟨rfl,rfl⟩:=hf.det hv;rw[hd]at hd';cases hd';exact h b
  |eff post Eu hk=>rcases hk with hk|hk<;>simp[hx]at hk
 |y::l1,fr,S,hy,h,b=>by
  have hy0:=hy y DI;have hy1:=fun z hz=>hy z (Aw _ hz)
  have hc:∀e,some d=some e->e∉looks y:=fun e he=>hy0.c e (by rw[hd];exact he)
  simp only[AQ]at h⊢;cases h with
  |skip hg' hd' h=>refine .skip (Qd (d:=some d) hg' hc) hd' ((DL.Hz hx hg hf hd hn l1 _ _ hy1 h b).congr ?_ (.refl _));exact S8 (d:=some d) (fun z hz he=>hy0.b z he (by rw[hd];exact hz))
  | @Ia _ _ _ _ e ve hkd hg' hd' hn' hv h=>refine .Ia hkd (Qd (d:=some d) hg' hc) hd' hn' (hv.put (d:=some d) hy0.sx hc) ((DL.Hz hx hg hf hd hn l1 _ _ hy1 h b).congr ?_ (.refl _));exact S8 (d:=some d) (e:=some e) (fun z hz he=>hy0.b z (by rw[hd',he]) (by rw[hd];exact hz))
  | @IP _ _ _ _ e nU mk' hk hg' hd' hn' hv h=>refine .IP hk hg' hd' hn' hv (fun c=>(DL.Hz hx hg hf hd hn l1 _ _ hy1 (h c) b).congr ?_ (.swap _ _ _));exact S8 (d:=some d) (e:=some e) (fun z hz he=>hy0.b z (by rw[hd',he]) (by rw[hd];exact hz))
  |eff post Eu hk hg' hd' he hp tV h=>
   refine .eff (fun v S''=>∃S',S''=[(b,obj)]::S'/\post v S') Eu hk (Qd (d:=some d) hg' hc) hd' ?_ hp ?_ ?_
   ·intro A R a w hk hs;obtain⟨z,hz⟩:=Qc hk;have:=he A ([(b,obj)]::R) _ w hz (hs.perm CY.symm);rw[Fq,Nx hy0.sx a hc]at this;exact E7.mono (fun v w' ⟨S',h1,h2⟩=>⟨[(b,obj)]::S',h1.perm CY,S',rfl,h2⟩) (fun c w' ⟨S',h1,h2⟩=>⟨S',(h1.perm CY).drop,h2⟩) this
   ·rintro v S'' ⟨S',rfl,h1⟩;obtain⟨U,p⟩:=tV v S' h1;exact⟨_,(List.Perm.cons _ p).trans CY.symm⟩
   ·rintro v S'' ⟨S',rfl,h1⟩;refine(DL.Hz hx hg hf hd hn l1 _ _ hy1 (h v S' h1) b).congr ?_ (.refl _);exact S8 (d:=some d) (fun z hz he=>hy0.b z he (by rw[hd];exact hz))
def Ho(An:Array Oper):Nat->Nat->Nat->Bool
 |0,_,_=>false
 |k+1,x,y=>match An[x]? with
  |none=>false
  |some o=>o.after.toList.any fun e=>Region.binds .any e&&(e.on==y||Ho An k e.on y)
def DF(An:Array Oper)(i:Nat):FO:=match An[i]? with
 |some o=>⟨i,o,Ib An o⟩
 |none=>⟨i,default,none⟩
def MJ(An:Array Oper)(y x:FO):Bool:=Ho An An.size x.i y.i||(JH y x&&(B5 x.o==.IP||B5 y.o==.Ia))
def Gh(An:Array Oper):List FO->Bool
 |[]=>true
 |y::r=>r.all (fun x=>MJ An y x)&&Gh An r
def FY(An:Array Oper)(x:FO):Bool:=(match An[x.i]? with|some o=>(match o.guard with|none=>x.g.isNone|some (j,_)=>((An[j]?).bind (·.dst)).isSome&&x.g.isSome)|none=>false)
def HN(An:Array Oper)(order:List Nat):Bool:=
 (List.range An.size).isPerm order&&Gh An (order.map (DF An))&&order.all (fun i=>FY An (DF An i))&&
 order.all (fun i=>match B5 (DF An i).o with| .IP=>(DF An i).g.isNone|_=>true)
def FT(An:Array Oper):Bool:=An.toList.zipIdx.all fun(o,i)=>o.after.toList.all fun e=> !Region.binds .any e||decide (e.on<i)
theorem G4{An:Array Oper}(ho:An[i]? =some o)(h:FY An (DF An i)=true)(a:Act):Region.wanted o (yielded An a.tmps)=Wt (DF An i).g a:=by
 have e:DF An i=⟨i,o,Ib An o⟩:=by simp[DF,ho]
 rw[e]at h⊢;simp only[FY,ho]at h;unfold Region.wanted Wt;cases hg:o.guard with
 |none=>
  have:Ib An o=none:=by simp[Ib,hg]
  simp[this]
 |some p=>
  obtain⟨j,b⟩:=p;rw[hg]at h;simp only[AI]at h;cases hd:(An[j]?).bind (·.dst)with
  |none=>rw[hd]at h;simp at h
  |some d=>
   have:Ib An o=some (d,b):=by simp only[Ib,hg,hd]
   simp only[this];unfold yielded;simp only[hd,Option.bind_some];cases ht:a.tmps[d]? with
   |none=>simp
   |some v=>cases v<;>simp
theorem J6{An:Array Oper}{x:FO}{l2:List FO}:∀{l1:List FO},Gh An (l1++x::l2)=true->∀y∈l1,MJ An y x=true
 |[],_,y,hy=>by simp at hy
 |z::l1,h,y,hy=>by
  simp only[AQ,Gh,AI,AY]at h;rcases Ab.1 hy with rfl|hy
  ·exact h.1 x DI
  ·exact J6 h.2 y hy
theorem G5{An:Array Oper}{x:FO}{l2:List FO}:∀{l1:List FO},Gh An (l1++x::l2)=true->Gh An (l1++l2)=true
 |[],h=>by simp only[AS,Gh,AI]at h;exact h.2
 |z::l1,h=>by simp only[AQ,Gh,AI,AY]at h⊢;exact⟨fun y hy=>h.1 y (by simp only[Aj,Ab]at hy⊢;rcases hy with hy|hy;exact .inl hy;exact .inr (.inr hy)),G5 h.2⟩
def H5(An:Array Oper)(listed:Array Bool):Prop:=∀(i:Nat) (o:Oper),An[i]? =some o->listed.getD i true=true->∀e∈o.after,Region.binds .any e=true->listed.getD e.on false=true
theorem FM{An:Array Oper}{listed:Array Bool}(hc:H5 An listed):∀(k x y:Nat) (o:Oper),An[x]? =some o->(∀e∈o.after,Region.binds .any e=true->listed.getD e.on false=true)->Ho An k x y=true->listed.getD y false=true
 |0,x,y,o,_,_,h=>by simp[Ho]at h
 |k+1,x,y,o,ho,hr,h=>by
  simp only[Ho,ho,Dq,AI,BI,beq_iff_eq]at h;obtain⟨e,he,hb,h⟩:=h;have hl:=hr e (by simpa using he) hb;rcases h with rfl|h
  ·exact hl
  ·cases hz:An[e.on]? with
   |none=>cases k<;>simp[Ho,hz]at h
   |some z=>
    refine FM hc k e.on y z hz (hc e.on z hz ?_) h;simp only[Av]at hl⊢;cases hq:listed[e.on]? with
    |none=>rw[hq]at hl;simp at hl
    |some b=>rw[hq]at hl;simpa using hl
theorem Gt{An:Array Oper}(hbk:FT An=true)(hfr:∀(i:Nat) (o:Oper),An[i]? =some o->B5 o=.IP->∃obj mk d,Ym P o obj mk/\o.dst=some d/\d<n)(hgd:∀i,i<An.size->FY An (DF An i)=true)
 (hfg:∀i,i<An.size->B5 (DF An i).o=.IP->(DF An i).g=none):
 ∀(fuel:Nat) (left:List Nat) (listed:Array Bool) (fr:Fr) (S:A2) (a:Act) (w:World),left.Nodup->(∀i,i∈left↔i<An.size/\listed.getD i true=false)->listed.size=An.size->H5 An listed->Gh An (left.map (DF An))=true->
 left.length<=fuel->Ge (some K) S->DL P n (some K) Q (left.map (DF An)) fr S->eB A An a->Ep n a fr->Ds A w (S++R)->wpAny P .any An (HY n A R Q) fuel listed a w:=by
 intro fuel;induction fuel with
 |zero=>
  intro left listed fr S a w hnd hm hsz hcl hps hlen hK h hd hk hs;obtain rfl:left=[]:=by cases left<;>simp_all
  have hr:Region.ready .any An listed=[]:=by rw[List.eq_nil_iff_forall_not_mem];intro j hj;obtain⟨h0,o,ho,_⟩:=mem_ready.1 hj;have:=(hm j).2 ⟨(A1.1 ho).1,h0⟩;simp at this
  cases h with
  |nil hq hf hp=>exact⟨hr,hd.1,_,_,hk.sub hf,hs.perm (hp.symm.append_right R),hq⟩
 |succ fuel ih=>
  intro left listed fr S a w hnd hm hsz hcl hps hlen hK h hd hk hs;refine⟨fun hr=> ?_,fun i hi=> ?_⟩
  ·
   cases left with
   |nil=>cases h with
    |nil hq hf hp=>exact⟨hd.1,_,_,hk.sub hf,hs.perm (hp.symm.append_right R),hq⟩
   |cons i l=>
    exfalso;have hall:∀k,k<An.size->listed.getD k true=true:=by
     intro k;induction k using Nat.strongRecOn with
     |_ k ihk=>
      intro hk2;cases hq:listed.getD k true with
      |true=>rfl
      |false=>
       exfalso;have:k∈Region.ready .any An listed:=by
        refine mem_ready.2 ⟨hq,An[k],B6 hk2,fun e he hb=> ?_⟩;have hlt:e.on<k:=by have h1:=hbk;simp only[FT,AY]at h1;have h2:=h1 (An[k],k) (Cm.2 (by simp[hk2]));simp only[AY]at h2;have h3:=h2 e (by simpa using he);simpa[hb]using h3
        have h4:=ihk e.on hlt I;simp only[Av]at h4⊢;have:e.on<listed.size:=I;simpa[this]using h4
       rw[hr]at this;cases this
    have h5:=(hm i).1 DI;rw[hall i h5.1]at h5;cases h5.2
  ·obtain⟨h0,o,ho,Ha⟩:=mem_ready.1 hi;have hlt:=(A1.1 ho).1;have hin:=(hm i).2 ⟨hlt,h0⟩;obtain⟨l1,l2,rfl⟩:=List.append_of_mem hin;have eg:(DF An i).o=o:=by simp[DF,ho]
   have hmap:(l1++i::l2).map (DF An)=l1.map (DF An)++DF An i::l2.map (DF An):=by simp
   rw[hmap]at h hps;have hnl:∀y∈l1,listed.getD y false=false:=fun y hy=>by
    have:=((hm y).1 (by simp[hy])).2;simp only[Av]at this⊢;cases hq:listed[y]? with
    |none=>rfl
    |some b=>rw[hq]at this;simpa using this
   have Gn:∀y∈l1.map (DF An),JH y (DF An i)=true/\(B5 o=.IP\/B5 y.o=.Ia):=by
    intro y hy;have:=J6 hps y hy;obtain⟨j,hj,rfl⟩:=A8.1 hy;simp only[MJ,BI,AI,beq_iff_eq,eg]at this;rcases this with hh|hh
    ·exfalso;have hj2:=hnl j hj;have e1:(DF An i).i=i:=by simp[DF,ho]
     have e2:(DF An j).i=j:=by unfold DF;split<;>rfl
     rw[e1,e2]at hh;rw[FM hcl _ _ _ o ho Ha hh]at hj2;cases hj2
    ·exact hh
   have KQ:∀j,j∈l1++l2↔j<An.size/\(listed.setIfInBounds i true).getD j true=false:=by
    intro j;by_cases hji:j=i
    ·subst hji;have hni:j∉l1++l2:=by
      rw[Bg]at hnd;intro hm2;rcases Aj.1 hm2 with hq|hq
      ·exact hnd.2.2 j hq j DI J
      ·have:=(Bv.1 hnd.2.1).1;exact this hq
     simp only[hni,false_iff];rintro⟨_,hq⟩;have:j<listed.size:=I;simp[this]at hq
    ·have:(listed.setIfInBounds i true).getD j true=listed.getD j true:=EE true (Ne.symm hji);rw[this,<-hm j];simp[hji]
   have hnd':(l1++l2).Nodup:=hnd.sublist (EL (List.sublist_cons_self _ _) _);have hcl':H5 An (listed.setIfInBounds i true):=by
    intro j o' ho' hj e he hb;by_cases hji:j=i
    ·subst hji;rw[ho]at ho';cases ho';exact Dl (Ha e he hb)
    ·rw[EE true (Ne.symm hji)]at hj;exact Dl (hcl j o' ho' hj e he hb)
   have XE:=G5 hps;have hlen':(l1++l2).length<=fuel:=by simp at hlen⊢;omega
   have step:∀(v:Value) (S':A2) (w':World),(∀e,o.dst=some e->e<n)->Ge (some K) S'->DL P n (some K) Q (l1.map (DF An)++l2.map (DF An)) (Dc o.dst v fr) S'->Ds A w' (S'++R)->
    wpAny P .any An (HY n A R Q) fuel (listed.setIfInBounds i true) (a.put o.dst v) w':=by
    intro v S' w' hdn hK' hD hs';refine ih (l1++l2) _ (Dc o.dst v fr) S' _ w' hnd' KQ (by simpa using hsz) hcl' (by rw[Ai];exact XE) hlen' hK' (by rw[Ai];exact hD) ?_ (hk.Dc hdn v) hs';exact hd.put ho v
   have hwt:=G4 ho (hgd i hlt) a;unfold wpOp;simp only[ho,hwt];by_cases hfc:B5 o=.IP
   ·obtain⟨obj,mk,d,hF,hdst,hdn⟩:=hfr i o ho hfc;have hgn:=hfg i hlt (by rw[eg];exact hfc);have hD:=DL.Hz (x:=DF An i) (by rw[eg];exact hfc) hgn (by rw[eg];exact hF) (by rw[eg];exact hdst) hdn _ fr S (fun y hy=>HZ (Gn y hy).1) h w.heap.size;rw[hgn];simp only[Wt,C9];refine .inl ?_;rw[Oper.wp,hF a.eval w];obtain⟨U,p⟩:=hK;exact step (mk w.heap.size) _ _ (fun e he=>by rw[hdst]at he;cases he;exact hdn) ⟨_,(List.Perm.cons _ p).trans CY.symm⟩ (by rw[hdst];exact hD) (hs.new _)
   ·have hF:=DL.first (x:=DF An i) _ fr S hK (fun y hy=>⟨HZ (Gn y hy).1,(Gn y hy).2.resolve_left hfc⟩) h
    rw[First,eg]at hF;obtain⟨hdn,hF⟩:=hF;have hF:=hF A R a w hk hs;split
    ·rename_i hw;rw[BE hw]at hF;refine .inl (Oper.wp_mono ?_ (E7.upon hF (fun c w' hc=>⟨hd.1,hc⟩)));rintro a' w' ⟨v,rfl,S',hs',hK',hD⟩;exact step v S' w' hdn hK' hD hs'
    ·rename_i hw;rw[Ah hw]at hF;exact step undef S w hdn hF.1 hF.2 hs
variable{t:TypeId}
theorem HE(ho:o.op=.alloc t)(hz:(P.info? t).bind (·.zero)=some v):Ym P o (.cells v.cells t) (fun b=>.pointer (some ⟨b,0,none⟩)):=by intro ρ w;obtain⟨i,hi,hz⟩:=Option.bind_eq_some_iff.1 hz;simp[execOp,ho,Instr.alloc,zeroValue,typeInfo,hi,hz,newVar,newRow]
theorem G6(ho:o.op=.makeMap t none):Ym P o (.map #[] 0) (fun b=>.map (some b)):=by intro ρ w;simp[execOp,ho,Instr.makeMap]
def HO(zero:Nat->Option Value)(n:Nat)(An:Array Oper):Bool:=An.toList.all fun o=>match B5 o with
 | .IP=>(match o.op with| .alloc t=>(zero t).isSome| .makeMap _ none=>true|_=>false)&&(match o.dst with|some d=>decide (d<n)|none=>false)
 |_=>true
theorem CW.drawn{An:Array Oper}{zero:Nat->Option Value}(order:List Nat)(hm:P.follows .mixedOrders=true)(hz:∀t v,zero t=some v->(P.info? t).bind (·.zero)=some v)
 (hc:(HN An order&&FT An&&HO zero n An)=true) (hp:DV S K U) (h:DL P n (some K) Q (order.map (DF An)) fr S):CW P n (.region id An true) Q fr S:=by
 simp only[AI]at hc;obtain⟨⟨hc,hb⟩,hf⟩:=hc;simp only[HN,AI,AY]at hc;obtain⟨⟨⟨hl,hps⟩,hgd⟩,hfg⟩:=hc;have hperm:(List.range An.size).Perm order:=List.isPerm_iff.1 hl;have hin:∀i,i<An.size->i∈order:=fun i hi=>hperm.mem_iff.1 (Ak.2 hi)
 have hl:order.length=An.size:=by rw[<-hperm.length_eq];simp
 intro A R a w hd hk hs;refine wp_region_any hm (Gt (P:=P) hb ?_ (fun i hi=>hgd i (hin i hi)) ?_ An.size order _ fr S a _ (hperm.nodup_iff.1 Bc) ?_ DI ?_ hps I ⟨U,hp.perm⟩ h hd.An hk (hs.drawn _))
 ·intro i o ho hk;have:=(AY.1 hf) o (by simpa using Dw ho);rw[hk]at this;simp only[AI]at this;obtain⟨h1,h2⟩:=this;cases hd:o.dst with
  |none=>rw[hd]at h2;simp at h2
  |some d=>
   rw[hd]at h2;have h2:d<n:=by simpa using h2
   split at h1
   ·rename_i t ht;obtain⟨v,hv⟩:=BU.1 h1;exact⟨_,_,d,HE ht (hz t v hv),rfl,h2⟩
   ·rename_i ht;exact⟨_,_,d,G6 ht,rfl,h2⟩
   ·cases h1
 ·intro i hi hk;have:=hfg i (hin i hi);rw[hk]at this;simpa using this
 ·intro i;rw[<-hperm.mem_iff,Ak];constructor
  ·intro hi;exact⟨hi,by simp[hi]⟩
  ·exact fun hi=>hi.1
 ·intro i o ho hl;simp only[Av]at hl;have:i<An.size:=(A1.1 ho).1;simp[this]at hl
theorem DL.An{An:Array Oper}(hgd:(List.range An.size).all (fun i=>FY An (DF An i))=true):∀(l:List Nat) (fr:Fr) (S:A2),(∀i∈l,i<An.size)->DL P n none Q (l.map (DF An)) fr S->
 ∀A R a w,eB A An a->Ep n a fr->Ds A w (S++R)->wpOps P An (HY n A R Q) l a w
 |[],fr,S,_,h,A,R,a,w,hd,hk,hs=>by
  cases h with
  |nil hq hf hp=>exact⟨hd.1,_,_,hk.sub hf,hs.perm (hp.symm.append_right R),hq⟩
 |i::l,fr,S,hl,h,A,R,a,w,hd,hk,hs=>by
  have hlt:=hl i DI;have ho:=B6 hlt;have hl':=fun j hj=>hl j (Aw _ hj)
  have eg:(DF An i).o=An[i]:=by simp[DF,ho]
  simp only[AY,Ak]at hgd;have hgd':(List.range An.size).all (fun i=>FY An (DF An i))=true:=by simpa using hgd
  have hw:=G4 ho (hgd i hlt) a;rw[wpOps_cons];unfold wpOp;simp only[ho,hw];simp only[Ap]at h;cases h with
  |skip hg hdn h=>rw[La hk hg,Ah DI];rw[eg]at hdn h;exact DL.An hgd' l _ _ hl' h A R _ w (hd.put ho _) (hk.Dc hdn _) hs
  | @Ia _ _ _ _ d v hkd hg hdst hdn hv h=>rw[La hk hg,BE J];rw[eg]at hdst hv;refine .inl ?_;rw[Oper.wp,hv A R a w hk hs];have:=DL.An hgd' l _ _ hl' h A R (a.put (some d) v) w (by rw[<-hdst];exact hd.put ho v) (hk.put hdn v) hs;rw[<-hdst]at this;exact this
  | @IP _ _ _ _ d obj mk hkd hg hdst hdn hv h=>rw[hg];simp only[Wt,C9];rw[eg]at hdst hv;refine .inl ?_;rw[Oper.wp,hv a.eval w];have:=DL.An hgd' l _ _ hl' (h w.heap.size) A R (a.put (some d) (mk w.heap.size)) _ (by rw[<-hdst];exact hd.put ho _) (hk.put hdn _) (hs.new obj);rw[<-hdst]at this;exact this
  |eff post Eu hkd hg hdn he hp hK h=>rw[La hk hg,BE J];rw[eg]at hdn he h;refine .inl (Oper.wp_mono ?_ (E7.upon (he A R a w hk hs) (fun c w' ⟨S',h1,h2⟩=>⟨hd.1,S',h1,hp c S' h2⟩)));rintro a' w' ⟨v,rfl,S',hs',hv⟩;exact DL.An hgd' l _ _ hl' (h v S' hv) A R _ w' (hd.put ho v) (hk.Dc hdn v) hs'
theorem CW.region{An:Array Oper}(hgd:(List.range An.size).all (fun i=>FY An (DF An i))=true)(h:DL P n none Q ((List.range An.size).map (DF An)) fr S):CW P n (.region id An false) Q fr S:=fun A R a w hd hk hs=>wp_region (DL.An hgd _ fr S (fun i hi=>Ak.1 hi) h A R a w hd.An hk hs)
end
end
end Go.Proofs.YtfekkjbdcdnhlaaGreatDoor.Sep
