/- Lemmas for TopScrubs. No condition but those that each states. -/
import Derived.Test.YtfekkjbdcdnhlaaGreatDoorMad
set_option linter.all false
set_option maxHeartbeats 8000000
set_option maxRecDepth 100000
namespace Go.Proofs.YtfekkjbdcdnhlaaGreatDoor.Sep
noncomputable section
section
variable{P:Program}{n:Nat}{Q:EX}{fr:Fr}{S:A2}{ι:Type}
theorem CW.aCt{Q':EX}{x y:Code}(hyp:ι->Prop)(F:ι->Fr)(H:ι->A2)
 (h:CW P n x (IL (fun fr' S'=>∃j U,hyp j/\Eo (F j) fr'/\DV S' (H j) U) Q) fr S) (k:∀j,hyp j->CW P n y Q' (F j) (H j)):CW P n x (IL (fun fr S=>CW P n y Q' fr S) Q) fr S:=by
 refine(fun A R a w hd hk hs=>wp_mono (h A R a w hd hk hs) ?_);rintro e a' w' ⟨hd',hh⟩;refine⟨hd',?_⟩;cases e with
 |normal=>obtain⟨fr',S',hk',hs',j,U,hy,hf,hp⟩:=hh;exact⟨fr',S',hk',hs',((k j hy).sub hf).drop hp⟩
 |_=>exact hh
def KY(o:Oper):Bool:=match o.op with
 | .store .. | .box .. | .buildSlice .. | .insert .. | .mapUpdate .. | .makeSlice .. =>true
 | .call ⟨.builtin b,_,_⟩=>match b with
  | .append| .copy| .delete=>true
  |_=>false
 |_=>false
variable{P:Program} {n:Nat} {Q:EX}
variable{o:Oper}
theorem Zz(h:KY o=true)(ρ:Operand->Value)(w:World):(∃v w',(execOp ρ o).run P w=.ok (.value v) w')\/(∃w',(execOp ρ o).run P w=.ok .skip w')\/(∃x w',(execOp ρ o).run P w=.halt x w'):=by
 have hv:∀s:Sem Value,(∃v w',((do pure (.value (<-s)):Sem Next)).run P w=.ok (.value v) w')\/(∃w',((do pure (.value (<-s)):Sem Next)).run P w=.ok .skip w')\/(∃x w',((do pure (.value (<-s)):Sem Next)).run P w=.halt x w'):=fun s=>by
  simp only[Ag,BA];cases hs:s.run P w with
  |ok v w'=>exact .inl ⟨v,w',rfl⟩
  |halt x w'=>exact .inr (.inr ⟨x,w',rfl⟩)
 have hu:∀s:Sem Unit,(∃v w',((do s;pure .skip:Sem Next)).run P w=.ok (.value v) w')\/(∃w',((do s;pure .skip:Sem Next)).run P w=.ok .skip w')\/(∃x w',((do s;pure .skip:Sem Next)).run P w=.halt x w'):=fun s=>by
  simp only[Ag,BA];cases hs:s.run P w with
  |ok v w'=>exact .inr (.inl ⟨w',rfl⟩)
  |halt x w'=>exact .inr (.inr ⟨x,w',rfl⟩)
 have hv2:∀r:Result Value,(∃v w',(r.andThen fun v w'=>Result.ok (Next.value v) w')=.ok (.value v) w')\/(∃w',(r.andThen fun v w'=>Result.ok (Next.value v) w')=.ok .skip w')\/(∃x w',(r.andThen fun v w'=>Result.ok (Next.value v) w')=.halt x w'):=fun r=>by
  cases r with
  |ok v w'=>exact .inl ⟨v,w',rfl⟩
  |halt x w'=>exact .inr (.inr ⟨x,w',rfl⟩)
 unfold KY at h;split at h
 ·rename_i t a x ho;simp only[execOp,ho];exact hu _
 ·rename_i t x ho;simp only[execOp,ho];exact hv _
 ·rename_i t l ps ho;simp only[execOp,ho];exact hv _
 ·rename_i t m k x ho;simp only[execOp,ho];exact hu _
 ·rename_i t m k x ho;simp only[execOp,ho];exact hu _
 ·rename_i t l c ho;simp only[execOp,ho];exact hv _
 ·rename_i b AA ts ho;cases b<;>simp at h<;>simp only[execOp,ho,resolve,invoke,builtin,Ag,BA,Ad];all_goals exact hv2 _
 ·cases h
def Z1(P:Program)(n:Nat)(An:Array Oper)(K:A2)(Q:EX)(A:Om)(R:A2)(a:Act)(w:World)(o:List Nat):Prop:=∃fr S,Ep n a fr/\Ds A w (S++R)/\Ge (some K) S/\DL P n (some K) Q (o.map (DF An)) fr S
def Ef(An:Array Oper)(i:Nat):Bool:=B5 (DF An i).o==.XC
def Yp(An:Array Oper)(y x:FO):Bool:=Ho An An.size x.i y.i||(JH y x&&(B5 x.o==.IP||B5 y.o==.Ia))||(B5 x.o==.XC&&B5 y.o==.XC)
def HG(An:Array Oper):List FO->Bool
 |[]=>true
 |y::r=>r.all (fun x=>Yp An y x)&&HG An r
def Ov(An:Array Oper):Nat->List (List Nat)->Bool
 |0,UI=>UI.all (·.isEmpty)
 |k+1,UI=>match UI with
  |[]=>false
  |s::_=>s.all fun x=>s.any (fun y=>y !=x&&Ho An An.size x y)||(
   let kept:=UI.filter (fun t=>t.head? ==some x)
   !kept.isEmpty&&Ov An k (kept.map (·.tail)))
theorem NS{An:Array Oper}{x:FO}{l2:List FO}:∀{l1:List FO},HG An (l1++x::l2)=true->∀y∈l1,Yp An y x=true
 |[],_,y,hy=>by simp at hy
 |z::l1,h,y,hy=>by
  simp only[AQ,HG,AI,AY]at h;rcases Ab.1 hy with rfl|hy
  ·exact h.1 x DI
  ·exact NS h.2 y hy
theorem Io{An:Array Oper}{x:FO}{l2:List FO}:∀{l1:List FO},HG An (l1++x::l2)=true->HG An (l1++l2)=true
 |[],h=>by simp only[AS,HG,AI]at h;exact h.2
 |z::l1,h=>by simp only[AQ,HG,AI,AY]at h⊢;exact⟨fun y hy=>h.1 y (by simp only[Aj,Ab]at hy⊢;rcases hy with hy|hy;exact .inl hy;exact .inr (.inr hy)),Io h.2⟩
theorem Lh{p:Nat->Bool}{i:Nat}(hi:p i=true):∀{l1 l2:List Nat},((l1++i::l2).filter p).head? =some i->(l1++i::l2).Nodup->∀y∈l1,p y=false
 |[],l2,h,hn,y,hy=>by simp at hy
 |z::l1,l2,h,hn,y,hy=>by
  simp only[AQ,List.filter_cons]at h;cases hz:p z with
  |true=>rw[hz]at h;simp at h;subst h;simp at hn
  |false=>
   rw[hz]at h;simp only[Ce,Cc]at h;rcases Ab.1 hy with rfl|hy
   ·exact hz
   ·exact Lh hi h (Bv.1 hn).2 y hy
variable{K:A2}{A:Om}{R:A2}{a:Act}{w:World}{i:Nat}{oi:Oper}
theorem TA{An:Array Oper}(ho:An[i]? =some oi)(hfr:B5 oi=.IP->∃obj mk d,Ym P oi obj mk/\oi.dst=some d/\d<n)(hfg:B5 oi=.IP->(DF An i).g=none){l1 l2:List Nat}
 (Gn:∀y∈l1.map (DF An),JH y (DF An i)=true/\(B5 oi=.IP\/B5 y.o=.Ia)) (h:Z1 P n An K Q A R a w (l1++i::l2)):
 if Wt (DF An i).g a then Fq P oi a w (fun v w'=>Z1 P n An K Q A R (a.put oi.dst v) w' (l1++l2)) (fun c w'=>∃S',Ds A w' (S'++R)/\Q.Eu c S')else Z1 P n An K Q A R (a.put oi.dst undef) w (l1++l2):=by
 obtain⟨fr,S,hk,hs,hK,hD⟩:=h;have eg:(DF An i).o=oi:=by simp[DF,ho]
 have hmap:(l1++i::l2).map (DF An)=l1.map (DF An)++DF An i::l2.map (DF An):=by simp
 rw[hmap]at hD;by_cases hfc:B5 oi=.IP
 ·obtain⟨obj,mk,d,hF,hdst,hdn⟩:=hfr hfc;have hgn:=hfg hfc;have hD2:=DL.Hz (x:=DF An i) (by rw[eg];exact hfc) hgn (by rw[eg];exact hF) (by rw[eg];exact hdst) hdn _ fr S (fun y hy=>HZ (Gn y hy).1) hD w.heap.size;rw[hgn];simp only[Wt,C9,Fq];rw[hF a.eval w];refine⟨_,_,?_,hs.new obj,?_,by rw[Ai];exact hD2⟩
  ·rw[hdst];exact hk.put hdn _
  ·obtain⟨U,p⟩:=hK;exact⟨[(w.heap.size,obj)]::U,(List.Perm.cons _ p).trans CY.symm⟩
 ·have hF:=DL.first (x:=DF An i) _ fr S hK (fun y hy=>⟨HZ (Gn y hy).1,(Gn y hy).2.resolve_left hfc⟩) hD
  rw[First,eg]at hF;obtain⟨hdn,hF⟩:=hF;have hF:=hF A R a w hk hs;split
  ·rename_i hw;rw[BE hw]at hF;exact E7.mono (fun v w' ⟨S',h1,h2,h3⟩=>⟨_,S',hk.Dc hdn v,h1,h2,by rw[Ai];exact h3⟩) (fun _ _ hc=>hc) hF
  ·rename_i hw;rw[Ah hw]at hF;exact⟨_,S,hk.Dc hdn undef,hs,hF.1,by rw[Ai];exact hF.2⟩
theorem eP{Eu:List PanicEntry->World->Prop}{Kf:ι->Value->World->Prop}{l:List ι}(hne:l≠[])(hpl:B5 oi=.XC->KY oi=true\/∃x,l=[x])(aCu:B5 oi≠.XC->∀f args w',(execOp a.eval oi).run P w≠.ok (.enter f args) w')
 (h:∀x∈l,Fq P oi a w (Kf x) Eu):Fq P oi a w (fun v w'=>∀x∈l,Kf x v w') Eu:=by
 obtain⟨x0,hx0⟩:=DW l hne;have h0:=h x0 hx0;have key:(∀f args w',(execOp a.eval oi).run P w≠.ok (.enter f args) w')->Fq P oi a w (fun v w'=>∀x∈l,Kf x v w') Eu:=fun hno=>by
  unfold Fq at*
  cases hr:(execOp a.eval oi).run P w with
  |ok y w'=>rw[hr]at h h0;cases y<;>simp only[E7]at h h0⊢<;>first|exact h|exact h0|exact absurd hr (hno _ _ _)
  |halt y w'=>rw[hr]at h0;exact by cases y<;>simp only[E7]at h0⊢;exact h0
 by_cases ho:B5 oi=.XC
 ·rcases hpl ho with hp|⟨x,rfl⟩
  ·refine key fun f args w' hr=> ?_
   rcases Zz (P:=P) hp a.eval w with⟨v,w1,h1⟩|⟨w1,h1⟩|⟨y,w1,h1⟩<;>rw[hr]at h1<;>cases h1
  ·exact E7.mono (fun v w' hv y hy=>by obtain rfl:=AP.1 hy;exact hv) (fun _ _ hc=>hc) (h x DI)
 ·exact key (aCu ho)
theorem Vb(h:B5 o≠.XC)(ρ:Operand->Value)(w:World)(f:FuncId)(args:Array Value)(w':World):(execOp ρ o).run P w≠.ok (.enter f args) w':=by
 have hv2:∀r:Result Value,(r.andThen fun v w'=>Result.ok (Next.value v) w')≠.ok (.enter f args) w':=fun r=>by cases r<;>simp
 have hu2:∀r:Result Unit,(r.andThen fun v w'=>Result.ok (Next.skip) w')≠.ok (.enter f args) w':=fun r=>by cases r<;>simp
 obtain⟨dst,op,type,pos,after,guard⟩:=o;cases op with
 |call c=>
  obtain⟨cal,AA,ts⟩:=c;cases cal with
  |builtin b=>cases b<;>simp[B5]at h<;>simp only[execOp,resolve,invoke,builtin,Ag,BA,Ad]<;>exact hv2 _
  |value f=>simp[B5]at h
  |invoke r m=>simp[B5]at h
 |nilCheck x=>
  simp only[execOp];split
  ·exact fun e=>by simp[runtimePanic]at e
  ·exact fun e=>by simp[runtimePanic]at e
  ·exact fun e=>by simp[runtimePanic]at e
  ·rename_i first cap _
   split
   ·exact fun e=>by simp[runtimePanic]at e
   ·rename_i t v hq;simp only[Ag];intro e;cases hr:(program).run P w with
    |halt x w1=>rw[hr]at e;simp at e
    |ok p w1=>
     rw[hr]at e;simp only[Ad]at e;cases hn:(nilAhead (p.types.size+Made.depth) t v _).run P w1 with
     |halt x w2=>rw[hn]at e;simp at e
     |ok q w2=>rw[hn]at e;simp only[Ad]at e;split at e<;>simp at e
   ·exact fun e=>by simp at e
  ·exact fun e=>by simp at e
 |move x=>simp[execOp]
 |assign x=>simp[execOp]
 |_=>first
  |(simp[B5]at h;done)
  |(simp only[execOp,Ag,BA];first|exact hv2 _|exact hu2 _)
  |(
   simp only[execOp,Ag,BA];intro e;revert e;generalize(Sem.run P _ w)=r;cases r<;>simp)
theorem N3{p:Nat->Bool}(hi:p i=false)(l1 l2:List Nat):(l1++i::l2).filter p=(l1++l2).filter p:=by simp[hi]
theorem nc{An:Array Oper}(hbk:FT An=true)(hfr:∀(i:Nat) (o:Oper),An[i]? =some o->B5 o=.IP->∃obj mk d,Ym P o obj mk/\o.dst=some d/\d<n)(hgd:∀i,i<An.size->FY An (DF An i)=true)
 (hfg:∀i,i<An.size->B5 (DF An i).o=.IP->(DF An i).g=none) (hpl:∀(i:Nat) (o:Oper),An[i]? =some o->B5 o=.XC->KY o=true):
 ∀(fuel fe:Nat) (E6:List (List Nat)) (listed:Array Bool) (a:Act) (w:World),E6≠[]->(∀o∈E6,o.Nodup/\(∀i,i∈o↔i<An.size/\listed.getD i true=false)/\HG An (o.map (DF An))=true/\o.length<=fuel/\Z1 P n An K Q A R a w o)->
  listed.size=An.size->H5 An listed->Ov An fe (E6.map (·.filter (Ef An)))=true->eB A An a->wpAny P .any An (HY n A R Q) fuel listed a w:=by
 intro fuel;induction fuel with
 |zero=>
  intro fe E6 listed a w hne hall hsz hcl hcov hd;obtain⟨o,ho⟩:=DW E6 hne;obtain⟨hnd,hm,hps,hlen,hF⟩:=hall o ho;obtain rfl:o=[]:=by cases o<;>simp_all
  have hr:Region.ready .any An listed=[]:=by rw[List.eq_nil_iff_forall_not_mem];intro j hj;obtain⟨h0,o,ho,_⟩:=mem_ready.1 hj;have:=(hm j).2 ⟨(A1.1 ho).1,h0⟩;simp at this
  obtain⟨fr,S,hk,hs,hK,hD⟩:=hF;cases hD with
  |nil hq hf hp=>exact⟨hr,hd.1,_,_,hk.sub hf,hs.perm (hp.symm.append_right R),hq⟩
 |succ fuel ih=>
  intro fe E6 listed a w hne hall hsz hcl hcov hd;refine⟨fun hr=> ?_,fun i hi=> ?_⟩
  ·obtain⟨o,ho⟩:=DW E6 hne;obtain⟨hnd,hm,hps,hlen,fr,S,hk,hs,hK,hD⟩:=hall o ho;cases o with
   |nil=>cases hD with
    |nil hq hf hp=>exact⟨hd.1,_,_,hk.sub hf,hs.perm (hp.symm.append_right R),hq⟩
   |cons i l=>
    exfalso;have eQ:∀k,k<An.size->listed.getD k true=true:=by
     intro k;induction k using Nat.strongRecOn with
     |_ k ihk=>
      intro hk2;cases hq:listed.getD k true with
      |true=>rfl
      |false=>
       exfalso;have:k∈Region.ready .any An listed:=by
        refine mem_ready.2 ⟨hq,An[k],B6 hk2,fun e he hb=> ?_⟩;have hlt:e.on<k:=by have h1:=hbk;simp only[FT,AY]at h1;have h2:=h1 (An[k],k) (Cm.2 (by simp[hk2]));simp only[AY]at h2;have h3:=h2 e (by simpa using he);simpa[hb]using h3
        have h4:=ihk e.on hlt I;simp only[Av]at h4⊢;have:e.on<listed.size:=I;simpa[this]using h4
       rw[hr]at this;cases this
    have h5:=(hm i).1 DI;rw[eQ i h5.1]at h5;cases h5.2
  ·obtain⟨h0,o,ho,Ha⟩:=mem_ready.1 hi;have hlt:=(A1.1 ho).1;have eg:(DF An i).o=o:=by simp[DF,ho]
   have e1:(DF An i).i=i:=by simp[DF,ho]
   have e2:∀j,(DF An j).i=j:=fun j=>by unfold DF;split<;>rfl
   have hnl:∀j,j<An.size/\listed.getD j true=false->listed.getD j false=false:=fun j hj=>by
    have:=hj.2;simp only[Av]at this⊢;cases hq:listed[j]? with
    |none=>rfl
    |some b=>rw[hq]at this;simpa using this
   have ML:∀j,j<An.size/\listed.getD j true=false->Ho An An.size i j=false:=fun j hj=>by
    cases hh:Ho An An.size i j with
    |false=>rfl
    |true=>have:=FM hcl _ _ _ o ho Ha hh;rw[hnl j hj]at this;cases this
   have hcl':H5 An (listed.setIfInBounds i true):=by
    intro j o' ho' hj e he hb;by_cases hji:j=i
    ·subst hji;rw[ho]at ho';cases ho';exact Dl (Ha e he hb)
    ·rw[EE true (Ne.symm hji)]at hj;exact Dl (hcl j o' ho' hj e he hb)
   have split:∀t∈E6,(Ef An i=true->(t.filter (Ef An)).head? =some i)->∃l1 l2,t=l1++i::l2/\(∀y∈l1.map (DF An),JH y (DF An i)=true/\(B5 o=.IP\/B5 y.o=.Ia))/\
    (l1++l2).Nodup/\(∀j,j∈l1++l2↔j<An.size/\(listed.setIfInBounds i true).getD j true=false)/\HG An ((l1++l2).map (DF An))=true/\(l1++l2).length<=fuel/\(Ef An i=true->∀y∈l1,Ef An y=false):=by
    intro t ht hhead;obtain⟨hnd,hm,hps,hlen,hF⟩:=hall t ht;have hin:=(hm i).2 ⟨hlt,h0⟩;obtain⟨l1,l2,rfl⟩:=List.append_of_mem hin;have hno:Ef An i=true->∀y∈l1,Ef An y=false:=fun hoi y hy=>Lh hoi (hhead hoi) hnd y hy
    refine⟨l1,l2,rfl,?_,?_,?_,?_,?_,hno⟩
    ·intro y hy;have hmap:(l1++i::l2).map (DF An)=l1.map (DF An)++DF An i::l2.map (DF An):=by simp
     rw[hmap]at hps;have:=NS hps y hy;obtain⟨j,hj,rfl⟩:=A8.1 hy;have hjm:=(hm j).1 (by simp[hj]);simp only[Yp,BI,AI,beq_iff_eq,eg,e2]at this;rcases this with(hh|hh)|hh
     ·rw[ML j hjm]at hh;cases hh
     ·exact hh
     ·exfalso;have h1:Ef An i=true:=by simp[Ef,eg,hh.1]
      have h2:=hno h1 j hj;simp[Ef,hh.2]at h2
    ·exact hnd.sublist (EL (List.sublist_cons_self _ _) _)
    ·intro j;by_cases hji:j=i
     ·subst hji;have hni:j∉l1++l2:=by
       rw[Bg]at hnd;intro hm2;rcases Aj.1 hm2 with hq|hq
       ·exact hnd.2.2 j hq j DI J
       ·have:=(Bv.1 hnd.2.1).1;exact this hq
      simp only[hni,false_iff];rintro⟨_,hq⟩;have:j<listed.size:=I;simp[this]at hq
     ·have:(listed.setIfInBounds i true).getD j true=listed.getD j true:=EE true (Ne.symm hji);rw[this,<-hm j];simp[hji]
    ·have hmap:(l1++i::l2).map (DF An)=l1.map (DF An)++DF An i::l2.map (DF An):=by simp
     rw[hmap]at hps;rw[Ai];exact Io hps
    ·simp at hlen⊢;omega
   let kept:=E6.filter (fun t=> !Ef An i||(t.filter (Ef An)).head? ==some i)
   have Qp:∀t∈kept,t∈E6/\(Ef An i=true->(t.filter (Ef An)).head? =some i):=fun t ht=>by obtain⟨h1,h2⟩:=Bh.1 ht;refine⟨h1,fun hoi=> ?_⟩;rw[hoi]at h2;simpa using h2
   have eR:kept≠[]/\∃td,Ov An td (kept.map fun t=>((t.erase i).filter (Ef An)))=true:=by
    cases hoi:Ef An i with
    |false=>
     have hk:kept=E6:=List.filter_eq_self.2 (fun t _=>by simp[hoi]);rw[hk];refine⟨hne,fe,?_⟩;rw[<-hcov];congr 1
     refine BB fun t ht=> ?_
     obtain⟨l1,l2,rfl,_,hnd',hm',_⟩:=split t ht (fun h=>by rw[hoi]at h;cases h);have hni:i∉l1:=fun hq=>by have:=(hall _ ht).1;rw[Bg]at this;exact this.2.2 i hq i DI J
     rw[Dj _ hni,Dm,N3 hoi]
    |true=>
     cases fe with
     |zero=>exfalso;obtain⟨t,ht⟩:=DW E6 hne;simp only[Ov,AY]at hcov;have h1:=hcov _ (A8.2 ⟨t,ht,rfl⟩);have hin:=((hall t ht).2.1 i).2 ⟨hlt,h0⟩;have:i∈t.filter (Ef An):=Bh.2 ⟨hin,hoi⟩;simp only[List.isEmpty_iff]at h1;rw[h1]at this;cases this
     |succ fe=>
      obtain⟨t0,tl,rfl⟩:∃t0 tl,E6=t0::tl:=by cases E6 with
       |nil=>exact absurd J hne
       |cons x l=>exact⟨x,l,rfl⟩
      simp only[Ov,Ap,AY]at hcov;have hin:=((hall t0 DI).2.1 i).2 ⟨hlt,h0⟩;have h1:=hcov i (Bh.2 ⟨hin,hoi⟩);simp only[BI]at h1;rcases h1 with h1|h1
      ·exfalso;obtain⟨y,hy,hh⟩:=Dq.1 h1;simp only[AI]at hh;have hym:=((hall t0 DI).2.1 y).1 (Bh.1 hy).1;rw[ML y hym]at hh;cases hh.2
      ·simp only[AI,Bo,List.isEmpty_eq_false_iff]at h1;have hmf:(List.filter (Ef An) t0::List.map (fun x=>List.filter (Ef An) x) tl).filter (fun t=>t.head? ==some i)=kept.map (·.filter (Ef An)):=by
        show List.filter _ (List.map (·.filter (Ef An)) (t0::tl))=_;rw[List.filter_map];congr 1
        refine List.filter_congr fun t _=> ?_
        simp[hoi]
       rw[hmf]at h1;refine⟨fun e=>h1.1 (by rw[e];rfl),fe,?_⟩;rw[<-h1.2,List.map_map];congr 1
       refine BB fun t ht=> ?_
       obtain⟨ht1,ht2⟩:=Qp t ht;obtain⟨l1,l2,rfl,_,hnd',hm',_,_,hno⟩:=split t ht1 ht2;have hni:i∉l1:=fun hq=>by have:=(hall _ ht1).1;rw[Bg]at this;exact this.2.2 i hq i DI J
       have hf1:l1.filter (Ef An)=[]:=List.filter_eq_nil_iff.2 (fun y hy=>by rw[hno hoi y hy];simp);rw[Dj _ hni,Dm];simp[List.filter_append,hf1,List.filter_cons,hoi]
   obtain⟨hkne,td,hcv⟩:=eR;have hwt:=G4 ho (hgd i hlt) a;have tf:=hfr i o ho;have tg:B5 o=.IP->(DF An i).g=none:=fun h=>hfg i hlt (by rw[eg];exact h)
   have hfirst:∀t∈kept,if Wt (DF An i).g a then Fq P o a w (fun v w'=>Z1 P n An K Q A R (a.put o.dst v) w' (t.erase i)) (fun c w'=>∃S',Ds A w' (S'++R)/\Q.Eu c S')else Z1 P n An K Q A R (a.put o.dst undef) w (t.erase i):=by
    intro t ht;obtain⟨ht1,ht2⟩:=Qp t ht;obtain⟨l1,l2,rfl,Gn,_⟩:=split t ht1 ht2;have hni:i∉l1:=fun hq=>by have:=(hall _ ht1).1;rw[Bg]at this;exact this.2.2 i hq i DI J
    rw[Dj _ hni,Dm];exact TA ho tf tg Gn (hall _ ht1).2.2.2.2
   have step:∀(v:Value) (w':World),(∀t∈kept,Z1 P n An K Q A R (a.put o.dst v) w' (t.erase i))->wpAny P .any An (HY n A R Q) fuel (listed.setIfInBounds i true) (a.put o.dst v) w':=by
    intro v w' hv;refine ih td (kept.map (·.erase i)) _ _ w' (by simpa using hkne) ?_ (by simpa using hsz) hcl' (by rw[List.map_map];exact hcv) (hd.put ho v);intro u hu;obtain⟨t,ht,rfl⟩:=A8.1 hu;have hv1:=hv t ht;obtain⟨ht1,ht2⟩:=Qp t ht;obtain⟨l1,l2,rfl,Gn,h3,h4,h5,h6,_⟩:=split t ht1 ht2;have hni:i∉l1:=fun hq=>by have:=(hall _ ht1).1;rw[Bg]at this;exact this.2.2 i hq i DI J
    rw[Dj _ hni,Dm]at hv1⊢;exact⟨h3,h4,h5,h6,hv1⟩
   unfold wpOp;simp only[ho,hwt];by_cases hw:Wt (DF An i).g a=true
   ·rw[BE hw];refine .inl ?_;have hvp:=eP (P:=P) (oi:=o) (a:=a) (w:=w) (Eu:=fun c w'=>∃S',Ds A w' (S'++R)/\Q.Eu c S') (Kf:=fun t v w'=>Z1 P n An K Q A R (a.put o.dst v) w' (t.erase i)) hkne (fun hko=>.inl (hpl i o ho hko)) (fun hko f args w'=>Vb hko a.eval w f args w') (fun t ht=>by have:=hfirst t ht;rw[BE hw]at this;exact this);refine Oper.wp_mono ?_ (E7.upon hvp (fun c w' hc=>⟨hd.1,hc⟩));rintro a' w' ⟨v,rfl,hv⟩;exact step v w' hv
   ·rw[Ah hw];exact step undef w (fun t ht=>by have:=hfirst t ht;rw[Ah hw]at this;exact this)
def eT(An:Array Oper)(E6:List (List Nat)):Bool:=
 !E6.isEmpty&&E6.all (fun o=>(List.range An.size).isPerm o&&HG An (o.map (DF An)))&&(List.range An.size).all (fun i=>FY An (DF An i))&&
 (List.range An.size).all (fun i=>match B5 (DF An i).o with| .IP=>(DF An i).g.isNone| .XC=>KY (DF An i).o|_=>true)&&Ov An An.size (E6.map (·.filter (Ef An)))
variable{id:Nat}{U:A2}
theorem CW.tj{An:List Oper}{zero:Nat->Option Value}(E6:List (List Nat))(hm:P.follows .mixedOrders=true)(hz:∀t v,zero t=some v->(P.info? t).bind (·.zero)=some v)
 (hc:(eT An.toArray E6&&FT An.toArray&&HO zero n An.toArray)=true) (hp:DV S K U) (h:∀o∈E6,DL P n (some K) Q (E2 An o) fr S):CW P n (.region id An.toArray true) Q fr S:=by
 simp only[AI]at hc;obtain⟨⟨hc,hb⟩,hf⟩:=hc;simp only[eT,AI,AY,Bo,List.isEmpty_eq_false_iff,Ak]at hc;obtain⟨⟨⟨⟨hne,hall⟩,hgd⟩,hfg⟩,hcov⟩:=hc;intro A R a w hd hk hs;refine wp_region_any hm (nc (P:=P) (Q:=Q) (K:=K) hb ?_ hgd ?_ ?_ An.toArray.size An.toArray.size E6 _ a _ hne ?_ DI ?_ hcov hd.An)
 ·intro i o ho hk;have:=(AY.1 hf) o (by simpa using Dw ho);rw[hk]at this;simp only[AI]at this;obtain⟨h1,h2⟩:=this;cases hd:o.dst with
  |none=>rw[hd]at h2;simp at h2
  |some d=>
   rw[hd]at h2;have h2:d<n:=by simpa using h2
   split at h1
   ·rename_i t ht;obtain⟨v,hv⟩:=BU.1 h1;exact⟨_,_,d,HE ht (hz t v hv),rfl,h2⟩
   ·rename_i ht;exact⟨_,_,d,G6 ht,rfl,h2⟩
   ·cases h1
 ·intro i hi hk;have:=hfg i hi;rw[hk]at this;simpa using this
 ·intro i o ho hk;have hi:i<An.toArray.size:=(A1.1 ho).1;have:=hfg i hi;have eg:(DF An.toArray i).o=o:=by simp only[DF,ho]
  rw[eg,hk]at this;exact this
 ·intro o ho;obtain⟨h1,h2⟩:=hall o ho;have hperm:(List.range An.toArray.size).Perm o:=List.isPerm_iff.1 h1;refine⟨hperm.nodup_iff.1 Bc,fun i=> ?_,h2,?_,fr,S,hk,hs.drawn _,⟨U,hp.perm⟩,?_⟩
  ·rw[<-hperm.mem_iff,Ak];constructor
   ·intro hi;exact⟨hi,by simp at hi⊢;simp[hi]⟩
   ·exact fun hi=>hi.1
  ·rw[<-hperm.length_eq];simp
  ·have:=h o ho;rw[G7]at this;have e:DF An.toArray=Jf An:=funext fun i=>by rw[Jm]
   rw[e];exact this
 ·intro i o ho hl;simp only[Av]at hl;have:i<An.toArray.size:=(A1.1 ho).1;simp at this;simp[this]at hl
end
theorem J9(S:A2):DV S S []:=by
 induction S with
 |nil=>exact .nil
 |cons c S ih=>exact .cons .here ih
variable{P:Program}{n:Nat}{Q:EX}{fr:Fr}{S:A2}{id:Nat}
theorem CW.dA{An:List Oper}{l:List FO}{zero:Nat->Option Value}(order:List Nat)(hm:P.follows .mixedOrders=true)(hz:∀t v,zero t=some v->(P.info? t).bind (·.zero)=some v)
 (hc:(HN An.toArray order&&FT An.toArray&&HO zero n An.toArray)=true) (hl:E2 An order=l) (h:DL P n (some S) Q l fr S):CW P n (.region id An.toArray true) Q fr S:=CW.dw order S hm hz hc (J9 S) hl h
theorem TB(zs:List Value):∀m:Nat,(List.range (m*zs.length)).map (fun i=>zs.getD (i%zs.length) undef)=(List.replicate m zs).flatten
 |0=>by simp
 |m+1=>by
  have h0:(List.range zs.length).map (fun i=>zs.getD (i%zs.length) undef)=zs:=by apply List.ext_getElem DI;intro i h1 h2;simp only[D3,List.length_range]at h1;simp[Dh h1,h2]
  rw[Nat.succ_mul,Nat.add_comm,List.range_add,Ai,h0,CJ,AW,<-TB zs m,List.map_map];congr 1
  apply BB;intro i _;simp[Function.comp]
section
variable{P:Program} {T:Tr} {n:Nat} {K:Option A2} {Q:EX} {fr:Fr} {S:A2} {rest:List FO}
variable{i ty d:Nat} {pos:String} {af:Array Edge} {gd g:Option (Nat×Bool)}
variable{t e CU sz GN m:Nat}{x y:Operand}{k k':IntKind}{z:Value}{zs:List Value}
theorem Yq(hT:Dp P T=true){zero:Nat->Option Value}(hz:∀t v,zero t=some v->(P.info? t).bind (·.zero)=some v)(ht:T.get t=some ⟨.sl e CU,sz⟩)(hE:Ew P e CU GN=true)
 (hze:zero e=some z) (hzs:z.cells=zs.toArray) (hx:Eg fr x=some (.int k (m:Int))) (hy:Eg fr y=some (.int k' (m:Int))) (hm:GN*m<=281474976710656) (h63:m<=9223372036854775807):
 FR P n ⟨some d,.makeSlice t x y,ty,pos,af,gd⟩ fr (.cells (List.replicate m zs).flatten.toArray e (0,0)) (fun b=>.slice (some ⟨b,0,none⟩) m m):=by
 obtain⟨ie,z',hi,h1,h2,hz',h3⟩:=Gy hE;obtain⟨hu,_⟩:=Et hT ht J;have hzz:=hz _ _ hze;rw[hi]at hzz;simp only[Option.bind_some]at hzz;rw[hzz]at hz';cases hz';have hsz:zs.length=CU:=by rw[hzs]at h3;simpa using h3
 intro a w hk;have hr:=run_make (P:=P) w t e ie z hu hi hzz k k' m m I (A4 _) (by rw[h2,<-Int.natCast_mul];omega) I;have hcells:madeCells z.cells ((m:Int).toNat*ie.size)=(List.replicate m zs).flatten.toArray:=by
  rw[<-TB,h1,<-hsz,hzs,madeCells];apply Bl.1;simp only[Array.toList_map,Array.toList_range,Int.toNat_natCast];apply BB;intro j hj;have:j<m*zs.length:=Ak.1 hj;have hp:0<zs.length:=by
   rcases Nat.eq_zero_or_pos zs.length with h|h;·rw[h]at this;simp at this
   ·exact h
  have hlt:=Nat.mod_lt j hp;simp[BR,hlt,getElem!_def,B6]
 simp only[execOp,hk.eval hx,hk.eval hy,Ag,hr,Ad,BA,World.alloc,Int.toNat_natCast];rw[Int.toNat_natCast]at hcells;rw[hcells]
theorem DL.tm(hT:Dp P T=true){zero:Nat->Option Value}(hz:∀t v,zero t=some v->(P.info? t).bind (·.zero)=some v)(hg:lg fr g=some true)(hn:Nat.blt d n=true)(ht:T.get t=some ⟨.sl e CU,sz⟩)(hE:Ew P e CU GN=true)
 (hze:zero e=some z) (hzs:z.cells=zs.toArray) (hx:Eg fr x=some (.int k (m:Int))) (hy:Eg fr y=some (.int k' (m:Int))) (hm:GN*m<=281474976710656) (h63:m<=9223372036854775807) (hK:Ge K S)
 (h:∀b,DL P n K Q rest ((d,.slice (some ⟨b,0,none⟩) m m)::fr) (A7 b (List.replicate m zs).flatten e::S)):
 DL P n K Q (⟨i,⟨some d,.makeSlice t x y,ty,pos,af,gd⟩,g⟩::rest) fr S:=by
 exact .fresh J hg J hn (Yq hT hz ht hE hze hzs hx hy hm h63) (fun _=>hK.cons) h
end
def Dv{ι:Type}(ok:ι->Prop)(v:ι->Value)(F:ι->A2):Ending->A2->Prop:=fun e S'=>∃i,ok i/\e=.returned (v i)/\S'=F i
section
variable{P:Program} {n:Nat} {K:Option A2} {Q:EX} {fr:Fr} {S:A2} {rest:List FO}
variable{i ty:Nat} {pos:String} {af:Array Edge} {gd g:Option (Nat×Bool)}
variable{rs:List ResultVar}{ι:Type}{v:ι->Value}{F:ι->A2}{U:A2}
theorem BD{ok:ι->Prop}(j:ι)(hj:ok j)(h:Oq fr S P n rs (v j))(p:DV S (F j) U):(Yn P n rs (Dv ok v F)).go .ret fr S:=⟨v j,F j,U,h,p,j,hj,rfl,rfl⟩
theorem Qq{ok:ι->Prop}(j:ι)(hj:ok j)(h:Oq fr S P n rs (v j))(p:DV S (F j) U):(Yn P n rs (Dv ok v F)).go .normal fr S:=⟨v j,F j,U,h,p,j,hj,rfl,rfl⟩
theorem DL.B7{d:Nat}{f:Nat}{AA:Array Operand}{ts:Array TypeId}{vals:List Value}{ok:ι->Prop}{F:A2}{F':ι->A2}{S2:ι->A2}(hg:lg fr g=some true)(hn:Nat.blt d n=true)(ha:FP fr AA.toList=some vals)(hp:DV S F U)
 (hR:Fn P f vals F (Dv ok v F')) (hok:E5 P f=true) (hq:∀j,App (F' j) U (S2 j)) (hK:∀j,Ge K (S2 j)) (h:∀j,ok j->DL P n K Q rest ((d,v j)::fr) (S2 j)):
 DL P n K Q (⟨i,⟨some d,.call ⟨.value (.func f),AA,ts⟩,ty,pos,af,gd⟩,g⟩::rest) fr S:=
 DL.call hg hn ha hp hR hok (fun ch S1 hc=>by obtain⟨_,_,hc,_⟩:=hc;cases hc) (by rintro u S1 ⟨j,hj,hu,rfl⟩;cases hu;rw[(hq j).eq];exact⟨hK j,h j hj⟩)
end
section
variable{P:Program} {n:Nat} {Q:EX} {fr:Fr} {S:A2}
def Vd(P:Program)(n:Nat)(Q:EX)(x:FO):EX:=⟨fun e fr S=>match e with| .normal=>DL P n none Q [x] fr S|_=>False,Q.Eu⟩
theorem DL.tp{x:FO}{l2:List FO}(h:DL P n none Q (x::l2) fr S):First P n x fr S Q.Eu (fun v S'=>DL P n none Q l2 (Dc x.o.dst v fr) S'):=by
 cases h with
 |skip hg hd h=>exact⟨hd,fun A R a w hk hs=>by rw[Ah (by simp[La hk hg])];exact h⟩
 |Ia hkd hg hd hn hv h=>refine⟨fun e he=>by rw[hd]at he;cases he;exact hn,fun A R a w hk hs=> ?_⟩;rw[BE (La hk hg),Fq];rw[hv A R a w hk hs];exact⟨S,hs,by rw[hd];exact h⟩
 |IP hk hg hd hn hv h=>refine⟨fun e he=>by rw[hd]at he;cases he;exact hn,fun A R a w hk hs=> ?_⟩;rw[BE (La hk (by rw[hg];rfl)),Fq,hv a.eval w];exact⟨[(w.heap.size,_)]::S,hs.new _,by rw[hd];exact h w.heap.size⟩
 |eff post Eu hk hg hd he hp tV h=>refine⟨hd,fun A R a w hk hs=> ?_⟩;rw[BE (La hk hg)];exact E7.mono (fun v w' ⟨S',h1,h2⟩=>⟨S',h1,h v S' h2⟩) (fun c w' ⟨S',h1,h2⟩=>⟨S',h1,hp c S' h2⟩) (he A R a w hk hs)
variable{K:A2}{A:Om}{R:A2}
theorem XM{An:Array Oper}(hbk:FT An=true)(hfr:∀(i:Nat) (o:Oper),An[i]? =some o->B5 o=.IP->∃obj mk d,Ym P o obj mk/\o.dst=some d/\d<n)(hgd:∀i,i<An.size->FY An (DF An i)=true)
 (hfg:∀i,i<An.size->B5 (DF An i).o=.IP->(DF An i).g=none) (zi:Nat) (hzk:B5 (DF An zi).o≠.IP) (nf:∀y,y<An.size->y≠zi->Ho An An.size zi y=true):
 ∀(fuel:Nat) (left:List Nat) (listed:Array Bool) (fr:Fr) (S:A2) (a:Act) (w:World),(left++[zi]).Nodup->(∀i,i∈left++[zi]↔i<An.size/\listed.getD i true=false)->listed.size=An.size->H5 An listed->Gh An ((left++[zi]).map (DF An))=true->
 (left++[zi]).length<=fuel->Ge (some K) S->DL P n (some K) (Vd P n Q (DF An zi)) (left.map (DF An)) fr S->eB A An a->Ep n a fr->Ds A w (S++R)->wpAny P .any An (HY n A R Q) fuel listed a w:=by
 intro fuel;induction fuel with
 |zero=>intro left listed fr S a w hnd hm hsz hcl hps hlen hK h hd hk hs;simp at hlen
 |succ fuel ih=>
  intro left listed fr S a w hnd hm hsz hcl hps hlen hK h hd hk hs;refine⟨fun hr=> ?_,fun i hi=> ?_⟩
  ·
   exfalso;obtain⟨i,hi0⟩:∃i,i∈left++[zi]:=⟨zi,by simp⟩
   have hall:∀k,k<An.size->listed.getD k true=true:=by
    intro k;induction k using Nat.strongRecOn with
    |_ k ihk=>
     intro hk2;cases hq:listed.getD k true with
     |true=>rfl
     |false=>
      exfalso;have:k∈Region.ready .any An listed:=by
       refine mem_ready.2 ⟨hq,An[k],B6 hk2,fun e he hb=> ?_⟩;have hlt:e.on<k:=by have h1:=hbk;simp only[FT,AY]at h1;have h2:=h1 (An[k],k) (Cm.2 (by simp[hk2]));simp only[AY]at h2;have h3:=h2 e (by simpa using he);simpa[hb]using h3
       have h4:=ihk e.on hlt I;simp only[Av]at h4⊢;have:e.on<listed.size:=I;simpa[this]using h4
      rw[hr]at this;cases this
   have h5:=(hm i).1 hi0;rw[hall i h5.1]at h5;cases h5.2
  ·obtain⟨h0,o,ho,Ha⟩:=mem_ready.1 hi;have hlt:=(A1.1 ho).1;have hin:=(hm i).2 ⟨hlt,h0⟩;have eg:(DF An i).o=o:=by simp[DF,ho]
   by_cases hiz:i=zi
   ·subst hiz;have hl0:left=[]:=by
     cases left with
     |nil=>rfl
     |cons y l=>
      exfalso;have hy:=(hm y).1 DI;have hne:y≠i:=fun e=>by subst e;rw[AQ,Bv]at hnd;exact hnd.1 DI
      have hh:=nf y hy.1 hne;have:=FM hcl _ _ _ o ho Ha hh;have h2:=hy.2;simp only[Av]at this h2;cases hq:listed[y]? with
      |none=>rw[hq]at this;simp at this
      |some b=>rw[hq]at this h2;simp at this h2;rw[this]at h2;cases h2
    subst hl0;simp only[AS,AP]at hm;have hcl':H5 An (listed.setIfInBounds i true):=by
     intro j o' ho' hj e he hb;by_cases hji:j=i
     ·subst hji;rw[ho]at ho';cases ho';exact Dl (Ha e he hb)
     ·rw[EE true (Ne.symm hji)]at hj;exact Dl (hcl j o' ho' hj e he hb)
    have KQ:∀j,j∈([]:List Nat)↔j<An.size/\(listed.setIfInBounds i true).getD j true=false:=by
     intro j;simp only[Az,false_iff];rintro⟨h1,h2⟩;by_cases hji:j=i
     ·subst hji;have:j<listed.size:=I;simp[this]at h2
     ·rw[EE true (Ne.symm hji)]at h2;exact hji ((hm j).2 ⟨h1,h2⟩)
    cases h with
    | @nil tq _ S0 _ hq hf hp=>
    have hq:DL P n none Q [DF An i] tq S0:=hq;have hF:=DL.tp hq;rw[First,eg]at hF;obtain⟨hdn,hF⟩:=hF;have hk0:=hk.sub hf;have hs0:=hs.perm (hp.symm.append_right R);have hF:=hF A R a w hk0 hs0;have step:∀(v:Value) (S':A2) (w':World),DL P n none Q [] (Dc o.dst v tq) S'->Ds A w' (S'++R)->wpAny P .any An (HY n A R Q) fuel (listed.setIfInBounds i true) (a.put o.dst v) w':=by
     intro v S' w' hD hs';refine Gt (K:=[]) hbk hfr hgd hfg fuel [] _ (Dc o.dst v tq) S' _ w' .nil KQ (by simpa using hsz) hcl' J (Cj _) ⟨S',.refl _⟩ ?_ ?_ (hk0.Dc hdn v) hs'
     ·cases hD with|nil a b c=>exact .nil a b c
     ·exact hd.put ho v
    have hwt:=G4 ho (hgd i hlt) a;unfold wpOp;simp only[ho,hwt];split
    ·rename_i hw;rw[BE hw]at hF;refine .inl (Oper.wp_mono ?_ (E7.upon hF (fun c w' hc=>⟨hd.1,hc⟩)));rintro a' w' ⟨v,rfl,S',hs',hD⟩;exact step v S' w' hD hs'
    ·rename_i hw;rw[Ah hw]at hF;exact step undef S0 w hF hs0
   have hin':i∈left:=by
    rcases Aj.1 hin with h|h
    ·exact h
    ·exact absurd (AP.1 h) hiz
   obtain⟨l1,l2,rfl⟩:=List.append_of_mem hin';have hmap:(l1++i::l2).map (DF An)=l1.map (DF An)++DF An i::l2.map (DF An):=by simp
   have hmap2:(l1++i::l2++[zi]).map (DF An)=l1.map (DF An)++DF An i::(l2++[zi]).map (DF An):=by simp
   have happ:l1++i::l2++[zi]=l1++i::(l2++[zi]):=by simp
   rw[hmap]at h;rw[hmap2]at hps;rw[happ]at hnd hm hlen;have hnl:∀y∈l1,listed.getD y false=false:=fun y hy=>by
    have:=((hm y).1 (by simp[hy])).2;simp only[Av]at this⊢;cases hq:listed[y]? with
    |none=>rfl
    |some b=>rw[hq]at this;simpa using this
   have Gn:∀y∈l1.map (DF An),JH y (DF An i)=true/\(B5 o=.IP\/B5 y.o=.Ia):=by
    intro y hy;have:=J6 hps y hy;obtain⟨j,hj,rfl⟩:=A8.1 hy;simp only[MJ,BI,AI,beq_iff_eq,eg]at this;rcases this with hh|hh
    ·exfalso;have hj2:=hnl j hj;have e1:(DF An i).i=i:=by simp[DF,ho]
     have e2:(DF An j).i=j:=by unfold DF;split<;>rfl
     rw[e1,e2]at hh;rw[FM hcl _ _ _ o ho Ha hh]at hj2;cases hj2
    ·exact hh
   have KQ:∀j,j∈l1++(l2++[zi])↔j<An.size/\(listed.setIfInBounds i true).getD j true=false:=by
    intro j;by_cases hji:j=i
    ·subst hji;have hni:j∉l1++(l2++[zi]):=by
      rw[Bg]at hnd;intro hm2;rcases Aj.1 hm2 with hq|hq
      ·exact hnd.2.2 j hq j DI J
      ·have:=(Bv.1 hnd.2.1).1;exact this hq
     simp only[hni,false_iff];rintro⟨_,hq⟩;have:j<listed.size:=I;simp[this]at hq
    ·have:(listed.setIfInBounds i true).getD j true=listed.getD j true:=EE true (Ne.symm hji);rw[this,<-hm j];simp only[Aj,Ab,hji,false_or]
   have hnd':(l1++(l2++[zi])).Nodup:=hnd.sublist (EL (List.sublist_cons_self _ _) _);have hcl':H5 An (listed.setIfInBounds i true):=by
    intro j o' ho' hj e he hb;by_cases hji:j=i
    ·subst hji;rw[ho]at ho';cases ho';exact Dl (Ha e he hb)
    ·rw[EE true (Ne.symm hji)]at hj;exact Dl (hcl j o' ho' hj e he hb)
   have XE:=G5 hps;have hlen':(l1++(l2++[zi])).length<=fuel:=by simp at hlen⊢;omega
   have step:∀(v:Value) (S':A2) (w':World),(∀e,o.dst=some e->e<n)->Ge (some K) S'->DL P n (some K) (Vd P n Q (DF An zi)) (l1.map (DF An)++l2.map (DF An)) (Dc o.dst v fr) S'->Ds A w' (S'++R)->
    wpAny P .any An (HY n A R Q) fuel (listed.setIfInBounds i true) (a.put o.dst v) w':=by
    intro v S' w' hdn hK' hD hs';refine ih (l1++l2) _ (Dc o.dst v fr) S' _ w' (by rw[AU];exact hnd') (fun j=>by rw[AU];exact KQ j) (by simpa using hsz) hcl' (by rw[AU,Ai];exact XE) (by rw[AU];exact hlen') hK' (by rw[Ai];exact hD) ?_ (hk.Dc hdn v) hs';exact hd.put ho v
   have hwt:=G4 ho (hgd i hlt) a;unfold wpOp;simp only[ho,hwt];by_cases hfc:B5 o=.IP
   ·obtain⟨obj,mk,d,hF,hdst,hdn⟩:=hfr i o ho hfc;have hgn:=hfg i hlt (by rw[eg];exact hfc);have hD:=DL.Hz (x:=DF An i) (by rw[eg];exact hfc) hgn (by rw[eg];exact hF) (by rw[eg];exact hdst) hdn _ fr S (fun y hy=>HZ (Gn y hy).1) h w.heap.size;rw[hgn];simp only[Wt,C9];refine .inl ?_;rw[Oper.wp,hF a.eval w];obtain⟨U,p⟩:=hK;exact step (mk w.heap.size) _ _ (fun e he=>by rw[hdst]at he;cases he;exact hdn) ⟨_,(List.Perm.cons _ p).trans CY.symm⟩ (by rw[hdst];exact hD) (hs.new _)
   ·have hF:=DL.first (x:=DF An i) _ fr S hK (fun y hy=>⟨HZ (Gn y hy).1,(Gn y hy).2.resolve_left hfc⟩) h
    rw[First,eg]at hF;obtain⟨hdn,hF⟩:=hF;have hF:=hF A R a w hk hs;split
    ·rename_i hw;rw[BE hw]at hF;refine .inl (Oper.wp_mono ?_ (E7.upon hF (fun c w' hc=>⟨hd.1,hc⟩)));rintro a' w' ⟨v,rfl,S',hs',hK',hD⟩;exact step v S' w' hdn hK' hD hs'
    ·rename_i hw;rw[Ah hw]at hF;exact step undef S w hdn hF.1 hF.2 hs
def lastB(An:Array Oper)(z:Nat):Bool:=Nat.blt z An.size&&(List.range An.size).all (fun y=>Nat.beq y z||Ho An An.size z y)&&(match B5 (DF An z).o with| .IP=>false|_=>true)
variable{U:A2}
theorem CW.eU{An:Array Oper}{zero:Nat->Option Value}(pre:List Nat)(z:Nat)(hm:P.follows .mixedOrders=true)(hz:∀t v,zero t=some v->(P.info? t).bind (·.zero)=some v)
 (hc:(HN An (pre++[z])&&FT An&&HO zero n An&&lastB An z)=true) (hp:DV S K U) (h:DL P n (some K) (Vd P n Q (DF An z)) (pre.map (DF An)) fr S):CW P n (.region id An true) Q fr S:=by
 simp only[AI]at hc;obtain⟨⟨⟨hc,hb⟩,hf⟩,hlast⟩:=hc;simp only[lastB,AI,AY]at hlast;obtain⟨⟨hzl,nf⟩,hzk⟩:=hlast;simp only[HN,AI,AY]at hc;obtain⟨⟨⟨hl,hps⟩,hgd⟩,hfg⟩:=hc;have hperm:(List.range An.size).Perm (pre++[z]):=List.isPerm_iff.1 hl;have hin:∀i,i<An.size->i∈pre++[z]:=fun i hi=>hperm.mem_iff.1 (Ak.2 hi)
 have hl:(pre++[z]).length=An.size:=by rw[<-hperm.length_eq];simp
 intro A R a w hd hk hs;refine wp_region_any hm (XM (P:=P) hb ?_ (fun i hi=>hgd i (hin i hi)) ?_ z ?_ ?_ An.size pre _ fr S a _ (hperm.nodup_iff.1 Bc) ?_ DI ?_ hps I ⟨U,hp.perm⟩ h hd.An hk (hs.drawn _))
 ·intro i o ho hk;have:=(AY.1 hf) o (by simpa using Dw ho);rw[hk]at this;simp only[AI]at this;obtain⟨h1,h2⟩:=this;cases hd:o.dst with
  |none=>rw[hd]at h2;simp at h2
  |some d=>
   rw[hd]at h2;have h2:d<n:=by simpa using h2
   split at h1
   ·rename_i t ht;obtain⟨v,hv⟩:=BU.1 h1;exact⟨_,_,d,HE ht (hz t v hv),rfl,h2⟩
   ·rename_i ht;exact⟨_,_,d,G6 ht,rfl,h2⟩
   ·cases h1
 ·intro i hi hk;have:=hfg i (hin i hi);rw[hk]at this;simpa using this
 ·intro hk;rw[hk]at hzk;cases hzk
 ·intro y hy hne;have:=nf y (Ak.2 hy);simp only[BI]at this;rcases this with h|h
  ·exact absurd (AK h) hne
  ·exact h
 ·intro i;rw[<-hperm.mem_iff,Ak];constructor
  ·intro hi;exact⟨hi,by simp[hi]⟩
  ·exact fun hi=>hi.1
 ·intro i o ho hl;simp only[Av]at hl;have:i<An.size:=(A1.1 ho).1;simp[this]at hl
end
end
end Go.Proofs.YtfekkjbdcdnhlaaGreatDoor.Sep
