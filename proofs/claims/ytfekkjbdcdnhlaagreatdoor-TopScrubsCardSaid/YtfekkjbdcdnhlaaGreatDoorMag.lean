/- Lemmas for TopScrubs. No condition but those that each states. -/
import Derived.Test.YtfekkjbdcdnhlaaGreatDoorMaf
import Derived.Test.YtfekkjbdcdnhlaaGreatDoorMae
set_option linter.all false
set_option maxHeartbeats 8000000
set_option maxRecDepth 100000
namespace Go.Proofs.YtfekkjbdcdnhlaaGreatDoor.Sep
noncomputable section
section
variable{P:Program} {n:Nat} {Q:EX} {fr:Fr} {S:A2}
def Pz(P:Program)(n:Nat)(Q:EX)(K2:A2)(l:List FO):EX:=⟨fun e fr S=>match e with| .normal=>Ge (some K2) S/\DL P n (some K2) Q l fr S|_=>False,Q.Eu⟩
def LK(x:FO):Bool:=match x.o.op with
 | .move _=>true
 | .assign _=>true
 |_=>false
theorem XN{x:FO}(h:LK x=true):B5 x.o=.Ia:=by
 unfold LK at h;unfold B5;split at h
 ·rename_i y hy;simp[hy]
 ·rename_i y hy;simp[hy]
 ·cases h
theorem IR{K K2:A2}{post:List FO}{An:Array Oper}{A:Om}{R:A2}:∀(left:List Nat) (fr:Fr) (S:A2) (a:Act) (w:World),(∀y∈left,LK (DF An y)=true)->Ep n a fr->Ds A w (S++R)->Ge (some K) S->DL P n (some K) (Pz P n Q K2 post) (left.map (DF An)) fr S->Ge (some K2) S/\DL P n (some K2) Q (left.map (DF An)++post) fr S
 |[],fr,S,a,w,_,hk,hs,hK,h=>by
  cases h with
  | @nil tq _ S0 _ hq hf hp=>
  obtain⟨⟨U,h1⟩,h2⟩:Ge (some K2) S0/\DL P n (some K2) Q post tq S0:=hq;exact⟨⟨U,hp.symm.trans h1⟩,by simpa using h2.congr hf hp⟩
 |y::left,fr,S,a,w,hy,hk,hs,hK,h=>by
  have hy0:=hy y DI;have hy1:=fun z hz=>hy z (Aw _ hz)
  have hkd:=XN hy0;simp only[Ap,AQ]at h⊢;cases h with
  |skip hg hd h=>obtain⟨h1,h2⟩:=IR left _ _ _ w hy1 (hk.Dc hd undef) hs hK h;exact⟨h1,.skip hg hd h2⟩
  | @Ia _ _ _ _ d v hk2 hg hd hn hv h=>
   obtain⟨U,hU⟩:=hs.Ge hK;have hw:∀(S':A2),FV P n (DF An y).o fr S' v:=by
    intro S' A' R' a' w' hk' hs';have h1:=hv A U a' w hk' hU;unfold LK at hy0;split at hy0
    ·rename_i z hz;simp only[execOp,hz]at h1⊢;simpa using h1
    ·rename_i z hz;simp only[execOp,hz]at h1⊢;simpa using h1
    ·cases hy0
   obtain⟨h1,h2⟩:=IR left _ _ _ w hy1 (hk.put hn v) hs hK h;exact⟨h1,.Ia (.inl hkd) hg hd hn (hw _) h2⟩
  |IP hk2 hg hd hn hv h=>exact absurd hkd hk2
  |eff post' Eu hk2 hg hd he hp tV h=>rcases hk2 with hk2|hk2<;>simp[hkd]at hk2
def XO(An:Array Oper)(pre post:List Nat):Bool:=post.all fun z=>pre.all fun y=>Ho An An.size z y||LK (DF An y)
variable{K:A2}{A:Om}{R K2:A2}
theorem Z2{An:Array Oper}(hbk:FT An=true)(hfr:∀(i:Nat) (o:Oper),An[i]? =some o->B5 o=.IP->∃obj mk d,Ym P o obj mk/\o.dst=some d/\d<n)(hgd:∀i,i<An.size->FY An (DF An i)=true)
 (hfg:∀i,i<An.size->B5 (DF An i).o=.IP->(DF An i).g=none)  (post:List Nat) (pre:List Nat) (nf:∀z∈post,∀y∈pre,Ho An An.size z y=true\/LK (DF An y)=true):
 ∀(fuel:Nat) (left:List Nat) (listed:Array Bool) (fr:Fr) (S:A2) (a:Act) (w:World),(∀y∈left,y∈pre)->(left++post).Nodup->(∀i,i∈left++post↔i<An.size/\listed.getD i true=false)->listed.size=An.size->H5 An listed->Gh An ((left++post).map (DF An))=true->
 (left++post).length<=fuel->Ge (some K) S->DL P n (some K) (Pz P n Q K2 (post.map (DF An))) (left.map (DF An)) fr S->eB A An a->Ep n a fr->Ds A w (S++R)->wpAny P .any An (HY n A R Q) fuel listed a w:=by
 intro fuel;induction fuel with
 |zero=>
  intro left listed fr S a w hlp hnd hm hsz hcl hps hlen hK h hd hk hs;have hl0:left++post=[]:=by cases hh:left++post<;>simp_all
  obtain⟨rfl,rfl⟩:=List.append_eq_nil_iff.1 hl0;obtain⟨h1,h2⟩:=IR (R:=R) [] fr S a w (fun _ h=>by cases h) hk hs hK h;exact Gt hbk hfr hgd hfg 0 [] listed fr S a w .nil hm hsz hcl J (Ao _) h1 (by simpa using h2) hd hk hs
 |succ fuel ih=>
  intro left listed fr S a w hlp hnd hm hsz hcl hps hlen hK h hd hk hs;by_cases hl0:left=[]
  ·subst hl0;obtain⟨h1,h2⟩:=IR (R:=R) [] fr S a w (fun _ h=>by cases h) hk hs hK h;exact Gt hbk hfr hgd hfg (fuel+1) post listed fr S a w (by simpa using hnd) (by simpa using hm) hsz hcl (by simpa using hps) (by simpa using hlen) h1 (by simpa using h2) hd hk hs
  refine⟨fun hr=> ?_,fun i hi=> ?_⟩
  ·
   exfalso;obtain⟨i,hi0⟩:∃i,i∈left++post:=by
    cases left with
    |nil=>exact absurd J hl0
    |cons y l=>exact⟨y,by simp⟩
   have hall:∀k,k<An.size->listed.getD k true=true:=by
    intro k;induction k using Nat.strongRecOn with
    |_ k ihk=>
     intro hk2;cases hq:listed.getD k true with
     |true=>rfl
     |false=>
      exfalso;have:k∈Region.ready .any An listed:=by
       refine mem_ready.2 ⟨hq,An[k],B6 hk2,fun e he hb=> ?_⟩;have hlt:e.on<k:=by have h1:=hbk;simp only[FT,AY]at h1;have h2:=h1 (An[k],k) (Cm.2 (by simp[hk2]));simp only[AY]at h2;have h3:=h2 e (by simpa using he);simpa[hb]using h3
       have h4:=ihk e.on hlt I;simp only[Av]at h4⊢;have:e.on<listed.size:=I;simpa[this]using h4
      rw[hr]at this;cases this
   have h5:=(hm i).1 hi0;rw[hall i h5.1]at h5;cases h5.2
  ·obtain⟨h0,o,ho,Ha⟩:=mem_ready.1 hi;have hlt:=(A1.1 ho).1;have hin:=(hm i).2 ⟨hlt,h0⟩;have eg:(DF An i).o=o:=by simp[DF,ho]
   by_cases hiz:i∈post
   ·have hpure:∀y∈left,LK (DF An y)=true:=fun y hy=>by
     rcases nf i hiz y (hlp y hy)with hh|hh
     ·exfalso;have:=FM hcl _ _ _ o ho Ha hh;have h2:=((hm y).1 (by simp[hy])).2;simp only[Av]at this h2;cases hq:listed[y]? with
      |none=>rw[hq]at this;simp at this
      |some b=>rw[hq]at this h2;simp at this h2;rw[this]at h2;cases h2
     ·exact hh
    obtain⟨h1,h2⟩:=IR (R:=R) left fr S a w hpure hk hs hK h;exact(Gt hbk hfr hgd hfg (fuel+1) (left++post) listed fr S a w hnd hm hsz hcl hps hlen h1 (by rw[Ai];exact h2) hd hk hs).2 i hi
   have hin':i∈left:=by
    rcases Aj.1 hin with h|h
    ·exact h
    ·exact absurd h hiz
   obtain⟨l1,l2,rfl⟩:=List.append_of_mem hin';have hmap:(l1++i::l2).map (DF An)=l1.map (DF An)++DF An i::l2.map (DF An):=by simp
   have hmap2:(l1++i::l2++post).map (DF An)=l1.map (DF An)++DF An i::(l2++post).map (DF An):=by simp
   have happ:l1++i::l2++post=l1++i::(l2++post):=by simp
   rw[hmap]at h;rw[hmap2]at hps;rw[happ]at hnd hm hlen;have hnl:∀y∈l1,listed.getD y false=false:=fun y hy=>by
    have:=((hm y).1 (by simp[hy])).2;simp only[Av]at this⊢;cases hq:listed[y]? with
    |none=>rfl
    |some b=>rw[hq]at this;simpa using this
   have Gn:∀y∈l1.map (DF An),JH y (DF An i)=true/\(B5 o=.IP\/B5 y.o=.Ia):=by
    intro y hy;have:=J6 hps y hy;obtain⟨j,hj,rfl⟩:=A8.1 hy;simp only[MJ,BI,AI,beq_iff_eq,eg]at this;rcases this with hh|hh
    ·exfalso;have hj2:=hnl j hj;have e1:(DF An i).i=i:=by simp[DF,ho]
     have e2:(DF An j).i=j:=by unfold DF;split<;>rfl
     rw[e1,e2]at hh;rw[FM hcl _ _ _ o ho Ha hh]at hj2;cases hj2
    ·exact hh
   have KQ:∀j,j∈l1++(l2++post)↔j<An.size/\(listed.setIfInBounds i true).getD j true=false:=by
    intro j;by_cases hji:j=i
    ·subst hji;have hni:j∉l1++(l2++post):=by
      rw[Bg]at hnd;intro hm2;rcases Aj.1 hm2 with hq|hq
      ·exact hnd.2.2 j hq j DI J
      ·have:=(Bv.1 hnd.2.1).1;exact this hq
     simp only[hni,false_iff];rintro⟨_,hq⟩;have:j<listed.size:=I;simp[this]at hq
    ·have:(listed.setIfInBounds i true).getD j true=listed.getD j true:=EE true (Ne.symm hji);rw[this,<-hm j];simp only[Aj,Ab,hji,false_or]
   have hnd':(l1++(l2++post)).Nodup:=hnd.sublist (EL (List.sublist_cons_self _ _) _);have hcl':H5 An (listed.setIfInBounds i true):=by
    intro j o' ho' hj e he hb;by_cases hji:j=i
    ·subst hji;rw[ho]at ho';cases ho';exact Dl (Ha e he hb)
    ·rw[EE true (Ne.symm hji)]at hj;exact Dl (hcl j o' ho' hj e he hb)
   have XE:=G5 hps;have hlen':(l1++(l2++post)).length<=fuel:=by simp at hlen⊢;omega
   have step:∀(v:Value) (S':A2) (w':World),(∀e,o.dst=some e->e<n)->Ge (some K) S'->DL P n (some K) (Pz P n Q K2 (post.map (DF An))) (l1.map (DF An)++l2.map (DF An)) (Dc o.dst v fr) S'->Ds A w' (S'++R)->
    wpAny P .any An (HY n A R Q) fuel (listed.setIfInBounds i true) (a.put o.dst v) w':=by
    intro v S' w' hdn hK' hD hs';refine ih (l1++l2) _ (Dc o.dst v fr) S' _ w' (fun y hy=>hlp y (by simp only[Aj,Ab]at hy⊢;rcases hy with hy|hy;exact .inl hy;exact .inr (.inr hy))) (by rw[AU];exact hnd') (fun j=>by rw[AU];exact KQ j) (by simpa using hsz) hcl' (by rw[AU,Ai];exact XE) (by rw[AU];exact hlen') hK' (by rw[Ai];exact hD) ?_ (hk.Dc hdn v) hs';exact hd.put ho v
   have hwt:=G4 ho (hgd i hlt) a;unfold wpOp;simp only[ho,hwt];by_cases hfc:B5 o=.IP
   ·obtain⟨obj,mk,d,hF,hdst,hdn⟩:=hfr i o ho hfc;have hgn:=hfg i hlt (by rw[eg];exact hfc);have hD:=DL.Hz (x:=DF An i) (by rw[eg];exact hfc) hgn (by rw[eg];exact hF) (by rw[eg];exact hdst) hdn _ fr S (fun y hy=>HZ (Gn y hy).1) h w.heap.size;rw[hgn];simp only[Wt,C9];refine .inl ?_;rw[Oper.wp,hF a.eval w];obtain⟨U,p⟩:=hK;exact step (mk w.heap.size) _ _ (fun e he=>by rw[hdst]at he;cases he;exact hdn) ⟨_,(List.Perm.cons _ p).trans CY.symm⟩ (by rw[hdst];exact hD) (hs.new _)
   ·have hF:=DL.first (x:=DF An i) _ fr S hK (fun y hy=>⟨HZ (Gn y hy).1,(Gn y hy).2.resolve_left hfc⟩) h
    rw[First,eg]at hF;obtain⟨hdn,hF⟩:=hF;have hF:=hF A R a w hk hs;split
    ·rename_i hw;rw[BE hw]at hF;refine .inl (Oper.wp_mono ?_ (E7.upon hF (fun c w' hc=>⟨hd.1,hc⟩)));rintro a' w' ⟨v,rfl,S',hs',hK',hD⟩;exact step v S' w' hdn hK' hD hs'
    ·rename_i hw;rw[Ah hw]at hF;exact step undef S w hdn hF.1 hF.2 hs
variable{id:Nat}{U:A2}
theorem CW.tu{An:Array Oper}{zero:Nat->Option Value}(pre post:List Nat)(hm:P.follows .mixedOrders=true)(hz:∀t v,zero t=some v->(P.info? t).bind (·.zero)=some v)
 (hc:(HN An (pre++post)&&FT An&&HO zero n An&&XO An pre post)=true) (hp:DV S K U) (h:DL P n (some K) (Pz P n Q K2 (post.map (DF An))) (pre.map (DF An)) fr S):CW P n (.region id An true) Q fr S:=by
 simp only[AI]at hc;obtain⟨⟨⟨hc,hb⟩,hf⟩,hlast⟩:=hc;simp only[XO,AY,BI]at hlast;simp only[HN,AI,AY]at hc;obtain⟨⟨⟨hl,hps⟩,hgd⟩,hfg⟩:=hc;have hperm:(List.range An.size).Perm (pre++post):=List.isPerm_iff.1 hl;have hin:∀i,i<An.size->i∈pre++post:=fun i hi=>hperm.mem_iff.1 (Ak.2 hi)
 have hl:(pre++post).length=An.size:=by rw[<-hperm.length_eq];simp
 intro A R a w hd hk hs;refine wp_region_any hm (Z2 (P:=P) hb ?_ (fun i hi=>hgd i (hin i hi)) ?_ post pre hlast An.size pre _ fr S a _ (fun _ h=>h) (hperm.nodup_iff.1 Bc) ?_ DI ?_ hps I ⟨U,hp.perm⟩ h hd.An hk (hs.drawn _))
 ·intro i o ho hk;have:=(AY.1 hf) o (by simpa using Dw ho);rw[hk]at this;simp only[AI]at this;obtain⟨h1,h2⟩:=this;cases hd:o.dst with
  |none=>rw[hd]at h2;simp at h2
  |some d=>
   rw[hd]at h2;have h2:d<n:=by simpa using h2
   split at h1
   ·rename_i t ht;obtain⟨v,hv⟩:=BU.1 h1;exact⟨_,_,d,HE ht (hz t v hv),rfl,h2⟩
   ·rename_i ht;exact⟨_,_,d,G6 ht,rfl,h2⟩
   ·cases h1
 ·intro i hi hk;have:=hfg i (hin i hi);rw[hk]at this;simpa using this
 ·intro i;rw[<-hperm.mem_iff,Ak];constructor
  ·intro hi;exact⟨hi,by simp[hi]⟩
  ·exact fun hi=>hi.1
 ·intro i o ho hl;simp only[Av]at hl;have:i<An.size:=(A1.1 ho).1;simp[this]at hl
variable{l1 l2:List FO}
theorem CW.db{An:List Oper}{zero:Nat->Option Value}(pre post:List Nat)(K K2:A2)(hm:P.follows .mixedOrders=true)(hz:∀t v,zero t=some v->(P.info? t).bind (·.zero)=some v)
 (hc:(HN An.toArray (pre++post)&&FT An.toArray&&HO zero n An.toArray&&XO An.toArray pre post)=true) (hp:DV S K U) (h1:E2 An pre=l1) (h2:E2 An post=l2) (h:DL P n (some K) (Pz P n Q K2 l2) l1 fr S):CW P n (.region id An.toArray true) Q fr S:=by
 subst h1 h2;have e:∀l:List Nat,l.map (DF An.toArray)=E2 An l:=fun l=>by rw[G7,show DF An.toArray=Jf An from funext fun i=>by rw[Jm]]
 refine CW.tu (K2:=K2) pre post hm hz hc hp ?_;rw[e,e];exact h
theorem Fe{l:List FO}(hk:Ge (some K2) S)(h:DL P n (some K2) Q l fr S):(Pz P n Q K2 l).go .normal fr S:=⟨hk,h⟩
end
section
variable{P:Program} {n:Nat} {Q:EX} {fr:Fr} {S:A2}
def Ox(An:Array Oper):Nat->List (List Nat)->Bool
 |0,UI=>UI.all (·.isEmpty)
 |k+1,UI=>match UI with
  |[]=>false
  |s::_=>s.all fun x=>s.any (fun y=>y !=x&&Ho An An.size x y)||(
   let kept:=UI.filter (fun t=>t.head? ==some x)
   !kept.isEmpty&&(KY (DF An x).o||kept.length==1)&&Ox An k (kept.map (·.tail)))
theorem NT{An:Array Oper}:∀{l m:List FO},l.Sublist m->Gh An m=true->Gh An l=true
 |_,_,.slnil,h=>h
 |_,_,.cons a s,h=>by simp only[Gh,AI]at h;exact NT s h.2
 |_,_,.cons_cons a s,h=>by simp only[Gh,AI,AY]at h⊢;exact⟨fun x hx=>h.1 x (s.subset hx),NT s h.2⟩
variable{K:A2}{A:Om}{R K2:A2}
theorem ng{An:Array Oper}(hbk:FT An=true)(hfr:∀(i:Nat) (o:Oper),An[i]? =some o->B5 o=.IP->∃obj mk d,Ym P o obj mk/\o.dst=some d/\d<n)(hgd:∀i,i<An.size->FY An (DF An i)=true)
 (hfg:∀i,i<An.size->B5 (DF An i).o=.IP->(DF An i).g=none)  (post pre:List Nat) (nf:∀z∈post,∀y∈pre,Ho An An.size z y=true\/LK (DF An y)=true):
 ∀(fuel fe:Nat) (E6:List (List Nat)) (listed:Array Bool) (a:Act) (w:World),E6≠[]->(∀o∈E6,(∀y∈o,y∈pre)/\(o++post).Nodup/\(∀i,i∈o++post↔i<An.size/\listed.getD i true=false)/\HG An (o.map (DF An))=true/\(o++post).length<=fuel/\Gh An ((o.filter (fun y=>LK (DF An y))++post).map (DF An))=true/\Z1 P n An K (Pz P n Q K2 (post.map (DF An))) A R a w o)->
  listed.size=An.size->H5 An listed->Ox An fe (E6.map (·.filter (Ef An)))=true->eB A An a->wpAny P .any An (HY n A R Q) fuel listed a w:=by
 intro fuel;induction fuel with
 |zero=>
  intro fe E6 listed a w hne hall hsz hcl hcov hd;obtain⟨o,ho⟩:=DW E6 hne;obtain⟨hlp,hnd,hm,hps,hlen,hpp,fr,S,hk,hs,hK,hD⟩:=hall o ho;have hl0:o++post=[]:=by cases hh:o++post<;>simp_all
  obtain⟨rfl,rfl⟩:=List.append_eq_nil_iff.1 hl0;obtain⟨h1,h2⟩:=IR (R:=R) [] fr S a w (fun _ h=>by cases h) hk hs hK hD;exact Gt hbk hfr hgd hfg 0 [] listed fr S a w .nil hm hsz hcl J (Ao _) h1 (by simpa using h2) hd hk hs
 |succ fuel ih=>
  intro fe E6 listed a w hne hall hsz hcl hcov hd;by_cases hl0:∃o∈E6,∀y∈o,LK (DF An y)=true
  ·obtain⟨o,ho,hpure⟩:=hl0;obtain⟨hlp,hnd,hm,hps,hlen,hpp,fr,S,hk,hs,hK,hD⟩:=hall o ho;obtain⟨h1,h2⟩:=IR (R:=R) o fr S a w hpure hk hs hK hD;rw[List.filter_eq_self.2 hpure]at hpp;exact Gt hbk hfr hgd hfg (fuel+1) (o++post) listed fr S a w hnd hm hsz hcl hpp hlen h1 (by rw[Ai];exact h2) hd hk hs
  refine⟨fun hr=> ?_,fun i hi=> ?_⟩
  ·obtain⟨o,ho⟩:=DW E6 hne;obtain⟨hlp,hnd,hm,hps,hlen,hpp,fr,S,hk,hs,hK,hD⟩:=hall o ho;cases o with
   |nil=>exact absurd ⟨[],ho,fun _ h=>by cases h⟩ hl0
   |cons i l=>
    exfalso;have eQ:∀k,k<An.size->listed.getD k true=true:=by
     intro k;induction k using Nat.strongRecOn with
     |_ k ihk=>
      intro hk2;cases hq:listed.getD k true with
      |true=>rfl
      |false=>
       exfalso;have:k∈Region.ready .any An listed:=by
        refine mem_ready.2 ⟨hq,An[k],B6 hk2,fun e he hb=> ?_⟩;have hlt:e.on<k:=by have h1:=hbk;simp only[FT,AY]at h1;have h2:=h1 (An[k],k) (Cm.2 (by simp[hk2]));simp only[AY]at h2;have h3:=h2 e (by simpa using he);simpa[hb]using h3
        have h4:=ihk e.on hlt I;simp only[Av]at h4⊢;have:e.on<listed.size:=I;simpa[this]using h4
       rw[hr]at this;cases this
    have h5:=(hm i).1 DI;rw[eQ i h5.1]at h5;cases h5.2
  ·obtain⟨h0,o,ho,Ha⟩:=mem_ready.1 hi;have hlt:=(A1.1 ho).1;have eg:(DF An i).o=o:=by simp[DF,ho]
   have e1:(DF An i).i=i:=by simp[DF,ho]
   have e2:∀j,(DF An j).i=j:=fun j=>by unfold DF;split<;>rfl
   have hnl:∀j,j<An.size/\listed.getD j true=false->listed.getD j false=false:=fun j hj=>by
    have:=hj.2;simp only[Av]at this⊢;cases hq:listed[j]? with
    |none=>rfl
    |some b=>rw[hq]at this;simpa using this
   have ML:∀j,j<An.size/\listed.getD j true=false->Ho An An.size i j=false:=fun j hj=>by
    cases hh:Ho An An.size i j with
    |false=>rfl
    |true=>have:=FM hcl _ _ _ o ho Ha hh;rw[hnl j hj]at this;cases this
   have hcl':H5 An (listed.setIfInBounds i true):=by
    intro j o' ho' hj e he hb;by_cases hji:j=i
    ·subst hji;rw[ho]at ho';cases ho';exact Dl (Ha e he hb)
    ·rw[EE true (Ne.symm hji)]at hj;exact Dl (hcl j o' ho' hj e he hb)
   have zW:i∉post:=fun zW=>hl0 (by
    obtain⟨t,ht⟩:=DW E6 hne;obtain⟨hlp,hnd,hm,_⟩:=hall t ht;refine⟨t,ht,fun y hy=> ?_⟩;rcases nf i zW y (hlp y hy)with hh|hh
    ·exfalso;rw[ML y ((hm y).1 (by simp[hy]))]at hh;cases hh
    ·exact hh)
   have split:∀t∈E6,(Ef An i=true->(t.filter (Ef An)).head? =some i)->∃l1 l2,t=l1++i::l2/\(∀y∈l1.map (DF An),JH y (DF An i)=true/\(B5 o=.IP\/B5 y.o=.Ia))/\
    (∀y∈l1++l2,y∈pre)/\((l1++l2)++post).Nodup/\(∀j,j∈(l1++l2)++post↔j<An.size/\(listed.setIfInBounds i true).getD j true=false)/\HG An ((l1++l2).map (DF An))=true/\((l1++l2)++post).length<=fuel/\Gh An (((l1++l2).filter (fun y=>LK (DF An y))++post).map (DF An))=true/\i∉l1/\(Ef An i=true->∀y∈l1,Ef An y=false):=by
    intro t ht hhead;obtain⟨hlp,hnd,hm,hps,hlen,hpp,hF⟩:=hall t ht;have hin:i∈t:=(Aj.1 ((hm i).2 ⟨hlt,h0⟩)).resolve_right zW;obtain⟨l1,l2,rfl⟩:=List.append_of_mem hin;have hnd1:=(Bg.1 hnd).1;have hno:Ef An i=true->∀y∈l1,Ef An y=false:=fun hoi y hy=>Lh hoi (hhead hoi) hnd1 y hy
    have hsub:(l1++l2).Sublist (l1++i::l2):=EL (List.sublist_cons_self _ _) _;have hni:i∉l1:=fun hq=>by rw[Bg]at hnd1;exact hnd1.2.2 i hq i DI J
    refine⟨l1,l2,rfl,?_,fun y hy=>hlp y (hsub.subset hy),?_,?_,?_,?_,?_,hni,hno⟩
    ·intro y hy;have hmap:(l1++i::l2).map (DF An)=l1.map (DF An)++DF An i::l2.map (DF An):=by simp
     rw[hmap]at hps;have:=NS hps y hy;obtain⟨j,hj,rfl⟩:=A8.1 hy;have hjm:=(hm j).1 (by simp[hj]);simp only[Yp,BI,AI,beq_iff_eq,eg,e2]at this;rcases this with(hh|hh)|hh
     ·rw[ML j hjm]at hh;cases hh
     ·exact hh
     ·exfalso;have h1:Ef An i=true:=by simp[Ef,eg,hh.1]
      have h2:=hno h1 j hj;simp[Ef,hh.2]at h2
    ·exact hnd.sublist (hsub.append_right post)
    ·intro j;by_cases hji:j=i
     ·subst hji;have aCv:j∉(l1++l2)++post:=by
       have e:l1++j::l2++post=l1++j::(l2++post):=by simp
       rw[e,Bg]at hnd;intro hm2;rw[AU]at hm2;rcases Aj.1 hm2 with hq|hq
       ·exact hnd.2.2 j hq j DI J
       ·have:=(Bv.1 hnd.2.1).1;exact this hq
      simp only[aCv,false_iff];rintro⟨_,hq⟩;have:j<listed.size:=I;simp[this]at hq
     ·have:(listed.setIfInBounds i true).getD j true=listed.getD j true:=EE true (Ne.symm hji);rw[this,<-hm j];simp[hji]
    ·have hmap:(l1++i::l2).map (DF An)=l1.map (DF An)++DF An i::l2.map (DF An):=by simp
     rw[hmap]at hps;rw[Ai];exact Io hps
    ·simp at hlen⊢;omega
    ·exact NT (((hsub.filter _).append_right post).map _) hpp
   let kept:=E6.filter (fun t=> !Ef An i||(t.filter (Ef An)).head? ==some i)
   have Qp:∀t∈kept,t∈E6/\(Ef An i=true->(t.filter (Ef An)).head? =some i):=fun t ht=>by obtain⟨h1,h2⟩:=Bh.1 ht;refine⟨h1,fun hoi=> ?_⟩;rw[hoi]at h2;simpa using h2
   have eR:kept≠[]/\(Ef An i=true->KY (DF An i).o=true\/kept.length=1)/\∃td,Ox An td (kept.map fun t=>((t.erase i).filter (Ef An)))=true:=by
    cases hoi:Ef An i with
    |false=>
     have hk:kept=E6:=List.filter_eq_self.2 (fun t _=>by simp[hoi]);rw[hk];refine⟨hne,(fun h=>by cases h),fe,?_⟩;rw[<-hcov];congr 1
     refine BB fun t ht=> ?_
     obtain⟨l1,l2,rfl,_,_,_,_,_,_,_,hni,_⟩:=split t ht (fun h=>by rw[hoi]at h;cases h);rw[Dj _ hni,Dm,N3 hoi]
    |true=>
     cases fe with
     |zero=>exfalso;obtain⟨t,ht⟩:=DW E6 hne;simp only[Ox,AY]at hcov;have h1:=hcov _ (A8.2 ⟨t,ht,rfl⟩);have hin:i∈t:=(Aj.1 (((hall t ht).2.2.1 i).2 ⟨hlt,h0⟩)).resolve_right zW;have:i∈t.filter (Ef An):=Bh.2 ⟨hin,hoi⟩;simp only[List.isEmpty_iff]at h1;rw[h1]at this;cases this
     |succ fe=>
      obtain⟨t0,tl,rfl⟩:∃t0 tl,E6=t0::tl:=by cases E6 with
       |nil=>exact absurd J hne
       |cons x l=>exact⟨x,l,rfl⟩
      simp only[Ox,Ap,AY]at hcov;have hin:i∈t0:=(Aj.1 (((hall t0 DI).2.2.1 i).2 ⟨hlt,h0⟩)).resolve_right zW;have h1:=hcov i (Bh.2 ⟨hin,hoi⟩);simp only[BI]at h1;rcases h1 with h1|h1
      ·exfalso;obtain⟨y,hy,hh⟩:=Dq.1 h1;simp only[AI]at hh;have hym:=((hall t0 DI).2.2.1 y).1 (A3 _ (Bh.1 hy).1);rw[ML y hym]at hh;cases hh.2
      ·simp only[AI,BI,Bo,List.isEmpty_eq_false_iff,beq_iff_eq]at h1;have hmf:(List.filter (Ef An) t0::List.map (fun x=>List.filter (Ef An) x) tl).filter (fun t=>t.head? ==some i)=kept.map (·.filter (Ef An)):=by
        show List.filter _ (List.map (·.filter (Ef An)) (t0::tl))=_;rw[List.filter_map];congr 1
        refine List.filter_congr fun t _=> ?_
        simp[hoi]
       rw[hmf]at h1;refine⟨fun e=>h1.1.1 (by rw[e];rfl),fun _=>h1.1.2.imp id (fun h=>by simpa using h),fe,?_⟩;rw[<-h1.2,List.map_map];congr 1
       refine BB fun t ht=> ?_
       obtain⟨ht1,ht2⟩:=Qp t ht;obtain⟨l1,l2,rfl,_,_,_,_,_,_,_,hni,hno⟩:=split t ht1 ht2;have hf1:l1.filter (Ef An)=[]:=List.filter_eq_nil_iff.2 (fun y hy=>by rw[hno hoi y hy];simp);rw[Dj _ hni,Dm];simp[List.filter_append,hf1,List.filter_cons,hoi]
   obtain⟨hkne,nh,td,hcv⟩:=eR;have hwt:=G4 ho (hgd i hlt) a;have tf:=hfr i o ho;have tg:B5 o=.IP->(DF An i).g=none:=fun h=>hfg i hlt (by rw[eg];exact h)
   have hfirst:∀t∈kept,if Wt (DF An i).g a then Fq P o a w (fun v w'=>Z1 P n An K (Pz P n Q K2 (post.map (DF An))) A R (a.put o.dst v) w' (t.erase i)) (fun c w'=>∃S',Ds A w' (S'++R)/\Q.Eu c S')else Z1 P n An K (Pz P n Q K2 (post.map (DF An))) A R (a.put o.dst undef) w (t.erase i):=by intro t ht;obtain⟨ht1,ht2⟩:=Qp t ht;obtain⟨l1,l2,rfl,Gn,_,_,_,_,_,_,hni,_⟩:=split t ht1 ht2;rw[Dj _ hni,Dm];exact TA ho tf tg Gn (hall _ ht1).2.2.2.2.2.2
   have step:∀(v:Value) (w':World),(∀t∈kept,Z1 P n An K (Pz P n Q K2 (post.map (DF An))) A R (a.put o.dst v) w' (t.erase i))->wpAny P .any An (HY n A R Q) fuel (listed.setIfInBounds i true) (a.put o.dst v) w':=by intro v w' hv;refine ih td (kept.map (·.erase i)) _ _ w' (by simpa using hkne) ?_ (by simpa using hsz) hcl' (by rw[List.map_map];exact hcv) (hd.put ho v);intro u hu;obtain⟨t,ht,rfl⟩:=A8.1 hu;have hv1:=hv t ht;obtain⟨ht1,ht2⟩:=Qp t ht;obtain⟨l1,l2,rfl,Gn,h2,h3,h4,h5,h6,h7,hni,_⟩:=split t ht1 ht2;rw[Dj _ hni,Dm]at hv1⊢;exact⟨h2,h3,h4,h5,h6,h7,hv1⟩
   unfold wpOp;simp only[ho,hwt];by_cases hw:Wt (DF An i).g a=true
   ·rw[BE hw];refine .inl ?_;have hvp:=eP (P:=P) (oi:=o) (a:=a) (w:=w) (Eu:=fun c w'=>∃S',Ds A w' (S'++R)/\Q.Eu c S') (Kf:=fun t v w'=>Z1 P n An K (Pz P n Q K2 (post.map (DF An))) A R (a.put o.dst v) w' (t.erase i)) hkne (fun hko=>(nh (by simp[Ef,eg,hko])).imp (fun h=>by rw[eg]at h;exact h) (fun h=>List.length_eq_one_iff.1 h)) (fun hko f args w'=>Vb hko a.eval w f args w') (fun t ht=>by have:=hfirst t ht;rw[BE hw]at this;exact this);refine Oper.wp_mono ?_ (E7.upon hvp (fun c w' hc=>⟨hd.1,hc⟩));rintro a' w' ⟨v,rfl,hv⟩;exact step v w' hv
   ·rw[Ah hw];exact step undef w (fun t ht=>by have:=hfirst t ht;rw[Ah hw]at this;exact this)
def UJ(An:Array Oper)(E6:List (List Nat))(pre post:List Nat):Bool:=
 !E6.isEmpty&&E6.all (fun o=>pre.isPerm o&&(List.range An.size).isPerm (o++post)&&HG An (o.map (DF An))&&Gh An ((o.filter (fun y=>LK (DF An y))++post).map (DF An)))&&(List.range An.size).all (fun i=>FY An (DF An i))&&
 (List.range An.size).all (fun i=>match B5 (DF An i).o with| .IP=>(DF An i).g.isNone|_=>true)&&Ox An An.size (E6.map (·.filter (Ef An)))
variable{id:Nat}{l2:List FO}{U:A2}
theorem CW.dF{An:List Oper}{zero:Nat->Option Value}(E6:List (List Nat))(pre post:List Nat)(K K2:A2)(hm:P.follows .mixedOrders=true)(hz:∀t v,zero t=some v->(P.info? t).bind (·.zero)=some v)
 (hc:(UJ An.toArray E6 pre post&&FT An.toArray&&HO zero n An.toArray&&XO An.toArray pre post)=true) (hp:DV S K U) (h2:E2 An post=l2) (h:∀o∈E6,DL P n (some K) (Pz P n Q K2 l2) (E2 An o) fr S):CW P n (.region id An.toArray true) Q fr S:=by
 subst h2;have e:∀l:List Nat,l.map (DF An.toArray)=E2 An l:=fun l=>by rw[G7,show DF An.toArray=Jf An from funext fun i=>by rw[Jm]]
 simp only[AI]at hc;obtain⟨⟨⟨hc,hb⟩,hf⟩,zX⟩:=hc;simp only[XO,AY,BI]at zX;simp only[UJ,AI,AY,Bo,List.isEmpty_eq_false_iff,Ak]at hc;obtain⟨⟨⟨⟨hne,hall⟩,hgd⟩,hfg⟩,hcov⟩:=hc;intro A R a w hd hk hs;refine wp_region_any hm (ng (P:=P) (Q:=Q) (K:=K) (K2:=K2) hb ?_ hgd ?_ post pre zX An.toArray.size An.toArray.size E6 _ a _ hne ?_ DI ?_ hcov hd.An)
 ·intro i o ho hk;have:=(AY.1 hf) o (by simpa using Dw ho);rw[hk]at this;simp only[AI]at this;obtain⟨h1,h2⟩:=this;cases hd:o.dst with
  |none=>rw[hd]at h2;simp at h2
  |some d=>
   rw[hd]at h2;have h2:d<n:=by simpa using h2
   split at h1
   ·rename_i t ht;obtain⟨v,hv⟩:=BU.1 h1;exact⟨_,_,d,HE ht (hz t v hv),rfl,h2⟩
   ·rename_i ht;exact⟨_,_,d,G6 ht,rfl,h2⟩
   ·cases h1
 ·intro i hi hk;have:=hfg i hi;rw[hk]at this;simpa using this
 ·intro o ho;obtain⟨⟨⟨h0,h1⟩,h2⟩,h3⟩:=hall o ho;have hperm:(List.range An.toArray.size).Perm (o++post):=List.isPerm_iff.1 h1;refine⟨fun y hy=>(List.isPerm_iff.1 h0).mem_iff.2 hy,hperm.nodup_iff.1 Bc,fun i=> ?_,h2,?_,h3,fr,S,hk,hs.drawn _,⟨U,hp.perm⟩,?_⟩
  ·rw[<-hperm.mem_iff,Ak];constructor
   ·intro hi;exact⟨hi,by simp at hi⊢;simp[hi]⟩
   ·exact fun hi=>hi.1
  ·rw[<-hperm.length_eq];simp
  ·have:=h o ho;rw[e,e];exact this
 ·intro i o ho hl;simp only[Av]at hl;have:i<An.toArray.size:=(A1.1 ho).1;simp at this;simp[this]at hl
end
section
variable{P:Program} {n:Nat} {Q:EX} {fr:Fr} {S:A2}
def Qr(P:Program)(n:Nat)(Q:EX)(K:A2)(l:List FO):EX:=⟨fun e fr S=>match e with| .normal=>∃(K2 U:A2),K2.Perm (K++U)/\Ge (some K2) S/\DL P n (some K2) Q l fr S|_=>False,Q.Eu⟩
variable{K K2 U:A2}
theorem FV.more{o:Oper}{fr:Fr}{v:Value}(h:FV P n o fr K v)(p:K2.Perm (K++U)):FV P n o fr K2 v:=fun A R a w hk hs=>by refine h A (U++R) a w hk (hs.perm ?_);rw[<-AU];exact p.append_right R
variable{A:Om}{R:A2}
theorem NU{post:List FO}{An:Array Oper}:∀(left:List Nat) (fr:Fr) (S:A2) (a:Act) (w:World),(∀y∈left,B5 (DF An y).o=.Ia)->Ep n a fr->Ds A w (S++R)->Ge (some K) S->DL P n (some K) (Qr P n Q K post) (left.map (DF An)) fr S->∃K2,Ge (some K2) S/\DL P n (some K2) Q (left.map (DF An)++post) fr S:=by
 suffices H:∀(left:List Nat) (fr:Fr) (S:A2),(∀y∈left,B5 (DF An y).o=.Ia)->DL P n (some K) (Qr P n Q K post) (left.map (DF An)) fr S->∃(K2 U:A2),K2.Perm (K++U)/\Ge (some K2) S/\DL P n (some K2) Q (left.map (DF An)++post) fr S by intro left fr S a w hy _ _ _ h;obtain⟨K2,U,_,h1,h2⟩:=H left fr S hy h;exact⟨K2,h1,h2⟩
 intro left;induction left with
 |nil=>
  intro fr S _ h;cases h with
  | @nil tq _ S0 _ hq hf hp=>
  obtain⟨K2,U,hp2,⟨V,h1⟩,h2⟩:∃(K2 U:A2),K2.Perm (K++U)/\Ge (some K2) S0/\DL P n (some K2) Q post tq S0:=hq;exact⟨K2,U,hp2,⟨V,hp.symm.trans h1⟩,by simpa using h2.congr hf hp⟩
 |cons y left ih=>
  intro fr S hy h;have hkd:=hy y DI;have hy1:=fun z hz=>hy z (Aw _ hz)
  simp only[Ap,AQ]at h⊢;cases h with
  |skip hg hd h=>obtain⟨K2,U,hp2,h1,h2⟩:=ih _ _ hy1 h;exact⟨K2,U,hp2,h1,.skip hg hd h2⟩
  | @Ia _ _ _ _ d v hk2 hg hd hn hv h=>obtain⟨K2,U,hp2,h1,h2⟩:=ih _ _ hy1 h;exact⟨K2,U,hp2,h1,.Ia (.inl hkd) hg hd hn (FV.more hv hp2) h2⟩
  |IP hk2 hg hd hn hv h=>exact absurd hkd hk2
  |eff post' Eu hk2 hg hd he hp tV h=>rcases hk2 with hk2|hk2<;>simp[hkd]at hk2
def Ve(An:Array Oper)(pre post:List Nat):Bool:=post.all fun z=>pre.all fun y=>Ho An An.size z y||B5 (DF An y).o==.Ia
theorem XP{An:Array Oper}(hbk:FT An=true)(hfr:∀(i:Nat) (o:Oper),An[i]? =some o->B5 o=.IP->∃obj mk d,Ym P o obj mk/\o.dst=some d/\d<n)(hgd:∀i,i<An.size->FY An (DF An i)=true)
 (hfg:∀i,i<An.size->B5 (DF An i).o=.IP->(DF An i).g=none) (post:List Nat) (pre:List Nat) (nf:∀z∈post,∀y∈pre,Ho An An.size z y=true\/B5 (DF An y).o=.Ia):
 ∀(fuel:Nat) (left:List Nat) (listed:Array Bool) (fr:Fr) (S:A2) (a:Act) (w:World),(∀y∈left,y∈pre)->(left++post).Nodup->(∀i,i∈left++post↔i<An.size/\listed.getD i true=false)->listed.size=An.size->H5 An listed->Gh An ((left++post).map (DF An))=true->
 (left++post).length<=fuel->Ge (some K) S->DL P n (some K) (Qr P n Q K (post.map (DF An))) (left.map (DF An)) fr S->eB A An a->Ep n a fr->Ds A w (S++R)->wpAny P .any An (HY n A R Q) fuel listed a w:=by
 intro fuel;induction fuel with
 |zero=>
  intro left listed fr S a w hlp hnd hm hsz hcl hps hlen hK h hd hk hs;have hl0:left++post=[]:=by cases hh:left++post<;>simp_all
  obtain⟨rfl,rfl⟩:=List.append_eq_nil_iff.1 hl0;obtain⟨K2,h1,h2⟩:=NU (R:=R) [] fr S a w (fun _ h=>by cases h) hk hs hK h;exact Gt hbk hfr hgd hfg 0 [] listed fr S a w .nil hm hsz hcl J (Ao _) h1 (by simpa using h2) hd hk hs
 |succ fuel ih=>
  intro left listed fr S a w hlp hnd hm hsz hcl hps hlen hK h hd hk hs;by_cases hl0:left=[]
  ·subst hl0;obtain⟨K2,h1,h2⟩:=NU (R:=R) [] fr S a w (fun _ h=>by cases h) hk hs hK h;exact Gt hbk hfr hgd hfg (fuel+1) post listed fr S a w (by simpa using hnd) (by simpa using hm) hsz hcl (by simpa using hps) (by simpa using hlen) h1 (by simpa using h2) hd hk hs
  refine⟨fun hr=> ?_,fun i hi=> ?_⟩
  ·
   exfalso;obtain⟨i,hi0⟩:∃i,i∈left++post:=by
    cases left with
    |nil=>exact absurd J hl0
    |cons y l=>exact⟨y,by simp⟩
   have hall:∀k,k<An.size->listed.getD k true=true:=by
    intro k;induction k using Nat.strongRecOn with
    |_ k ihk=>
     intro hk2;cases hq:listed.getD k true with
     |true=>rfl
     |false=>
      exfalso;have:k∈Region.ready .any An listed:=by
       refine mem_ready.2 ⟨hq,An[k],B6 hk2,fun e he hb=> ?_⟩;have hlt:e.on<k:=by have h1:=hbk;simp only[FT,AY]at h1;have h2:=h1 (An[k],k) (Cm.2 (by simp[hk2]));simp only[AY]at h2;have h3:=h2 e (by simpa using he);simpa[hb]using h3
       have h4:=ihk e.on hlt I;simp only[Av]at h4⊢;have:e.on<listed.size:=I;simpa[this]using h4
      rw[hr]at this;cases this
   have h5:=(hm i).1 hi0;rw[hall i h5.1]at h5;cases h5.2
  ·obtain⟨h0,o,ho,Ha⟩:=mem_ready.1 hi;have hlt:=(A1.1 ho).1;have hin:=(hm i).2 ⟨hlt,h0⟩;have eg:(DF An i).o=o:=by simp[DF,ho]
   by_cases hiz:i∈post
   ·have hpure:∀y∈left,B5 (DF An y).o=.Ia:=fun y hy=>by
     rcases nf i hiz y (hlp y hy)with hh|hh
     ·exfalso;have:=FM hcl _ _ _ o ho Ha hh;have h2:=((hm y).1 (by simp[hy])).2;simp only[Av]at this h2;cases hq:listed[y]? with
      |none=>rw[hq]at this;simp at this
      |some b=>rw[hq]at this h2;simp at this h2;rw[this]at h2;cases h2
     ·exact hh
    obtain⟨K2,h1,h2⟩:=NU (R:=R) left fr S a w hpure hk hs hK h;exact(Gt hbk hfr hgd hfg (fuel+1) (left++post) listed fr S a w hnd hm hsz hcl hps hlen h1 (by rw[Ai];exact h2) hd hk hs).2 i hi
   have hin':i∈left:=by
    rcases Aj.1 hin with h|h
    ·exact h
    ·exact absurd h hiz
   obtain⟨l1,l2,rfl⟩:=List.append_of_mem hin';have hmap:(l1++i::l2).map (DF An)=l1.map (DF An)++DF An i::l2.map (DF An):=by simp
   have hmap2:(l1++i::l2++post).map (DF An)=l1.map (DF An)++DF An i::(l2++post).map (DF An):=by simp
   have happ:l1++i::l2++post=l1++i::(l2++post):=by simp
   rw[hmap]at h;rw[hmap2]at hps;rw[happ]at hnd hm hlen;have hnl:∀y∈l1,listed.getD y false=false:=fun y hy=>by
    have:=((hm y).1 (by simp[hy])).2;simp only[Av]at this⊢;cases hq:listed[y]? with
    |none=>rfl
    |some b=>rw[hq]at this;simpa using this
   have Gn:∀y∈l1.map (DF An),JH y (DF An i)=true/\(B5 o=.IP\/B5 y.o=.Ia):=by
    intro y hy;have:=J6 hps y hy;obtain⟨j,hj,rfl⟩:=A8.1 hy;simp only[MJ,BI,AI,beq_iff_eq,eg]at this;rcases this with hh|hh
    ·exfalso;have hj2:=hnl j hj;have e1:(DF An i).i=i:=by simp[DF,ho]
     have e2:(DF An j).i=j:=by unfold DF;split<;>rfl
     rw[e1,e2]at hh;rw[FM hcl _ _ _ o ho Ha hh]at hj2;cases hj2
    ·exact hh
   have KQ:∀j,j∈l1++(l2++post)↔j<An.size/\(listed.setIfInBounds i true).getD j true=false:=by
    intro j;by_cases hji:j=i
    ·subst hji;have hni:j∉l1++(l2++post):=by
      rw[Bg]at hnd;intro hm2;rcases Aj.1 hm2 with hq|hq
      ·exact hnd.2.2 j hq j DI J
      ·have:=(Bv.1 hnd.2.1).1;exact this hq
     simp only[hni,false_iff];rintro⟨_,hq⟩;have:j<listed.size:=I;simp[this]at hq
    ·have:(listed.setIfInBounds i true).getD j true=listed.getD j true:=EE true (Ne.symm hji);rw[this,<-hm j];simp only[Aj,Ab,hji,false_or]
   have hnd':(l1++(l2++post)).Nodup:=hnd.sublist (EL (List.sublist_cons_self _ _) _);have hcl':H5 An (listed.setIfInBounds i true):=by
    intro j o' ho' hj e he hb;by_cases hji:j=i
    ·subst hji;rw[ho]at ho';cases ho';exact Dl (Ha e he hb)
    ·rw[EE true (Ne.symm hji)]at hj;exact Dl (hcl j o' ho' hj e he hb)
   have XE:=G5 hps;have hlen':(l1++(l2++post)).length<=fuel:=by simp at hlen⊢;omega
   have step:∀(v:Value) (S':A2) (w':World),(∀e,o.dst=some e->e<n)->Ge (some K) S'->DL P n (some K) (Qr P n Q K (post.map (DF An))) (l1.map (DF An)++l2.map (DF An)) (Dc o.dst v fr) S'->Ds A w' (S'++R)->
    wpAny P .any An (HY n A R Q) fuel (listed.setIfInBounds i true) (a.put o.dst v) w':=by
    intro v S' w' hdn hK' hD hs';refine ih (l1++l2) _ (Dc o.dst v fr) S' _ w' (fun y hy=>hlp y (by simp only[Aj,Ab]at hy⊢;rcases hy with hy|hy;exact .inl hy;exact .inr (.inr hy))) (by rw[AU];exact hnd') (fun j=>by rw[AU];exact KQ j) (by simpa using hsz) hcl' (by rw[AU,Ai];exact XE) (by rw[AU];exact hlen') hK' (by rw[Ai];exact hD) ?_ (hk.Dc hdn v) hs';exact hd.put ho v
   have hwt:=G4 ho (hgd i hlt) a;unfold wpOp;simp only[ho,hwt];by_cases hfc:B5 o=.IP
   ·obtain⟨obj,mk,d,hF,hdst,hdn⟩:=hfr i o ho hfc;have hgn:=hfg i hlt (by rw[eg];exact hfc);have hD:=DL.Hz (x:=DF An i) (by rw[eg];exact hfc) hgn (by rw[eg];exact hF) (by rw[eg];exact hdst) hdn _ fr S (fun y hy=>HZ (Gn y hy).1) h w.heap.size;rw[hgn];simp only[Wt,C9];refine .inl ?_;rw[Oper.wp,hF a.eval w];obtain⟨U,p⟩:=hK;exact step (mk w.heap.size) _ _ (fun e he=>by rw[hdst]at he;cases he;exact hdn) ⟨_,(List.Perm.cons _ p).trans CY.symm⟩ (by rw[hdst];exact hD) (hs.new _)
   ·have hF:=DL.first (x:=DF An i) _ fr S hK (fun y hy=>⟨HZ (Gn y hy).1,(Gn y hy).2.resolve_left hfc⟩) h
    rw[First,eg]at hF;obtain⟨hdn,hF⟩:=hF;have hF:=hF A R a w hk hs;split
    ·rename_i hw;rw[BE hw]at hF;refine .inl (Oper.wp_mono ?_ (E7.upon hF (fun c w' hc=>⟨hd.1,hc⟩)));rintro a' w' ⟨v,rfl,S',hs',hK',hD⟩;exact step v S' w' hdn hK' hD hs'
    ·rename_i hw;rw[Ah hw]at hF;exact step undef S w hdn hF.1 hF.2 hs
variable{id:Nat}
theorem CW.tw{An:Array Oper}{zero:Nat->Option Value}(pre post:List Nat)(hm:P.follows .mixedOrders=true)(hz:∀t v,zero t=some v->(P.info? t).bind (·.zero)=some v)
 (hc:(HN An (pre++post)&&FT An&&HO zero n An&&Ve An pre post)=true) (hp:DV S K U) (h:DL P n (some K) (Qr P n Q K (post.map (DF An))) (pre.map (DF An)) fr S):CW P n (.region id An true) Q fr S:=by
 simp only[AI]at hc;obtain⟨⟨⟨hc,hb⟩,hf⟩,hlast⟩:=hc;simp only[Ve,AY,BI,beq_iff_eq]at hlast;simp only[HN,AI,AY]at hc;obtain⟨⟨⟨hl,hps⟩,hgd⟩,hfg⟩:=hc;have hperm:(List.range An.size).Perm (pre++post):=List.isPerm_iff.1 hl;have hin:∀i,i<An.size->i∈pre++post:=fun i hi=>hperm.mem_iff.1 (Ak.2 hi)
 have hl:(pre++post).length=An.size:=by rw[<-hperm.length_eq];simp
 intro A R a w hd hk hs;refine wp_region_any hm (XP (P:=P) hb ?_ (fun i hi=>hgd i (hin i hi)) ?_ post pre hlast An.size pre _ fr S a _ (fun _ h=>h) (hperm.nodup_iff.1 Bc) ?_ DI ?_ hps I ⟨U,hp.perm⟩ h hd.An hk (hs.drawn _))
 ·intro i o ho hk;have:=(AY.1 hf) o (by simpa using Dw ho);rw[hk]at this;simp only[AI]at this;obtain⟨h1,h2⟩:=this;cases hd:o.dst with
  |none=>rw[hd]at h2;simp at h2
  |some d=>
   rw[hd]at h2;have h2:d<n:=by simpa using h2
   split at h1
   ·rename_i t ht;obtain⟨v,hv⟩:=BU.1 h1;exact⟨_,_,d,HE ht (hz t v hv),rfl,h2⟩
   ·rename_i ht;exact⟨_,_,d,G6 ht,rfl,h2⟩
   ·cases h1
 ·intro i hi hk;have:=hfg i (hin i hi);rw[hk]at this;simpa using this
 ·intro i;rw[<-hperm.mem_iff,Ak];constructor
  ·intro hi;exact⟨hi,by simp[hi]⟩
  ·exact fun hi=>hi.1
 ·intro i o ho hl;simp only[Av]at hl;have:i<An.size:=(A1.1 ho).1;simp[this]at hl
variable{l1 l2:List FO}
theorem CW.dg{An:List Oper}{zero:Nat->Option Value}(pre post:List Nat)(K:A2)(hm:P.follows .mixedOrders=true)(hz:∀t v,zero t=some v->(P.info? t).bind (·.zero)=some v)
 (hc:(HN An.toArray (pre++post)&&FT An.toArray&&HO zero n An.toArray&&Ve An.toArray pre post)=true) (hp:DV S K U) (h1:E2 An pre=l1) (h2:E2 An post=l2) (h:DL P n (some K) (Qr P n Q K l2) l1 fr S):CW P n (.region id An.toArray true) Q fr S:=by
 subst h1 h2;have e:∀l:List Nat,l.map (DF An.toArray)=E2 An l:=fun l=>by rw[G7,show DF An.toArray=Jf An from funext fun i=>by rw[Jm]]
 refine CW.tw pre post hm hz hc hp ?_;rw[e,e];exact h
theorem Yr{V:A2}{l:List FO}(p:K2.Perm (K++U))(hk:DV S K2 V)(h:DL P n (some K2) Q l fr S):(Qr P n Q K l).go .normal fr S:=⟨K2,U,p,⟨V,hk.perm⟩,h⟩
end
structure Boxed (Q:Prop):Prop where
 out:Q
variable{S F U:A2}
theorem pK(h:DV S F U:=by(repeat(first|with_reducible exact DV.nil|with_reducible exact Gg.here|with_reducible apply Gg.there|with_reducible apply DV.cons))):DV S F U:=h
variable{T:A2}
theorem Es{c:List CH}(h:Gg c S T:=by(repeat(first|with_reducible exact Gg.here|with_reducible apply Gg.there))):Gg c S T:=h
theorem iN{c:List CH}(h:In c S:=by(repeat(first|with_reducible exact In.here|with_reducible refine In.there ?_))):In c S:=h
theorem uP{c d:List CH}(h:SL c d S T:=by(repeat(first|with_reducible exact SL.here|with_reducible apply SL.there))):SL c d S T:=h
theorem UK{c:List CH}(h:In c S:=by(first|simp only[EN]|simp only[B0]);exact iN):In c S:=h
theorem aP(h:App F S T:=by(repeat(first|with_reducible exact App.nil|with_reducible apply App.cons))):App F S T:=h
variable{fr:Fr}
theorem sF{gr:Fr}(h:Eo fr gr:=by(repeat(first|exact Eo.nil _|refine Eo.cons J ?_))):Eo fr gr:=h
theorem kO{p:Prop}(h:p:=by first|exact D9|exact Du pK):p:=h
theorem lN{p:Prop}(h:p:=by first|rfl|(simp[Aa,Bn, *];done)|(simp[Aa,Bn, *];omega)):p:=h
theorem sTt{p:Prop}(h:p:=by first|(simp only[List.set_cons_zero,Cf];done)|rfl):p:=h
theorem aL{p:Prop}(h:p:=by first|exact BV _|exact aCw rfl|(simp[*];done)|(simp[*];(repeat(apply And.intro;rfl));rfl)):p:=h
theorem eL{p:Prop}(h:p:=by first|with_reducible exact el3|with_reducible exact W5|with_reducible exact el9|with_reducible exact ta|with_reducible exact eM|with_reducible exact eN|with_reducible exact aCs|with_reducible exact Md|with_reducible exact Le|with_reducible exact tc|with_reducible exact ND|with_reducible exact zQ|with_reducible exact zS|with_reducible exact zT|with_reducible exact Yo|with_reducible exact zU):p:=h
theorem kC{p:Prop}(h:p:=by intros;first|exact D9|exact Du pK):p:=h
theorem rV{p:Prop}(h:p:=by first|exact RV.tmp rfl|exact RV.D8 tt J J J (In.mem iN) lN|exact RV.cell1 tt J J J (In.mem iN) J):p:=h
theorem rSs{p:Prop}(h:p:=by first|exact res0|exact DC rV|exact Fb rV rV|exact UE rV rV rV):p:=h
theorem nD{p:Prop}(h:p:=by simp only[E2,Jf,JK,E1];rfl):p:=h
theorem Ip{p:Prop}(h:p:=by simp only[Ap,CP,AW,A0,Am,AQ,AS,Value.cells];rfl):p:=h
theorem eW{p:Prop}(h:p:=by simp only[F6,Kd.place,E1,List.take_zero,AS,EF,List.drop_succ_cons,BL,AQ,Am,List.drop_nil,Bz,List.length_nil,Nat.beq,Nat.ble,Bool.and_true,Bool.true_and,AN,Value.cells];rfl):p:=h
theorem Iq{p:Prop}(h:p:=by simp[Value.cells, *]):p:=h
theorem yv{p:Prop}(h:p:=by(simp only[He,JK,E1];rfl)):p:=h
theorem HS{p:Prop}(h:p:=by simp[Aa,Bn]):p:=h
theorem pKd(h:DV S F U:=by dsimp only[List.cons_append,List.nil_append,List.append_nil];exact pK):DV S F U:=h
variable{Q G:Prop}
theorem W(k:Q)(h:Boxed Q->G:=by intro hq;(repeat(first|((with_reducible apply DL.mv tt);rfl;rfl;rfl)|((with_reducible apply DL.zV tt);rfl;rfl;rfl)|((with_reducible apply DL.ld1 tt);rfl;rfl;rfl;rfl;rfl;exact iN;rfl)|((with_reducible apply DL.G8 tt);rfl;rfl;rfl;rfl;rfl;exact iN;rfl)|((with_reducible apply DL.done))|((with_reducible apply DL.XJ tt);rfl;rfl;rfl;rfl;omega)|((with_reducible apply DL.nY tt);rfl;rfl;rfl;rfl;omega)|((with_reducible apply DL.XK tt);rfl;rfl;rfl;rfl;omega)|((with_reducible apply DL.nZ tt);rfl;rfl;rfl;rfl;omega)|((with_reducible apply DL.XL tt);rfl;rfl;rfl;rfl;omega)|((with_reducible apply DL.na tt);rfl;rfl;rfl;rfl;omega)|((with_reducible apply DL.cv tt);rfl;rfl;rfl;omega)|((with_reducible apply DL.cvu tt);rfl;rfl;rfl;omega)|((with_reducible apply DL.cv8 tt);rfl;rfl;rfl)|((with_reducible apply DL.p tt);rfl;rfl;rfl;rfl)|((with_reducible apply DL.dd);rfl;rfl)|((with_reducible apply DL.dead);rfl;rfl)|(with_reducible apply CW.seq)|refine CW.rg J yv ?_|(with_reducible apply CW.block)|(with_reducible apply CW.skip)|(with_reducible apply CW.ret)|(with_reducible apply CW.exit)|((with_reducible apply CW.Qa);rfl)|((with_reducible apply CW.Qb);rfl)|(with_reducible apply KU)|(with_reducible apply Jn)|(with_reducible apply KV)|(with_reducible apply H7)|(with_reducible apply Jo)|(with_reducible apply Hr)|(refine DL.Qh hz tt J J J J J ?_)|(refine DL.build hz tt J J J J J J eW ?_)|(refine DL.alloc hz J J J ?_)|(refine DL.alloc1 hz J J J J ?_)|(refine DL.XI J J J kO ?_)|(refine DL.box1 J J J J kO ?_)|(refine DL.bs tt J J J eL J J J Iq Ip I kO ?_)|(refine CW.Gp J I ?_)|(refine CW.GM J I ?_)|(first|(rw[Bq];rotate_left;(first|assumption|omega))|(rw[BW];rotate_left;(first|assumption|omega)))|(exact Gx rSs pK)));first|done|exact hq.out):G:=h ⟨k⟩
theorem wW(k:Q)(h:Boxed Q->G:=by intro hq;(repeat(first|((with_reducible apply DL.mv tt);rfl;rfl;rfl)|((with_reducible apply DL.zV tt);rfl;rfl;rfl)|((with_reducible apply DL.ld1 tt);rfl;rfl;rfl;rfl;rfl;exact iN;rfl)|((with_reducible apply DL.G8 tt);rfl;rfl;rfl;rfl;rfl;exact iN;rfl)|((with_reducible apply DL.done))|((with_reducible apply DL.XJ tt);rfl;rfl;rfl;rfl;omega)|((with_reducible apply DL.nY tt);rfl;rfl;rfl;rfl;omega)|((with_reducible apply DL.XK tt);rfl;rfl;rfl;rfl;omega)|((with_reducible apply DL.nZ tt);rfl;rfl;rfl;rfl;omega)|((with_reducible apply DL.XL tt);rfl;rfl;rfl;rfl;omega)|((with_reducible apply DL.na tt);rfl;rfl;rfl;rfl;omega)|((with_reducible apply DL.cv tt);rfl;rfl;rfl;omega)|((with_reducible apply DL.cvu tt);rfl;rfl;rfl;omega)|((with_reducible apply DL.cv8 tt);rfl;rfl;rfl)|((with_reducible apply DL.p tt);rfl;rfl;rfl;rfl)|((with_reducible apply DL.dd);rfl;rfl)|((with_reducible apply DL.dead);rfl;rfl)|(with_reducible apply CW.seq)|refine CW.rg J yv ?_|(with_reducible apply CW.block)|(with_reducible apply CW.skip)|(with_reducible apply CW.ret)|(with_reducible apply CW.exit)|((with_reducible apply CW.Qa);rfl)|((with_reducible apply CW.Qb);rfl)|(with_reducible apply KU)|(with_reducible apply Jn)|(with_reducible apply KV)|(with_reducible apply H7)|(with_reducible apply Jo)|(with_reducible apply Hr)|(refine DL.Qh hz tt J J J J J ?_)|(refine DL.build hz tt J J J J J J eW ?_)|(refine DL.alloc hz J J J ?_)|(refine DL.alloc1 hz J J J J ?_)|(refine DL.XI J J J kO ?_)|(refine DL.box1 J J J J kO ?_)|(refine DL.bs tt J J J eL J J J Iq Ip I kO ?_)|(refine DL.Br tt J J J J J uP sTt J J lN kO ?_)|(refine DL.Bj tt J J J J uP lN aL lN kO ?_)|(first|refine DL.LJ tt J J J J J iN lN ?_|refine DL.GG tt J J J J J iN lN ?_)|(refine CW.Gp J I ?_)|(refine CW.GM J I ?_)|(first|(rw[Bq];rotate_left;(first|assumption|omega))|(rw[BW];rotate_left;(first|assumption|omega)))|(exact Gx rSs pK)));first|done|exact hq.out):G:=h ⟨k⟩
theorem uU(k:Q)(h:Boxed Q->G:=by intro hq;(repeat(first|((with_reducible apply DL.mv tt);rfl;rfl;rfl)|((with_reducible apply DL.zV tt);rfl;rfl;rfl)|((with_reducible apply DL.ld1 tt);rfl;rfl;rfl;rfl;rfl;exact iN;rfl)|((with_reducible apply DL.G8 tt);rfl;rfl;rfl;rfl;rfl;exact iN;rfl)|((with_reducible apply DL.done))|((with_reducible apply DL.XJ tt);rfl;rfl;rfl;rfl;omega)|((with_reducible apply DL.nY tt);rfl;rfl;rfl;rfl;omega)|((with_reducible apply DL.XK tt);rfl;rfl;rfl;rfl;omega)|((with_reducible apply DL.nZ tt);rfl;rfl;rfl;rfl;omega)|((with_reducible apply DL.XL tt);rfl;rfl;rfl;rfl;omega)|((with_reducible apply DL.na tt);rfl;rfl;rfl;rfl;omega)|((with_reducible apply DL.cv tt);rfl;rfl;rfl;omega)|((with_reducible apply DL.cvu tt);rfl;rfl;rfl;omega)|((with_reducible apply DL.cv8 tt);rfl;rfl;rfl)|((with_reducible apply DL.p tt);rfl;rfl;rfl;rfl)|((with_reducible apply DL.dd);rfl;rfl)|((with_reducible apply DL.dead);rfl;rfl)|refine CW.rg J yv ?_|(with_reducible apply CW.block)|(with_reducible apply CW.skip)|(with_reducible apply CW.ret)|(with_reducible apply CW.exit)|((with_reducible apply CW.Qa);rfl)|((with_reducible apply CW.Qb);rfl)|(with_reducible apply KU)|(with_reducible apply Jn)|(with_reducible apply KV)|(with_reducible apply H7)|(with_reducible apply Jo)|(with_reducible apply Hr)|(refine DL.Qh hz tt J J J J J ?_)|(refine DL.build hz tt J J J J J J eW ?_)|(refine DL.alloc hz J J J ?_)|(refine DL.alloc1 hz J J J J ?_)|(refine DL.XI J J J kO ?_)|(refine DL.box1 J J J J kO ?_)|(refine DL.bs tt J J J eL J J J Iq Ip I kO ?_)|(refine DL.Br tt J J J J J uP sTt J J lN kO ?_)|(refine DL.Bj tt J J J J uP lN aL lN kO ?_)|(first|refine DL.LJ tt J J J J J iN lN ?_|refine DL.GG tt J J J J J iN lN ?_)|(refine CW.Gp J I ?_)|(refine CW.GM J I ?_)|(first|(rw[Bq];rotate_left;(first|assumption|omega))|(rw[BW];rotate_left;(first|assumption|omega)))|(exact Gx rSs pK)));first|done|exact hq.out):G:=h ⟨k⟩
theorem vR(k:Q)(h:Boxed Q->G:=by intro hq;(repeat(first|((with_reducible apply DL.mv tt);rfl;rfl;rfl)|((with_reducible apply DL.zV tt);rfl;rfl;rfl)|((with_reducible apply DL.ld1 tt);rfl;rfl;rfl;rfl;rfl;exact iN;rfl)|((with_reducible apply DL.G8 tt);rfl;rfl;rfl;rfl;rfl;exact iN;rfl)|((with_reducible apply DL.done))|((with_reducible apply DL.XJ tt);rfl;rfl;rfl;rfl;omega)|((with_reducible apply DL.nY tt);rfl;rfl;rfl;rfl;omega)|((with_reducible apply DL.XK tt);rfl;rfl;rfl;rfl;omega)|((with_reducible apply DL.nZ tt);rfl;rfl;rfl;rfl;omega)|((with_reducible apply DL.XL tt);rfl;rfl;rfl;rfl;omega)|((with_reducible apply DL.na tt);rfl;rfl;rfl;rfl;omega)|((with_reducible apply DL.cv tt);rfl;rfl;rfl;omega)|((with_reducible apply DL.cvu tt);rfl;rfl;rfl;omega)|((with_reducible apply DL.cv8 tt);rfl;rfl;rfl)|((with_reducible apply DL.p tt);rfl;rfl;rfl;rfl)|((with_reducible apply DL.dd);rfl;rfl)|((with_reducible apply DL.dead);rfl;rfl)|(with_reducible apply CW.seq)|refine CW.rg J yv ?_|(with_reducible apply CW.block)|(with_reducible apply CW.skip)|(with_reducible apply CW.ret)|(with_reducible apply CW.exit)|((with_reducible apply CW.Qa);rfl)|((with_reducible apply CW.Qb);rfl)|(with_reducible apply KU)|(with_reducible apply Jn)|(with_reducible apply KV)|(with_reducible apply H7)|(with_reducible apply Jo)|(with_reducible apply Hr)));first|done|exact hq.out):G:=h ⟨k⟩
theorem Aa(l:List Int):(bs l).length=l.length:=by simp[bs]
theorem BV(l:List Int):∀u∈bs l,u.oneCell'=true:=fun u hu=>by obtain⟨x,_,rfl⟩:=A8.1 hu;rfl
theorem Bn(n:Nat):(BQ n).length=n:=by simp[BQ]
abbrev Dy(mb ab n:Nat):List CH:=A7 mb [.slice (some ⟨ab,0,none⟩) n n] 124
abbrev EY(ab:Nat)(B:List Int):List CH:=A7 ab (bs B) 58
def sub(B:List Int)(g:Nat):List Int:=(B.drop (128*g)).take 128
def ins(B:List Int)(g:Nat)(X:List Int):List Int:=B.take (128*g)++X++B.drop (128*g+X.length)
variable{B:List Int}
theorem N4{g n:Nat}(h:B.length=128*n)(hg:g<n):(sub B g).length=128:=by simp[sub,h];omega
variable{mb ab n:Nat}
theorem FA:Fn Tryz.prog 23 [Au mb] [Dy mb ab n] (E4 (.int .i64 n) [Dy mb ab n]):=by refine Fn.of Tryz.func23 J J [_] J ?_;refine vR ?_;exact Gx (DC (RV.tmp J)) pK
theorem Vf{g:Int}(h0:0<=g)(h1:g<n):Fn Tryz.prog 44 [Au mb,.int .i64 g] [Dy mb ab n] (E4 (.int .i64 0) [Dy mb ab n]):=by refine Fn.of Tryz.func44 J J [_] J ?_;refine vR ?_;refine DL.BS J J J pK (FA) kR aP kO ?_;refine vR ?_;refine CW.GM J I ?_;refine vR ?_;rw[BW (show¬(g<0) by omega)];refine vR ?_;refine CW.GM J I ?_;refine vR ?_;exact Gx (DC (RV.tmp J)) pK
theorem TC{g:Int}(hn:1<=n)(h:g<0\/(n:Int)<=g):Fn Tryz.prog 44 [Au mb,.int .i64 g] [Dy mb ab n] (E4 (.int .i64 2) [Dy mb ab n]):=by
 refine Fn.of Tryz.func44 J J [_] J ?_;refine vR ?_;refine DL.BS J J J pK (FA) kR aP kO ?_;refine vR ?_;refine CW.GM J I ?_;refine vR ?_;by_cases h0:g<0
 ·rw[Bq (show g<0 by omega)];refine vR ?_;exact Gx (DC (RV.tmp J)) pK
 ·rw[BW (show¬(g<0) by omega)];refine vR ?_;refine CW.Gp J I ?_;refine vR ?_;exact Gx (DC (RV.tmp J)) pK
theorem XQ{g:Nat}(h1:g<n)(hB:B.length=128*n):Fn Tryz.prog 26 [Au mb,.int .i64 g] [Dy mb ab n,EY ab B] (E4 (.tuple #[.agg (bs (sub B g)).toArray,.int .i64 0]) [Dy mb ab n,EY ab B]):=by
 refine Fn.of Tryz.func26 J J [_,_] J ?_;have hl:=N4 hB h1;refine vR ?_;refine DL.alloc hz J J J ?_;intro b;refine vR ?_;refine DL.BS J J J pK (Vf I I) kR aP kO ?_;refine vR ?_;refine DL.C3 tt g J J J J J J h1 ?_;refine DL.df (vs:=bs (sub B g)) tt J J J J J iN ?_ (by rw[Aa,hl]) ?_
 ·rw[sub,bs,bs,List.map_take,List.map_drop];congr 2;omega
 refine DL.Bj tt J J J J uP lN aL lN kO ?_;refine vR ?_;exact Gx (Fb (RV.D8 tt J J J (In.mem iN) lN) (RV.tmp J)) pK
theorem ni{g:Int}(hn:1<=n)(h1:g<0\/(n:Int)<=g):Fn Tryz.prog 26 [Au mb,.int .i64 g] [Dy mb ab n,EY ab B] (E4 (.tuple #[.agg (bs (BQ 128)).toArray,.int .i64 2]) [Dy mb ab n,EY ab B]):=by refine Fn.of Tryz.func26 J J [_,_] J ?_;refine vR ?_;refine DL.alloc hz J J J ?_;intro b;refine vR ?_;refine DL.BS J J J pK (TC I I) kR aP kO ?_;refine vR ?_;refine DL.Qh hz tt J J J J J ?_;refine vR ?_;refine DL.Bj tt J J J J uP lN aL lN kO ?_;refine vR ?_;exact Gx (Fb (RV.D8 tt J J J (In.mem iN) lN) (RV.tmp J)) pK
theorem t6(B X:List Int)(g:Nat):(bs B).take (0+g*128)++bs X++(bs B).drop (0+g*128+(bs X).length)=bs (ins B g X):=by simp only[ins,bs,Ai,List.map_take,List.map_drop,D3];rw[show 0+g*128=128*g by omega]
variable{X:List Int}
theorem XR{g:Nat}(h1:g<n)(hB:B.length=128*n)(hX:X.length=128):Fn Tryz.prog 156 [Au mb,.int .i64 g,.agg (bs X).toArray] [Dy mb ab n,EY ab B] (E4 (.int .i64 0) [Dy mb ab n,EY ab (ins B g X)]):=by
 refine Fn.of Tryz.func156 J J [_] J ?_;refine vR ?_;refine DL.XI J J J kO ?_;intro b;refine vR ?_;refine DL.BS J J J pK (Vf I I) kR aP kO ?_;refine vR ?_;refine CW.dw [0,1,2,3,4,5,6,7] [Dy mb ab n,A7 b (bs X) 58] mixed hz kR pK nD ?_;refine vR ?_;first|refine DL.LJ tt J J J J J iN lN ?_|refine DL.GG tt J J J J J iN lN ?_
 skip
 refine DL.C3 tt g J J J J J J h1 ?_;refine DL.NM tt J J J J uP (t6 B X g) lN aL (by rw[Aa,Aa];omega) kO ?_;refine vR ?_;exact Gx (DC (RV.tmp J)) pK
theorem nj{g:Int}(hn:1<=n)(h1:g<0\/(n:Int)<=g):Fn Tryz.prog 156 [Au mb,.int .i64 g,.agg (bs X).toArray] [Dy mb ab n,EY ab B] (E4 (.int .i64 2) [Dy mb ab n,EY ab B]):=by refine Fn.of Tryz.func156 J J [_] J ?_;refine vR ?_;refine DL.XI J J J kO ?_;intro b;refine vR ?_;refine DL.BS J J J pK (TC I I) kR aP kO ?_;refine vR ?_;exact Gx (DC (RV.tmp J)) pK
theorem eX{g:Nat}(h1:g<n)(hB:B.length=128*n):Fn Tryz.prog 118 [Au mb,.int .i64 g] [Dy mb ab n,EY ab B] (E4 (.int .i64 0) [Dy mb ab n,EY ab (ins B g (BQ 128))]):=by refine Fn.of Tryz.func118 J J [_] J ?_;refine vR ?_;refine DL.Qh hz tt J J J J J ?_;refine DL.BS J J J pK (XR h1 hB (Bn 128)) kR aP kO ?_;refine vR ?_;exact Gx (DC (RV.tmp J)) pK
def Ek(n:Int)(k:Nat):List Int:=(List.range k).map fun j=>n/2^(8*j)%256
theorem Z3(n:Int)(k:Nat):Ek n (k+1)=Ek n k++[n/2^(8*k)%256]:=by simp[Ek,List.range_succ]
theorem Ey(n:Int)(k:Nat):(Ek n k).length=k:=by simp[Ek]
theorem H8(a b:List Int):bs a++bs b=bs (a++b):=by simp[bs]
abbrev II(b:Nat)(l:List Int)(ex:List Value):List CH:=A7 b (bs l++ex) 5
theorem eY{n:Int}(h0:0<=n)(h1:n<=18446744073709551615):Fn Tryz.prog 51 [.int .u64 n,.int .i64 8] [] fun e S'=>∃b cap ex,8<=cap/\ex.length=cap-8/\e=.returned (.tuple #[.slice (some ⟨b,0,none⟩) 8 cap,.int .i64 0])/\S'=[II b (Ek n 8) ex]:=by
 refine Fn.of Tryz.func51 J J [_,_] J ?_;refine vR ?_;refine CW.rN (ι:=Nat×Nat×Nat×List Value) 9 (fun i=>8-i.1) (fun i=>1<=i.1/\i.1<=8/\i.1<=i.2.2.1/\i.2.2.2.length=i.2.2.1-i.1) (fun i=>[(0,.int .u64 n),(25,.int .i64 8),(6,.slice (some ⟨i.2.1,0,none⟩) i.1 i.2.2.1),(26,.int .i64 i.1)]) (fun i=>[II i.2.1 (Ek n i.1) i.2.2.2]) ?_ ?_
 ·refine vR ?_;refine DL.shr 0 J J J J I Ba ?_;refine vR ?_;refine DL.bs tt J J J eL J J J Iq Ip I kO ?_;intro b0;skip
  refine DL.N1 tt J J J eL J (DO.slice (news:=bs [n/2^0%256]) tt J iN J J (BV _)) I I I kC ?_;intro b cap ex hex hcap;rw[show bs [n/2^0%256]=bs (Ek n 1)from rfl];refine vR ?_;exact⟨(1,b,cap,ex),_,by simp,⟨by simp,by simp,hcap,by simpa using hex⟩,sF,pK⟩
 ·rintro⟨k,b,cap,ex⟩ ⟨h2,h3,h4,h5⟩;simp only at h2 h3 h4 h5;have hl:=Ey n k;refine vR ?_;by_cases hlt:k<8
  ·refine CW.Gp J I ?_;refine vR ?_;refine DL.shr (8*k) J J J J I (by simp[IntKind.bits];omega) ?_;refine vR ?_;refine DL.bs tt J J J eL J J J Iq Ip I kO ?_;intro b0;skip
   refine DL.append tt J J J eL J Es (DO.slice (news:=bs [n/2^(8*k)%256]) tt J iN J J (BV _)) lN lN I I I kC ?_;intro b' cap' ex' hex hcap;rw[H8,<-Z3];refine vR ?_;exact⟨(k+1,b',cap',ex'),_,by simp;omega,⟨by simp,by simp;omega,hcap,by simpa using hex⟩,sF,pK⟩
  ·refine CW.GM J I ?_;obtain rfl:k=8:=I;refine vR ?_;exact⟨_,_,_,Fb (RV.tmp J) (RV.tmp J),pK,b,cap,ex,h4,h5,rfl,rfl⟩
def JL:List Int->Int
 |[]=>0
 |x::r=>x+256*JL r
def FB(l:List Int):Prop:=∀x∈l,0<=x/\x<256
theorem QG:∀{l:List Int},FB l->0<=JL l/\JL l<256^l.length
 |[],_=>by simp[JL]
 |x::r,h=>by
  have h1:=h x DI;have h2:=QG (l:=r) (fun y hy=>h y (by simp[hy]));simp only[JL,Bz,Int.pow_succ];constructor
  ·omega
  ·omega
theorem TD:∀(l:List Int) (x:Int),JL (l++[x])=JL l+x*256^l.length
 |[],x=>by simp[JL]
 |y::r,x=>by simp only[AQ,JL,TD r x,Bz,Int.pow_succ,Int.mul_add];rw[Int.mul_comm (256^r.length) 256,Int.mul_left_comm];omega
theorem UL(k:Nat):(256:Int)^k=2^(8*k):=by rw[show(256:Int)=2^8 by decide,<-Int.pow_mul]
variable{l:List Int}
theorem nk{x:Int}(h:FB l)(hx:0<=x/\x<256)(hl:l.length<8):bits .or .u64 (JL l) (IntKind.u64.wrap (x*2^(8*l.length)))=JL (l++[x]):=by
 obtain⟨h1,h2⟩:=QG h;rw[UL]at h2;have e:(2:Int)^(8*l.length)*256=2^(8*l.length+8):=by rw[Int.pow_add];rfl
 have p0:(0:Int)<2^(8*l.length):=Int.pow_pos I;have hle:(2:Int)^(8*l.length+8)<=2^64:=by
  have:(2:Nat)^(8*l.length+8)<=2^64:=Nat.pow_le_pow_right I I
  exact_mod_cast this
 have hx0:0<=x*2^(8*l.length):=Int.mul_nonneg hx.1 I;have hx1:x*2^(8*l.length)<2^64:=by have:x*2^(8*l.length)<=255*2^(8*l.length):=Int.mul_le_mul_of_nonneg_right I I;omega
 rw[wu64 I,bits_join_low .u64 64 Ba wraps_u64 (8*l.length) _ _ h1 h2 I hx0 (Int.mul_emod_left _ _) hx1,TD,UL]
variable{k:Nat}
theorem zY(h:k<l.length):E1 (bs l) k=some (.int .u8 l[k]):=by rw[D5];simp[bs,h]
theorem take_snoc(h:k<l.length):l.take k++[l[k]]=l.take (k+1):=by rw[List.take_succ_eq_append_getElem h]
theorem FB.take(h:FB l)(k:Nat):FB (l.take k):=fun x hx=>h x (Dn hx)
theorem zZ{b off cap bt:Nat}{cs:List Value}(hA:FB l)(hl:l.length<=8)(hcs:(cs.drop off).take l.length=bs l):Fn Tryz.prog 92 [.slice (some ⟨b,off,none⟩) l.length cap] [A7 b cs bt] (E4 (.int .u64 (JL l)) [A7 b cs bt]):=by
 refine Fn.of Tryz.func92 J J [_] J ?_;refine vR ?_;refine CW.loop (ι:=Nat) (fun k=>l.length-k) (fun k=>k<=l.length) (fun k=>[(6,.slice (some ⟨b,off,none⟩) l.length cap),(7,.int .i64 l.length),(3,.int .u64 (JL (l.take k))),(8,.int .i64 k)]) (fun _=>[A7 b cs bt]) 0 (Cj _) sF pK ?_;intro k hk;refine vR ?_;by_cases hlt:k<l.length
 ·have hat:E1 cs (off+k*1)=some (.int .u8 l[k]):=by have h1:=zY hlt;rw[D5]at h1⊢;rw[<-hcs,Bf,BE hlt,CG]at h1;simpa using h1
  have hb:=hA l[k] (B1 hlt);have htk:(l.take k).length=k:=by simp;omega
  have hor:=nk (hA.take k) hb I;rw[htk,take_snoc hlt]at hor;refine CW.Gp J I ?_;refine vR ?_;refine DL.C3 tt k J J J J J J hlt ?_;refine DL.ld1 tt J J J J J iN hat ?_;refine vR ?_;refine DL.shl (8*k) J J J J I (by simp[IntKind.bits];omega) ?_;refine DL.pv tt J J J J (congrArg _ hor) ?_;refine vR ?_;exact⟨k+1,_,I,I,sF,pK⟩
 ·refine CW.GM J I ?_;obtain rfl:k=l.length:=I;rw[List.take_length];refine vR ?_;exact Gx (DC (RV.tmp J)) pK
theorem ze{b off cap bt:Nat}{cs:List Value}(i len:Nat)(hA:FB l)(hl:l.length=8)(hi:8*i+8<=len)(hlen:len<1152921504606846976)(hcap:len<=cap)(hcs:(cs.drop (if cap=8*i then off else off+8*i*1)).take 8=bs l):Fn Tryz.prog 50 [.slice (some ⟨b,off,none⟩) len cap,.int .i64 i] [A7 b cs bt] (E4 (.int .u64 (JL l)) [A7 b cs bt]):=by
 refine Fn.of Tryz.func50 J J [_] J ?_;refine vR ?_;rw[BW (show¬((i:Int)<0) by omega)];skip
 refine CW.GM J I ?_;refine vR ?_;rw[Ah (show¬(len:Int)<8*(i:Int) by omega)];skip
 rw[Ah (show¬(len:Int)<8*(i:Int)+8 by omega)];skip
 refine DL.Qj tt (l:=8*i) (m:=8*i+8) (c:=cap) J J J J J J J (.UH I I I I) ?_;rw[show 8*i+8-8*i=l.length by omega];refine DL.BS J J J pK (zZ hA I (by rw[hl];exact hcs)) kR aP kO ?_;refine vR ?_;exact Gx (DC (RV.tmp J)) pK
section
variable{P:Program} (w:World)
theorem LM(d:Nat){e:TypeId}{k:IntKind}(he:P.underlying e=some (.int k))(xs ys:List Int):∀(m i:Nat),i+m<=xs.length->i+m<=ys.length->
 (Op.eqItems (d+1) e 1 (xs.map (Value.int k)).toArray (ys.map (Value.int k)).toArray (List.range' i m)).run P w=.ok (decide ((xs.drop i).take m=(ys.drop i).take m)) w
 |0,i,_,_=>by simp[Op.eqItems]
 |m+1,i,h1,h2=>by
  have ih:=LM d he xs ys m (i+1) I I;have px:∀zs:List Int,i<zs.length->(part e (zs.map (Value.int k)).toArray (i*1)).run P w=.ok (.int k (zs.getD i 0)) w:=fun zs h=>by simp[part,isAgg,Ac he,AZ h]
  have dx:∀zs:List Int,i<zs.length->(zs.drop i).take (m+1)=zs.getD i 0::(zs.drop (i+1)).take m:=fun zs h=>by rw[CQ h,EF];simp[AZ h]
  rw[List.range'_succ];simp only[Op.eqItems,Ag,px xs I,px ys I,Ad,D4 w d e k k _ _ he,Sem.run_ite,ih,BA];rw[dx xs I,dx ys I];generalize xs.getD i 0=a;generalize ys.getD i 0=b;by_cases hq:a=b<;>simp[hq]
theorem Ir(d:Nat){t e:TypeId}{i:TypeInfo}{k:IntKind}(ht:P.underlying t=some (.array n e))(hi:P.info? e=some i)(hc:P.cellsOf e=1)(he:P.underlying e=some (.int k))
 (xs ys:List Int) (hx:xs.length=n) (hy:ys.length=n):
 (Op.equalIn (d+2) t (.agg (xs.map (Value.int k)).toArray) (.agg (ys.map (Value.int k)).toArray)).run P w=.ok (decide (xs=ys)) w:=by
 rw[run_equalIn_array w (d+1) _ _ ht hi,hc,List.range_eq_range',LM w d he xs ys n 0 I I];simp[AX,hx,hy]
end
def enc2(p:Int×Int):Value:=.agg [.int .i64 p.1,.int .i64 p.2].toArray
theorem Z4(p:Int×Int):Instr.sameBits 10000 (enc2 p) (enc2 p)=true:=by show Instr.sameBits (9999+1) _ _=true;simp[enc2,Instr.sameBits]
theorem TE{α:Type}{P:Program}{w:World}:∀(l:List α) (f:α->PUnit->Sem (ForInStep PUnit)),(∀a∈l,(f a PUnit.unit).run P w=.ok (.yield PUnit.unit) w)->(forIn l PUnit.unit f).run P w=.ok PUnit.unit w
 |[],f,h=>by simp
 |a::l,f,h=>by rw[List.forIn_cons,Ag,h a DI];simp only[Ad];exact TE l f (fun b hb=>h b (by simp[hb]))
theorem Vg{P:Program}(w:World)(em:Bool)(d:Nat){t e m:Nat}{k:IntKind}(ht:P.underlying t=some (.array m e))(hi:JI P e 1=true)(he:P.underlying e=some (.int k))(xs:List Int)(hx:xs.length=m):
 (Instr.checkKey em (d+2) t (.agg (xs.map (Value.int k)).toArray)).run P w=.ok () w:=by
 obtain⟨ti,hti,hs⟩:=Gi hi;rw[Instr.checkKey];simp only[Ag,Ac ht,Ad];simp only[Std.Legacy.Range.forIn_eq_forIn_range',Std.Legacy.Range.size,Df,Nat.add_one_sub_one,Nat.div_one];rw[TE]
 ·rfl
 ·intro i hi;have hlt:i<xs.length:=by rw[List.mem_range']at hi;omega
  have hp:(part e (xs.map (Value.int k)).toArray (i*1)).run P w=.ok (.int k xs[i]) w:=by simp[part,isAgg,Ac he,hlt]
  simp only[Ag,sizeOf,typeInfo,run_program,Ad,hti,BA,hs,hp,Instr.checkKey,Ac he]
theorem eZ(w:World)(em:Bool)(p:Int×Int):(Instr.checkKey em 10000 296 (enc2 p)).run Tryz.prog w=.ok () w:=Vg w em 9998 Tryz.underlying296 kR Tryz.underlying56 [p.1,p.2] J
theorem key2:NQ Tryz.prog 296 enc2 where
 und:=⟨_,Tryz.underlying296,fun a b=>.inl J⟩
 eq:=fun w a b=>by obtain⟨i,hi,hs⟩:=Gi (P:=Tryz.prog) (t:=56) (n:=1) kR;have:=Ir (P:=Tryz.prog) w 9998 Tryz.underlying296 hi kR Tryz.underlying56 [a.1,a.2] [b.1,b.2] J J;have e:Op.equal 296 (enc2 a) (enc2 b)=Op.equalIn (9998+2) 296 (.agg (([a.1,a.2]:List Int).map (Value.int .i64)).toArray) (.agg (([b.1,b.2]:List Int).map (Value.int .i64)).toArray):=rfl;rw[e,this];obtain⟨a1,a2⟩:=a;obtain⟨b1,b2⟩:=b;simp
 chk:=eZ
 same:=Z4
def PT(a b:Int):Option Bool:=if(a=0/\b=1)\/(a=1/\b=0)\/(2<=a/\a<=5/\b=1)then some false else if a=1/\2<=b/\b<=5 then some true else none
abbrev nI:=List ((Int×Int)×Value×Nat)
def sv(b:Bool):Value:=.agg [.bool b].toArray
def Me(L:nI)(k:Nat):nI:=match k with
 |0=>L
 |k+1=>F8 (F8 (Me L k) (1,2+(k:Int)) (sv true) (2+2*k)) (2+(k:Int),1) (sv false) (3+2*k)
def lab:nI:=[((0,1),sv false,0),((1,0),sv false,1)]
def rQ:nI:=[((1,0),sv false,0),((0,1),sv false,1)]
theorem Z5(L:nI)(h:L=lab\/L=rQ)(a b:Int):E9 (Me L 4) (a,b)=(PT a b).map sv:=by
 have e:∀M:nI,(M=lab\/M=rQ)->∃c1 c2 c3 c4 c5 c6 c7 c8,Me M 4=M++[((1,2),sv true,c1),((2,1),sv false,c2),((1,3),sv true,c3),((3,1),sv false,c4),((1,4),sv true,c5),((4,1),sv false,c6),((1,5),sv true,c7),((5,1),sv false,c8)]:=by rintro M (rfl|rfl)<;>exact⟨_,_,_,_,_,_,_,_,rfl⟩
 obtain⟨c1,c2,c3,c4,c5,c6,c7,c8,hM⟩:=e L h;rw[hM];by_cases hin:0<=a/\a<=5/\0<=b/\b<=5
 ·obtain⟨a0,a5,b0,b5⟩:=hin;have ha:a=0\/a=1\/a=2\/a=3\/a=4\/a=5:=I;have hb:b=0\/b=1\/b=2\/b=3\/b=4\/b=5:=I;rcases h with rfl|rfl<;>rcases ha with rfl|rfl|rfl|rfl|rfl|rfl<;>rcases hb with rfl|rfl|rfl|rfl|rfl|rfl<;>rfl
 ·have hs:PT a b=none:=by unfold PT;rw[Ah I,Ah I]
  rw[hs];rcases h with rfl|rfl
  all_goals
   simp only[lab,rQ,AQ,AS,E9,Af]
   iterate 10 rw[Ah I]
   rfl
theorem Z6(L:nI)(h:L=lab\/L=rQ)(k:Nat)(hk:k<4):J8 (Me L k) (1,2+(k:Int)) (2+2*k)=3+2*k/\J8 (F8 (Me L k) (1,2+(k:Int)) (sv true) (2+2*k)) (2+(k:Int),1) (3+2*k)=4+2*k:=by have:k=0\/k=1\/k=2\/k=3:=I;rcases h with rfl|rfl<;>rcases this with rfl|rfl|rfl|rfl<;>exact⟨rfl,rfl⟩
theorem steps:Fn Tryz.prog 180 [] [] (Dv (ι:=Nat×nI) (fun i=>i.2=lab\/i.2=rQ) (fun i=>.map (some i.1)) (fun i=>[DX enc2 i.1 (Me i.2 4) 10])):=by
 refine Fn.of Tryz.func180 J J [_] J ?_;refine vR ?_;refine CW.aCt (ι:=Nat×nI) (fun i=>i.2=lab\/i.2=rQ) (fun i=>[(1,.map (some i.1))]) (fun i=>[DX enc2 i.1 (Me i.2 0) (2+2*0)]) ?_ ?_
 ·refine CW.tj [[1,2,4,5,0,3,6,7,8],[1,2,4,5,0,6,3,7,8]] (K:=[]) mixed hz kR pK ?_;intro o ho;simp only[Ab,List.mem_nil_iff,BX]at ho;rcases ho with rfl|rfl
  all_goals
   simp only[E2,Jf,JK,E1];refine DL.build hz tt J J J J J J eW ?_;refine DL.build hz tt J J J J J J eW ?_;refine DL.build hz tt J J J J J J eW ?_;refine DL.build hz tt J J J J J J eW ?_;refine DL.makeMap (enc:=enc2) J J ?_;intro b
  ·refine DL.insert (a:=(0,1)) key2 tt J J J J J J uP kO ?_;refine DL.insert (a:=(1,0)) key2 tt J J J J J J uP kO ?_;refine vR ?_;exact⟨(b,lab),_,.inl J,sF,.cons .here .nil⟩
  ·refine DL.insert (a:=(1,0)) key2 tt J J J J J J uP kO ?_;refine DL.insert (a:=(0,1)) key2 tt J J J J J J uP kO ?_;refine vR ?_;exact⟨(b,rQ),_,.inr J,sF,.cons .here .nil⟩
 ·rintro⟨b,L⟩ hL;refine vR ?_;refine DL.bs tt J J J eL J J J Iq Ip I kO ?_;intro c;refine vR ?_;refine CW.loop (ι:=Nat) (fun k=>4-k) (fun k=>k<=4) (fun k=>[(1,.map (some b)),(10,.slice (some ⟨c,0,none⟩) 4 4),(11,.int .i64 4),(12,.int .i64 k)]) (fun k=>[DX enc2 b (Me L k) (2+2*k),A7 c [.int .i64 2,.int .i64 3,.int .i64 4,.int .i64 5] 56]) 0 I sF pK ?_;intro k hk;refine vR ?_;by_cases hlt:k<4
  ·have hv:E1 [Value.int .i64 2,.int .i64 3,.int .i64 4,.int .i64 5] (0+k*1)=some (.int .i64 (2+k)):=by have:k=0\/k=1\/k=2\/k=3:=I;rcases this with rfl|rfl|rfl|rfl<;>rfl
   obtain⟨e1,e2⟩:=Z6 L hL k hlt;refine CW.Gp J I ?_;refine vR ?_;refine DL.C3 tt k J J J J J J hlt ?_;refine DL.ld1 tt J J J J J iN hv ?_;refine vR ?_;refine DL.build hz tt J J J J J J eW ?_;refine DL.build hz tt J J J J J J eW ?_;refine DL.Ju (a:=(1,2+(k:Int))) key2 tt J J J J J J uP kO ?_;rw[e1];refine vR ?_;refine DL.build hz tt J J J J J J eW ?_;refine DL.build hz tt J J J J J J eW ?_;refine DL.Ju (a:=(2+(k:Int),1)) key2 tt J J J J J J uP kO ?_;rw[show(.agg [.bool true].toArray:Value)=sv true from rfl,show(.agg [.bool false].toArray:Value)=sv false from rfl,e2,show 4+2*k=2+2*(k+1) by omega,show F8 (F8 (Me L k) (1,2+(k:Int)) (sv true) (2+2*k)) (2+(k:Int),1) (sv false) (3+2*k)=Me L (k+1)from rfl];refine vR ?_;exact⟨k+1,_,I,I,sF,pK⟩
  ·refine CW.GM J I ?_;obtain rfl:k=4:=I;refine vR ?_;exact BD (b,L) hL (DC (RV.tmp J)) pK
end
end Go.Proofs.YtfekkjbdcdnhlaaGreatDoor.Sep
