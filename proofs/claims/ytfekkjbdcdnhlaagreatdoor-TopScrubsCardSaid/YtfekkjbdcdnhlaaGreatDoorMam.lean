/- Lemmas for TopScrubs. No condition but those that each states. -/
import Derived.Test.YtfekkjbdcdnhlaaGreatDoorMal
set_option linter.all false
set_option maxHeartbeats 8000000
set_option maxRecDepth 100000
namespace Go.Proofs.YtfekkjbdcdnhlaaGreatDoor.Sep
noncomputable section
section
variable{P:Program} {RS:EA} {E:GI} {n:Nat} {K:Option A2} {Q:EX}
def IM(K:Option A2)(Lf:List Nat)(C0:Nat->List CH)(SJ:Nat)(live0:List Nat)(p:Pt):Prop:=K=none\/(K=some (Lf.map C0)/\Lf.Nodup/\SJ<=p.st.nx/\(∀k∈p.live,k<SJ->k∈live0)/\∀k∈Lf,k∈p.live/\p.C k=C0 k)
variable{Lf:List Nat} {C0:Nat->List CH} {SJ:Nat} {live0:List Nat}
theorem IM.yz{p:Pt}(h:IM K Lf C0 SJ live0 p)(hp:p.good RS):Ge K p.S:=by
 rcases h with rfl|⟨rfl,hn,_,_,hs⟩
 ·trivial
 ·exact hp.H.keep hn hs
theorem IM.reads{L:List Nat}{p:Pt}(h:IM K Lf C0 SJ live0 p)(hp:p.good RS)(hL:∀k∈L,K=none\/(k<SJ/\(k∈live0->k∈Lf))):Reads K p L:=by
 intro k hk hlive;rcases h with rfl|⟨rfl,hn,_,ho,hs⟩
 ·exact hp.inS hlive
 ·rcases hL k hk with h|⟨h1,h2⟩
  ·cases h
  ·have h:=h2 (ho k hlive h1);show p.C k∈Lf.map C0;rw[(hs k h).2];exact EH h
theorem IM.go{p q:Pt}(h:IM K Lf C0 SJ live0 p)(hto:p.to q)(hM:∀k∈q.st.md,K=none\/k∉Lf):IM K Lf C0 SJ live0 q:=by
 rcases h with rfl|⟨rfl,hn,hnx,ho,hs⟩
 ·exact .inl J
 ·refine .inr ⟨rfl,hn,Nat.le_trans hnx hto.nx,fun k hk hlt=>ho k (hto.old k hk (Nat.lt_of_lt_of_le hlt hnx)) hlt,fun k hk=> ?_⟩;obtain⟨h1,h2⟩:=hs k hk;have hnm:k∉q.st.md:=fun hm=>by
   rcases hM k hm with h|h
   ·cases h
   ·exact h hk
  obtain⟨h3,h4⟩:=hto.kept k h1 hnm;exact⟨h3,h4.trans h2⟩
variable{q:Pt}
theorem IM.put(h:IM K Lf C0 SJ live0 q)(d:Option Nat)(a:AV)(fr:Fr):IM K Lf C0 SJ live0 {q with st:=q.st.put d a,fr:=fr}:=by cases d<;>exact h
theorem I4(hE:En P RS E){ih:Ih}(hih:GK P RS ih):∀{l:List FO} {p:Pt} {outs:Ej} {L M:List Nat},LY E ih n l p.st=some (outs,L,M)->p.good RS->IM K Lf C0 SJ live0 p->(∀k∈L,K=none\/(k<SJ/\(k∈live0->k∈Lf)))->(∀k∈M,K=none\/k∉Lf)->
 (∀o∈outs,∀q:Pt,q.st=o.2->p.to q->q.good RS->Fin o.1 q Q)->DL P n K Q l p.fr p.S
 |[],p,outs,L,M,h,hp,hs,hL,hM,ES=>by simp only[LY,AH,Af]at h;obtain⟨rfl,rfl,rfl⟩:=h;exact .nil (ES _ (AP.2 J) p J (.refl p) hp) (Eo.refl _) (.refl _)
 |x::r,p,outs,L,M,h,hp,hs,hL,hM,ES=>by
  simp only[LY]at h;cases hd:Lq n x.o.dst<;>rw[hd]at h<;>simp only[AN,AO,reduceCtorEq]at h;split at h
  ·rename_i rs L1 h1;split at h
   ·rename_i o L2 M2 h2;simp only[AH,Af]at h;obtain⟨rfl,rfl,rfl⟩:=h;have key:∀{rs':List R1} {o':Ej} {L' M':List Nat},Xd (LY E ih n r) x.o.dst rs'=some (o',L',M')->(∀k∈L',K=none\/(k<SJ/\(k∈live0->k∈Lf)))->(∀k∈M',K=none\/k∉Lf)->(∀y∈o',∀q:Pt,q.st=y.2->p.to q->q.good RS->Fin y.1 q Q)->RA P RS n K Q r x.o.dst p rs':=by
     intro rs';induction rs' with
     |nil=>intro _ _ _ _ _ _ _ y hy;cases hy
     |cons y rs' ihr=>
      intro o' L' M' hgo hL' hM' hfin;cases y with
      |val a s=>
       simp only[Xd]at hgo;split at hgo
       ·rename_i o1 L1' M1 hr1;split at hgo
        ·rename_i o2 L2' M2' hr2;simp only[AH,Af]at hgo;obtain⟨rfl,rfl,rfl⟩:=hgo;have hrest:=ihr hr2 (fun k hk=>hL' k (BK _ hk)) (fun k hk=>hM' k (by simp[hk])) (fun y hy=>hfin y (BK _ hy));intro z hz;rcases Ab.1 hz with rfl|hz
         ·intro q e1 e2 e3 e4 v hv;have hs':IM K Lf C0 SJ live0 q:=hs.go e3 (fun k hk=>hM' k (by rw[e1]at hk;simp[hk]));refine⟨hs'.yz e4,?_⟩;have hdn:=RF hd;have hg':=e4.Dc (d:=x.o.dst) (fun e he=>(hdn e he).2) hv;have KE:=e3.Dc x.o.dst a v;have:=I4 (p:={q with st:=q.st.put x.o.dst a,fr:=Sep.Dc x.o.dst v q.fr}) hE hih (by rw[<-e1]at hr1;exact hr1) hg' (hs'.put _ _ _) (fun k hk=>hL' k (A3 _ hk)) (fun k hk=>hM' k (by simp[hk])) (fun y hy q' e5 e6 e7=>hfin y (A3 _ hy) q' e5 (KE.trans e6) e7);rw[e2]at this;exact this
         ·exact hrest z hz
        ·cases hgo
       ·cases hgo
      |Eu a s=>
       simp only[Xd]at hgo;split at hgo
       ·rename_i o2 L2' M2' hr2;simp only[AH,Af]at hgo;obtain⟨rfl,rfl,rfl⟩:=hgo;have hrest:=ihr hr2 hL' (fun k hk=>hM' k (by simp[hk])) (fun y hy=>hfin y (Aw _ hy));intro z hz;rcases Ab.1 hz with rfl|hz
        ·intro q e1 e2 e3 e4 v hv;exact hfin (.Eu a,s) BH q e1 e3 e4 v hv
        ·exact hrest z hz
       ·cases hgo
    exact oQ hE hih hp h1 (hs.reads hp (fun k hk=>hL k (A3 _ hk))) hd (key h2 (fun k hk=>hL k (BK _ hk)) hM ES)
   ·cases h
  ·cases h
theorem FZ{a:Nat}:∀{l:List Nat},Gu a l=true↔a∈l
 |[]=>by simp[Gu]
 |b::l=>by
  simp only[Gu,Ab];cases h:Nat.beq a b with
  |true=>simp[AK h]
  |false=>simp[Nat.ne_of_beq_eq_false h,FZ]
def M7:List Nat->List Nat
 |[]=>[]
 |a::l=>if a∈M7 l then M7 l else a::M7 l
theorem JS{a:Nat}:∀{l:List Nat},a∈M7 l↔a∈l
 |[]=>by simp[M7]
 |b::l=>by
  have ih:=JS (a:=a) (l:=l);simp only[M7,Ab];by_cases h:b∈M7 l
  ·rw[BE h,ih];constructor
   ·exact .inr
   ·rintro(rfl|h')
    ·exact JS.1 h
    ·exact h'
  ·rw[Ah h,Ab,ih]
theorem Gl:∀{l:List Nat},(M7 l).Nodup
 |[]=>.nil
 |b::l=>by
  simp only[M7];by_cases h:b∈M7 l
  ·rw[BE h];exact Gl
  ·rw[Ah h];exact Bv.2 ⟨h,Gl⟩
variable{o r:Ej}
theorem Kx{f:St->Option Ej}(h:Hj o f=some r):∀x∈o,(match x.1 with| .nor=>∃m,f x.2=some m/\∀y∈m,y∈r|_=>x∈r):=by
 intro x hx;obtain⟨m,h1,h2⟩:=F4 h x hx;obtain⟨e,s⟩:=x;cases e with
 |nor=>exact⟨m,h1,h2⟩
 |ret=>simp only[AH]at h1;subst h1;exact h2 _ (AP.2 J)
 |ex id=>simp only[AH]at h1;subst h1;exact h2 _ (AP.2 J)
 |Eu v=>simp only[AH]at h1;subst h1;exact h2 _ (AP.2 J)
variable{ih:Ih}{f id:Nat}{outs:Ej}
theorem oR(hE:En P RS E)(hih:GK P RS ih){An:List Oper}{p:Pt}(hp:p.good RS)(h:fj E ih f n id An p.st=some outs){Q:EX}(ES:∀o∈outs,∀q:Pt,q.st=o.2->p.to q->q.good RS->Fin o.1 q Q):CW P n (.region id An.toArray true) Q p.fr p.S:=by
 unfold fj at h;split at h
 ·rename_i pre z hcut;cases hc:HN An.toArray (pre++[z])&&FT An.toArray&&HO E.zt n An.toArray&&lastB An.toArray z<;>rw[hc]at h<;>simp only[AN,AO,reduceCtorEq]at h;split at h
  ·rename_i o L M hr;cases hk:L.all (fun k=>Nat.blt k p.st.nx&& !(Gu k M))&&o.all IV<;>rw[hk]at h<;>simp only[AN,AO,reduceCtorEq]at h;split at h
   ·rename_i o2 hb2;simp only[AH]at h;subst h;simp only[AI]at hk;obtain⟨hk,hnp⟩:=hk;rw[AY]at hk hnp;let Lf:=M7 (L.filter (fun k=>decide (k∈p.live)))
    have W8:∀k,k∈Lf↔k∈L/\k∈p.live:=fun k=>by simp[Lf,JS]
    have hkk:∀k∈L,k<p.st.nx/\k∉M:=fun k Xj=>by have:=hk k Xj;simp only[AI,Bo]at this;refine⟨by simpa using this.1,fun hm=> ?_⟩;rw[FZ.2 hm]at this;simp at this
    let p0:Pt:={p with st:={p.st with md:=[]}}
    have hp0:p0.good RS:=⟨hp.F,hp.H,hp.lt⟩
    have hst:IM (some (Lf.map p.C)) Lf p.C p.st.nx p.live p0:=.inr ⟨rfl,Gl,Ao _,fun k hk _=>hk,fun k hk=>⟨((W8 k).1 hk).2,rfl⟩⟩;obtain⟨U,hperm⟩:=hst.yz hp0;have hpk:∀(A B:A2),DV (A++B) A B:=fun A B=>by
     induction A with
     |nil=>exact .nil
     |cons c A ih=>exact .cons .here ih
    have hfin:∀x∈o2,∀q:Pt,q.st=x.2->p0.to q->q.good RS->Fin x.1 q Q:=by intro x hx q e1 e2 e3;have:=ES _ (EH hx) {q with st:={q.st with md:=q.st.md++p.st.md}} (by rw[<-e1]) ⟨e2.ext,fun k hk hn=>e2.kept k hk (fun hm=>hn (A3 _ hm)),e2.old,e2.nx,fun k hk=>BK _ hk⟩ ⟨e3.F,e3.H,e3.lt⟩;obtain⟨e,s⟩:=x;cases e<;>exact this
    have aCC:DF An.toArray=Jf An:=funext fun i=>by rw[Jm]
    refine CW.perm (S:=Lf.map p.C++U) ?_ hperm.symm;refine CW.eU pre z hE.mixed hE.zt hc (hpk _ _) (DL.congr (S:=p.S) ?_ (Eo.refl _) hperm);rw[aCC,<-G7];refine I4 (K:=some (Lf.map p.C)) (Lf:=Lf) (C0:=p.C) (SJ:=p.st.nx) (live0:=p.live) hE hih (p:=p0) hr hp0 hst (fun k hk=>.inr ⟨(hkk k hk).1,fun hl=>(W8 k).2 ⟨hk,hl⟩⟩) (fun k hk=>.inr fun hm=>(hkk k ((W8 k).1 hm).1).2 hk) ?_;intro x hx q e1 e2 e3;have hm:=Kx hb2 x hx;have V0:=hnp x hx;obtain⟨e,s⟩:=x;cases e with
    |nor=>
     obtain⟨mm,h1,h2⟩:=hm;simp only at h1 e1;split at h1
     ·rename_i o' L' M' hr';simp only[AH]at h1;subst h1;rw[<-e1]at hr';have:=I4 (K:=none) (Lf:=[]) (C0:=q.C) (SJ:=0) (live0:=[]) hE hih hr' e3 (.inl J) (fun _ _=>.inl J) (fun _ _=>.inl J) (fun y hy q' e4 e5 e6=>hfin y (h2 y hy) q' e4 (e2.trans e5) e6);show DL P n none Q [Jf An z] q.fr q.S;rw[G7]at this;exact this
     ·cases h1
    |ret=>simp[IV]at V0
    |ex id=>simp[IV]at V0
    |Eu v=>intro u hu;exact hfin _ hm q e1 e2 e3 u hu
   ·cases h
  ·cases h
 ·cases h
theorem oS(hE:En P RS E)(hih:GK P RS ih){An:List Oper}{draw:Bool}{st:St}(h:aF E ih f n id An draw st=some outs):Snd P RS n (.region id An.toArray draw) st outs:=by
 intro p hst hp Q ES;subst hst;unfold aF at h;cases draw with
 |false=>
  simp only[AO]at h;cases hgd:I2 An<;>rw[hgd]at h<;>simp only[AN,AO,reduceCtorEq]at h;split at h
  ·rename_i o L M hr;simp only[AH]at h;subst h;exact CW.reg hgd (I4 (K:=none) (Lf:=[]) (C0:=p.C) (SJ:=0) (live0:=[]) hE hih hr hp (.inl J) (fun _ _=>.inl J) (fun _ _=>.inl J) ES)
  ·cases h
 |true=>
  simp only[AN]at h;cases hc:HN An.toArray (E.ord f id)&&FT An.toArray&&HO E.zt n An.toArray<;>rw[hc]at h<;>simp only[AN,AO,reduceCtorEq]at h;split at h
  ·rename_i o L M hr;cases hk:L.all (fun k=>Nat.blt k p.st.nx&& !(Gu k M))with
   |false=>rw[hk]at h;exact oR hE hih hp h ES
   |true=>
   rw[hk]at h;simp only[AN,AH]at h;subst h;rw[AY]at hk;let Lf:=M7 (L.filter (fun k=>decide (k∈p.live)))
   have W8:∀k,k∈Lf↔k∈L/\k∈p.live:=fun k=>by simp[Lf,JS]
   have hkk:∀k∈L,k<p.st.nx/\k∉M:=fun k Xj=>by have:=hk k Xj;simp only[AI,Bo]at this;refine⟨by simpa using this.1,fun hm=> ?_⟩;rw[FZ.2 hm]at this;simp at this
   let p0:Pt:={p with st:={p.st with md:=[]}}
   have hp0:p0.good RS:=⟨hp.F,hp.H,hp.lt⟩
   have hst:IM (some (Lf.map p.C)) Lf p.C p.st.nx p.live p0:=.inr ⟨rfl,Gl,Ao _,fun k hk _=>hk,fun k hk=>⟨((W8 k).1 hk).2,rfl⟩⟩;obtain⟨U,hperm⟩:=hst.yz hp0;have hpk:∀(A B:A2),DV (A++B) A B:=fun A B=>by
    induction A with
    |nil=>exact .nil
    |cons c A ih=>exact .cons .here ih
   refine CW.perm (S:=Lf.map p.C++U) ?_ hperm.symm;refine CW.dr (E.ord f id) (Lf.map p.C) hE.mixed hE.zt hc (hpk _ _) (DL.congr ?_ (Eo.refl _) hperm);refine I4 (K:=some (Lf.map p.C)) (Lf:=Lf) (C0:=p.C) (SJ:=p.st.nx) (live0:=p.live) hE hih (p:=p0) hr hp0 hst (fun k hk=>.inr ⟨(hkk k hk).1,fun hl=>(W8 k).2 ⟨hk,hl⟩⟩) (fun k hk=>.inr fun hm=>(hkk k ((W8 k).1 hm).1).2 hk) ?_;intro x hx q e1 e2 e3;have:=ES _ (EH hx) {q with st:={q.st with md:=q.st.md++p.st.md}} (by rw[<-e1]) ⟨e2.ext,fun k hk hn=>e2.kept k hk (fun hm=>hn (A3 _ hm)),e2.old,e2.nx,fun k hk=>BK _ hk⟩ ⟨e3.F,e3.H,e3.lt⟩;obtain⟨e,s⟩:=x;cases e<;>exact this
  ·cases h
theorem PY{f:St->Option Ej}(h:Hj o f=some r):∀x∈o,(match x.1 with| .nor=>∃m,f x.2=some m/\∀y∈m,y∈r|_=>x∈r):=by
 intro x hx;obtain⟨m,h1,h2⟩:=F4 h x hx;obtain⟨e,s⟩:=x;cases e with
 |nor=>exact⟨m,h1,h2⟩
 |ret=>simp only[AH]at h1;subst h1;exact h2 _ (AP.2 J)
 |ex id=>simp only[AH]at h1;subst h1;exact h2 _ (AP.2 J)
 |Eu v=>simp only[AH]at h1;subst h1;exact h2 _ (AP.2 J)
def oU(P:Program)(n:Nat)(c:Code)(Q:EX):Nat->Fr->A2->Prop
 |0,_,_=>False
 |m+1,fr,S=>CW P n c (IL (fun fr S=>oU P n c Q m fr S) Q) fr S
variable{m:Nat}
theorem oU.loop{c:Code}{fr:Fr}{S:A2}(h:oU P n c Q m fr S):CW P n (.loop c) Q fr S:=by
 intro A R a w hd hk hs;have hd2:=hd.2;refine wp_loop_rounds m ?_;induction m generalizing fr S a w with
 |zero=>exact h.elim
 |succ m ih=>
  rw[rounds_succ];refine wp_mono (h A R a w hd hk hs) ?_;rintro e a' w' ⟨hd',hh⟩;cases e with
  |normal=>obtain⟨fr',S',hk',hs',hq⟩:=hh;exact ih hq a' w' ⟨hd',hd2⟩ hk' hs'
  |_=>exact⟨hd',hh⟩
theorem Fin.next{e:Ex}{N:Fr->A2->Prop}(h:match e with| .nor=>N q.fr q.S|_=>Fin e q Q):Fin e q (IL N Q):=by cases e<;>exact h
theorem V1(hE:En P RS E){ihf:Ih}(ih:GK P RS ihf):GK P RS (HB E ihf):=fun f n c st outs h=>by
 cases c with
 |skip=>simp only[HB,AH]at h;subst h;intro p hst hp Q ES;exact CW.skip (ES _ (AP.2 J) p hst (.refl p) hp)
 |label l=>simp only[HB,AH]at h;subst h;intro p hst hp Q ES;exact CW.label (ES _ (AP.2 J) p hst (.refl p) hp)
 |ret=>simp only[HB,AH]at h;subst h;intro p hst hp Q ES;exact CW.ret (ES _ (AP.2 J) p hst (.refl p) hp)
 |exit id=>simp only[HB,AH]at h;subst h;intro p hst hp Q ES;exact CW.exit (ES _ (AP.2 J) p hst (.refl p) hp)
 |seq a b=>
  simp only[HB]at h;split at h
  ·rename_i o ho;intro p hst hp Q ES;refine CW.seq (ih f n a st o ho p hst hp _ fun x hx q e1 e2 e3=>Fin.next ?_);have hm:=PY h x hx;obtain⟨e,s⟩:=x;cases e with
   |nor=>obtain⟨mm,h1,h2⟩:=hm;exact ih f n b s mm h1 q e1 e3 Q fun y hy r e4 e5 e6=>ES y (h2 y hy) r e4 (e2.trans e5) e6
   |ret=>exact ES _ hm q e1 e2 e3
   |ex id=>exact ES _ hm q e1 e2 e3
   |Eu v=>exact ES _ hm q e1 e2 e3
  ·cases h
 |cond c a b=>
  simp only[HB]at h;split at h
  ·rename_i t hc;intro p hst hp Q ES;subst hst;obtain⟨v,h1,h2⟩:=DG hp.F hc;cases h2;cases t with
   |true=>exact CW.Qa h1 (ih f n a _ outs h p J hp Q ES)
   |false=>exact CW.Qb h1 (ih f n b _ outs h p J hp Q ES)
  ·rename_i hc;split at h
   ·rename_i t;cases hcc: !Nat.blt t 16777216<;>rw[hcc]at h<;>simp only[AN,AO,reduceCtorEq]at h;have aCD:t<2^24:=by simpa using hcc
    split at h
    ·rename_i o ho;split at h
     ·rename_i o' ho';simp only[AH]at h;subst h;intro p hst hp Q ES;subst hst;obtain⟨v,h1,h2⟩:=DG hp.F hc;cases h2 with| @Jh bb=>
      have hp1:=hp.refine aCD h1;cases bb with
      |true=>exact CW.Qa h1 (ih f n a _ o ho {p with st:=p.st.put (some t) (.boo (some true))} J hp1 Q fun x hx q e1 e2 e3=>ES x (A3 _ hx) q e1 ((Pt.to.refine p t true).trans e2) e3)
      |false=>exact CW.Qb h1 (ih f n b _ o' ho' {p with st:=p.st.put (some t) (.boo (some false))} J hp1 Q fun x hx q e1 e2 e3=>ES x (BK _ hx) q e1 ((Pt.to.refine p t false).trans e2) e3)
     ·cases h
    ·cases h
   ·cases h
  ·cases h
 |block id a=>
  simp only[HB]at h;split at h
  ·rename_i o ho;simp only[AH]at h;subst h;intro p hst hp Q ES;refine CW.block (ih f n a st o ho p hst hp _ fun x hx q e1 e2 e3=> ?_);have hmem:∀{o:Ej} {x:Ex×St},x∈o->(match x.1 with| .ex j=>if j=id then(Ex.nor,x.2)else x|_=>x)∈P4 id o:=by
    intro o;induction o with
    |nil=>intro x hx;cases hx
    |cons y o iho=>
     intro x hx;obtain⟨e,s⟩:=y;rcases Ab.1 hx with rfl|hx
     ·cases e with
      |ex j=>
       simp only[P4];by_cases hj:j=id
       ·subst hj;simp
       ·have:Nat.beq j id=false:=by simp[GH,hj]
        simp[this,hj]
      |nor=>simp[P4]
      |ret=>simp[P4]
      |Eu v=>simp[P4]
     ·have:=iho hx;cases e with
      |ex j=>simp only[P4];cases Nat.beq j id<;>exact Aw _ this
      |nor=>exact Aw _ this
      |ret=>exact Aw _ this
      |Eu v=>exact Aw _ this
   have hx':=hmem hx;obtain⟨e,s⟩:=x;cases e with
   |nor=>exact ES _ hx' q e1 e2 e3
   |ret=>exact ES _ hx' q e1 e2 e3
   |Eu v=>exact ES _ hx' q e1 e2 e3
   |ex j=>
    simp only at hx';show(if j=id then Q.go .normal q.fr q.S else Q.go (.exit j) q.fr q.S);by_cases hj:j=id
    ·rw[BE hj]at hx'⊢;exact ES _ hx' q e1 e2 e3
    ·rw[Ah hj]at hx'⊢;exact ES _ hx' q e1 e2 e3
  ·cases h
 |loop a=>
  simp only[HB]at h;intro p hst hp Q ES;have key:∀k (st:St) (outs:Ej),Xe (ihf f n a) k st=some outs->∀p:Pt,p.st=st->p.good RS->(∀o∈outs,∀q:Pt,q.st=o.2->p.to q->q.good RS->Fin o.1 q Q)->oU P n a Q k p.fr p.S:=by
   intro k;induction k with
   |zero=>intro st outs h;simp[Xe]at h
   |succ k ihk=>
    intro st outs h p hst hp ES;simp only[Xe]at h;split at h
    ·rename_i o ho;refine ih f n a st o ho p hst hp _ fun x hx q e1 e2 e3=>Fin.next ?_
     have hm:=PY h x hx;obtain⟨e,s⟩:=x;cases e with
     |nor=>obtain⟨mm,h1,h2⟩:=hm;exact ihk s mm h1 q e1 e3 fun y hy r e4 e5 e6=>ES y (h2 y hy) r e4 (e2.trans e5) e6
     |ret=>exact ES _ hm q e1 e2 e3
     |ex id=>exact ES _ hm q e1 e2 e3
     |Eu v=>exact ES _ hm q e1 e2 e3
    ·cases h
  exact oU.loop (key _ st outs h p hst hp ES)
 |scope a=>
  simp only[HB]at h;intro p hst hp Q ES;have:=ih f n a st outs h p hst hp ⟨fun e fr S=>match e with| .goto _=>False|e=>Q.go e fr S,Q.Eu⟩ (fun o ho q e1 e2 e3=>by have:=ES o ho q e1 e2 e3;obtain⟨e,s⟩:=o;cases e<;>exact this)
  intro A R a' w hd hk hs;refine wp_scope_straight (wp_mono (this A R a' w hd hk hs) ?_);rintro e a1 w1 ⟨hd1,hh⟩;cases e with
  |goto l=>obtain⟨_,_,_,_,hf⟩:=hh;exact hf
  |_=>exact⟨hd1,hh⟩
 |region id An draw=>simp only[HB]at h;have:=oS hE ih h;simpa using this
 |_=>simp[HB]at h
theorem Y6(hE:En P RS E):∀m,GK P RS (exec E m)
 |0=>fun f n c st outs h=>by simp[exec]at h
 |m+1=>fun f n c st outs h=>V1 hE (Y6 hE m) f n c st outs (by rwa [exec]at h)
abbrev Hk:=Nat->Nat->Code->St->Option Ej
def RH(E:GI)(hk:Hk):Nat->Nat->Nat->Code->St->Option Ej
 |0,_,_,_,_=>none
 |m+1,f,n,c,s=>match hk f n c s with
  |some o=>some o
  |none=>HB E (RH E hk m) f n c s
theorem V2(hE:En P RS E){hk:Hk}(hh:GK P RS hk):∀m,GK P RS (RH E hk m)
 |0=>fun f n c st outs h=>by simp[RH]at h
 |m+1=>fun f n c st outs h=>by
  rw[RH]at h;split at h
  ·rename_i o ho;cases h;exact hh f n c st _ ho
  ·exact V1 hE (V2 hE hh m) f n c st outs h
end
def W9(N:Nat):AV->Bool
 | .int _ _ _=>true
 | .boo _=>true
 | .junk=>true
 | .val _=>true
 | .Au n _=>Nat.blt n N
 | .mp n=>Nat.blt n N
 | .G3 n _=>Nat.blt n N
 | .sl n _ _ _=>Nat.blt n N
 | .O3 n _ _=>Nat.blt n N
 | .GY n b _ _ _=>Nat.blt n N&&Nat.blt b N
 | .cnt n _ _ m=>Nat.blt n N&&Nat.blt m N
 |_=>false
def Y7(N:Nat):AV->Bool
 | .agg l=>l.all (W9 N)
 |a=>W9 N a
def nL(N:Nat):AV->Bool
 | .Ec l=>l.all (Y7 N)
 | .LU _ a=>Y7 N a
 |a=>Y7 N a
def SZ(N:Nat)(ρ ρ':Nm):Prop:=∀n,n<N->ρ[n]? =ρ'[n]?
variable{N:Nat}{ρ ρ':Nm}
theorem SZ.at_(h:SZ N ρ ρ'){n:Nat}{x:Nat×Nat}(hn:Nat.blt n N=true)(hx:ρ[n]? =some x):ρ'[n]? =some x:=by rw[<-h n (by simpa using hn)];exact hx
variable{a:AV}{v:Value}
theorem Xk(h:SZ N ρ ρ')(ha:W9 N a=true)(hc:EM ρ a v):EM ρ' a v:=by
 cases hc with
 |int h1 h2=>exact .int h1 h2
 |boo=>exact .boo
 |Jh=>exact .Jh
 |val=>exact .val
 |Au k=>exact .Au (h.at_ ha k)
 |sl k=>exact .sl (h.at_ ha k)
 |G3 k hc=>exact .G3 (h.at_ ha k) hc
 |O3 k ho hc=>exact .O3 (h.at_ ha k) ho hc
 |cnt k k1 k2=>simp only[W9,AI]at ha;exact .cnt (h.at_ ha.1 k) (fun e=>let⟨q',c',g1,g2⟩:=k1 e;⟨q',c',h.at_ ha.2 g1,g2⟩) (fun e=>let⟨q',c',g1,g2⟩:=k2 e;⟨q',c',h.at_ ha.2 g1,g2⟩)
 |GY k kb hv=>simp only[W9,AI]at ha;exact .GY (h.at_ ha.1 k) (h.at_ ha.2 kb) hv
 |mp k=>exact .mp (h.at_ ha k)
 |junk k=>exact .junk k
 |_=>simp[W9]at ha
theorem Nh{N:Nat}{ρ ρ':Nm}(h:SZ N ρ ρ'):∀{l:List AV} {vs:List Value},l.all (W9 N)=true->Bt ρ l vs->Bt ρ' l vs
 |_,_,_,.nil=>.nil
 |_,_,ha,.cons h1 h2=>by simp only[List.all_cons,AI]at ha;exact .cons (Xk h ha.1 h1) (Nh h ha.2 h2)
theorem RI(h:SZ N ρ ρ')(ha:Y7 N a=true)(hc:EM ρ a v):EM ρ' a v:=by
 unfold Y7 at ha;split at ha
 ·cases hc with|agg hc=>exact .agg (Nh h ha hc)
 ·exact Xk h ha hc
theorem Ky{N:Nat}{ρ ρ':Nm}(h:SZ N ρ ρ'):∀{l:List AV} {vs:List Value},l.all (Y7 N)=true->Bt ρ l vs->Bt ρ' l vs
 |_,_,_,.nil=>.nil
 |_,_,ha,.cons h1 h2=>by simp only[List.all_cons,AI]at ha;exact .cons (RI h ha.1 h1) (Ky h ha.2 h2)
theorem JU(h:SZ N ρ ρ')(ha:nL N a=true)(hc:EM ρ a v):EM ρ' a v:=by
 unfold nL at ha;split at ha
 ·cases hc with|Ec hc=>exact .Ec (Ky h ha hc)
 ·cases hc with|LU hc=>exact .LU (RI h ha hc)
 ·exact RI h ha hc
def G0:List AV->List AV->Bool
 |[],[]=>true
 |a::l,b::m=>P3 a b&&G0 l m
 |_,_=>false
def gB:AV->AV->Bool
 | .Ec l,.Ec m=>G0 l m
 | .LU t a,.LU u b=>Nat.beq t u&&P3 a b
 |a,b=>P3 a b
theorem GR{ρ:Nm}:∀{l m:List AV} {vs:List Value},Bt ρ l vs->G0 l m=true->Bt ρ m vs
 |_,[],_,.nil,_=>.nil
 |_,_::_,_,.nil,h=>by simp[G0]at h
 |_,[],_,.cons h k,hl=>by simp[G0]at hl
 |_,b::m,_,.cons h k,hl=>by simp only[G0,AI]at hl;exact .cons (IW h hl.1) (GR k hl.2)
variable{b:AV}
theorem Kz(h:EM ρ a v)(hl:gB a b=true):EM ρ b v:=by
 unfold gB at hl;split at hl
 ·cases h with|Ec h=>exact .Ec (GR h hl)
 ·cases h with|LU h=>
  simp only[AI]at hl;obtain rfl:=AK hl.1;exact .LU (IW h hl.2)
 ·exact IW h hl
def eqC:AV->AV->Bool
 | .int k l h,.int k' l' h'=>I9 k k'&&FN l l'&&FN h h'
 | .Au n o,.Au m q=>Nat.beq n m&&Nat.beq o q
 | .mp n,.mp m=>Nat.beq n m
 | .G3 n l,.G3 m k=>Nat.beq n m&&Nat.beq l k
 | .junk,.junk=>true
 | .boo none,.boo none=>true
 | .GY n b j e x,.GY m c k f y=>Nat.beq n m&&Nat.beq b c&&Nat.beq j k&&Nat.beq e f&&Nat.beq x y
 |_,_=>false
theorem gC(h:eqC a b=true):a=b:=by
 unfold eqC at h;split at h
 ·simp only[AI,EO]at h;obtain⟨⟨h1,rfl⟩,rfl⟩:=h;rw[Fz h1]
 ·simp only[AI]at h;rw[AK h.1,AK h.2]
 ·rw[AK h]
 ·simp only[AI]at h;rw[AK h.1,AK h.2]
 ·rfl
 ·rfl
 ·simp only[AI]at h;have hxy:=AK h.2;rw[AK h.1.1.1.1,AK h.1.1.1.2,AK h.1.1.2,AK h.1.2,hxy]
 ·cases h
def Xl:List AV->List AV->Bool
 |[],[]=>true
 |a::l,b::m=>eqC a b&&Xl l m
 |_,_=>false
theorem UX:∀{l m:List AV},Xl l m=true->l=m
 |[],[],_=>rfl
 |[],_::_,h=>by simp[Xl]at h
 |_::_,[],h=>by simp[Xl]at h
 |a::l,b::m,h=>by simp only[Xl,AI]at h;rw[gC h.1,UX h.2]
def RJ:List Nat->List Nat->Bool
 |[],[]=>true
 |a::l,b::m=>Nat.beq a b&&RJ l m
 |_,_=>false
theorem OD:∀{l m:List Nat},RJ l m=true->l=m
 |[],[],_=>rfl
 |[],_::_,h=>by simp[RJ]at h
 |_::_,[],h=>by simp[RJ]at h
 |a::l,b::m,h=>by simp only[RJ,AI]at h;rw[AK h.1,OD h.2]
def eqW:AV->AV->Bool
 | .agg l,.agg m=>Xl l m
 |a,b=>eqC a b
theorem Xm(h:eqW a b=true):a=b:=by
 unfold eqW at h;split at h
 ·rw[UX h]
 ·exact gC h
def eqB:AB->AB->Bool
 | .res i d,.res j e=>Nat.beq i j&&RJ d e
 | .cells l t,.cells m u=>Nat.beq t u&&Xl l m
 | .Hl a,.Hl b=>eqW a b
 | .unk none t,.unk none u=>Nat.beq t u
 | .unk (some a) t,.unk (some b) u=>eqW a b&&Nat.beq t u
 |_,_=>false
theorem Xn{a b:AB}(h:eqB a b=true):a=b:=by
 unfold eqB at h;split at h
 ·simp only[AI]at h;rw[AK h.1,OD h.2]
 ·simp only[AI]at h;rw[AK h.1,UX h.2]
 ·rw[Xm h]
 ·rw[AK h]
 ·simp only[AI]at h;rw[Xm h.1,AK h.2]
 ·cases h
def y8(N:Nat):AB->Bool
 | .cells l _=>l.all (W9 N)
 | .res _ _=>true
 | .Hl a=>Y7 N a
 | .unk none _=>true
 | .unk (some a) _=>Y7 N a
 |_=>false
variable{k:Nat}{ab:AB}
theorem Hm{RS:EA}(h:SZ N ρ ρ')(hk:k<N){c:List CH}(ha:y8 N ab=true)(hc:Da RS ρ k ab c):Da RS ρ' k ab c:=by
 have hkb:Nat.blt k N=true:=by simpa using hk
 cases hc with
 |cells h1 h2=>exact .cells (h.at_ hkb h1) (Nh h ha h2)
 |res h1 h2=>exact .res (h.at_ hkb h1) h2
 |Hl h1 h2=>exact .Hl (h.at_ hkb h1) (fun p hp=>RI h ha (h2 p hp))
 |unk h1 hu=>
  refine .unk (h.at_ hkb h1) ?_;rcases hu with h0|⟨h0,ex,h2,h3,h4⟩
  ·exact .inl h0
  ·refine .inr ⟨h0,ex,h2,fun x hx v hv=> ?_,h4⟩;subst hx;exact RI h ha (h3 x J v hv)
 |_=>simp[y8]at ha
def Gf:Nat->List AB->C7 AB->C7 AB
 |_,[],t=>t
 |k,a::r,t=>Gf (Nat.succ k) r (t.put 24 k (some a))
theorem HL:∀{B:List AB} {k:Nat} {t:C7 AB},k+B.length<=2^24->∀j,(Gf k B t).get j=if j<k then t.get j else if j<k+B.length then B[j-k]? else t.get j
 |[],k,t,h,j=>by simp only[Gf,List.length_nil,CV];by_cases hj:j<k<;>simp[hj]
 |a::r,k,t,h,j=>by
  simp only[Bz]at h;rw[Gf,HL I,C7.get_put 24 t k j _ I];by_cases h1:j<k
  ·have:j<k+1:=I;have e:j≠k:=I;simp[h1,this,e]
  ·by_cases h2:j=k
   ·subst h2;simp
   ·have h3:¬j<k+1:=I;have e:j-k=(j-(k+1))+1:=I;simp only[Nat.succ_eq_add_one,h1,h2,h3,Cc,Bz,e,DR];have e2:k+1+r.length=k+(r.length+1):=I;rw[e2]
def TR:Nat->List AB->C7 AB->Bool
 |_,[],_=>true
 |k,a::r,t=>(match t.get k with|some b=>eqB b a|none=>false)&&TR (Nat.succ k) r t
theorem RL:∀{B:List AB} {k:Nat} {t:C7 AB},TR k B t=true->∀j,j<B.length->t.get (k+j)=B[j]?
 |[],_,_,_,j,hj=>by simp at hj
 |a::r,k,t,h,j,hj=>by
  simp only[TR,AI]at h;cases j with
  |zero=>
   have h1:=h.1;split at h1
   ·rename_i b hb;simp[hb,Xn h1]
   ·cases h1
  |succ j=>have:=RL h.2 j (by simpa using hj);rw[show k+(j+1)=Nat.succ k+j by omega,this];simp
def EC(B:List AB):St:=⟨.e,Gf 0 B .e,B.length,[]⟩
abbrev RN:=List (Bool×AV)
def UY(M:List Nat)(s:St):RN->List R1
 |[]=>[]
 |(b,a)::r=>(bif b then .Eu a {s with md:=M++s.md}else .val a {s with md:=M++s.md})::UY M s r
theorem Ls{M:List Nat}{s:St}{a:AV}{b:Bool}:∀{r:RN},(b,a)∈r->(bif b then R1.Eu a {s with md:=M++s.md}else R1.val a {s with md:=M++s.md})∈UY M s r
 |(c,d)::r,h=>by
  rcases Ab.1 h with h|h
  ·cases h;simp[UY]
  ·exact Aw _ (Ls h)
def Si(B:List AB)(M:List Nat)(DK:List AV)(IB:RN):List AV->St->Option (List R1):=fun args s=>bif G0 args DK&&Nat.ble B.length s.nx&&TR 0 B s.hp then some (UY M s IB)else none
def okS(B:List AB)(M:List Nat)(s:St):Bool:=TR 0 B s.hp&&s.md.all (fun k=>Nat.ble B.length k||Gu k M)
def vE(B:List AB)(M:List Nat)(IB:RN):R1->Bool
 | .val a s=>IB.any (fun x=> !x.1&&gB a x.2)&&okS B M s
 | .Eu a s=>IB.any (fun x=>x.1&&gB a x.2)&&okS B M s
def rZ(E:GI)(ih:Ih)(f:Nat)(B:List AB)(M:List Nat)(IB:RN)(args:List AV):Bool:=match B7 E ih f args (EC B)with
 |some rs=>rs.all (vE B M IB)
 |none=>false
def UZ(lo:Int):Nat->List Int
 |0=>[]
 |n+1=>lo::UZ (Int.add lo 1) n
theorem RO:∀{n:Nat} {lo z:Int},lo<=z->z<lo+n->z∈UZ lo n
 |0,lo,z,h1,h2=>I
 |n+1,lo,z,h1,h2=>by
  by_cases h:z=lo
  ·subst h;simp[UZ]
  ·exact Aw _ (RO (show lo+1<=z by omega) (by have e:Int.add lo 1=lo+1:=rfl;show z<lo+1+(n:Int);push_cast at h2;omega))
def vF(i:Nat)(args:List AV):List (List AV):=match E1 args i with
 |some (.int k lo hi)=>(UZ lo (Int.toNat (Int.add (Int.sub hi lo) 1))).map fun z=>args.set i (.int k z z)
 |_=>[args]
variable{i:Nat}
theorem oV{args:List AV}{vs:List Value}(h:Bt ρ args vs):∃l∈vF i args,Bt ρ l vs:=by
 unfold vF;split
 ·rename_i k lo hi hn;obtain⟨v,h1,h2⟩:=h.at hn;cases h2 with| @int _ _ _ z a1 a2=>
  refine⟨args.set i (.int k z z),A8.2 ⟨z,RO a1 ?_,rfl⟩,?_⟩
  ·have e:Int.add (Int.sub hi lo) 1=hi-lo+1:=rfl;rw[e];omega
  ·have:=h.set i (a:=.int k z z) (v:=.int k z) (.int (A4 _) (A4 _));rw[D5]at h1;have e:vs.set i (.int k z)=vs:=by obtain⟨hl,he⟩:=Ae.1 h1;rw[<-he];simp
   rw[e]at this;exact this
 ·exact⟨args,by simp,h⟩
def gG:List Nat->List AV->List (List AV)
 |[],a=>[a]
 |i::r,a=>(vF i a).flatMap (gG r)
theorem Ua{ρ:Nm}:∀{is:List Nat} {args:List AV} {vs:List Value},Bt ρ args vs->∃l∈gG is args,Bt ρ l vs
 |[],args,vs,h=>⟨args,by simp[gG],h⟩
 |i::r,args,vs,h=>by obtain⟨l,h1,h2⟩:=oV (i:=i) h;obtain⟨m,h3,h4⟩:=Ua (is:=r) h2;exact⟨m,List.mem_flatMap.2 ⟨l,h1,h3⟩,h4⟩
def HU(E:GI)(ih:Ih)(f:Nat)(B:List AB)(M:List Nat)(DK:List AV)(IB:RN)(is:List Nat):Bool:=B.all (y8 B.length)&&DK.all (Y7 B.length)&&IB.all (fun x=>nL B.length x.2)&&Nat.ble B.length 16777216&&(gG is DK).all (rZ E ih f B M IB)
section
variable{P:Program} {RS:EA} {E:GI}
variable{ih:Ih}{f:Nat}{B:List AB}{M:List Nat}{DK:List AV}{IB:RN}
theorem Ub(hE:En P RS E)(hih:GK P RS ih)(is:List Nat)(h:HU E ih f B M DK IB is=true):ET P RS f (Si B M DK IB):=by
 intro args s rs hc p hst hp vs hvs;subst hst;unfold Si at hc;cases hcond:G0 args DK&&Nat.ble B.length p.st.nx&&TR 0 B p.st.hp<;>rw[hcond]at hc<;>simp only[AN,AO,reduceCtorEq,AH]at hc;subst hc;simp only[AI]at hcond;obtain⟨⟨hle,hnx⟩,hsame⟩:=hcond;have hnx:=AL hnx;unfold HU at h;simp only[AI]at h;obtain⟨⟨⟨⟨hB,ha0⟩,RP⟩,J5⟩,hrun⟩:=h;have J5:=AL J5;rw[AY]at hrun hB RP;have hget:∀k,k<B.length->p.st.hp.get k=B[k]? :=fun k hk=>by have:=RL hsame k hk;simpa using this
 let N:=B.length
 have I5:SZ N p.ρ (p.ρ.take N):=fun n hn=>by rw[Bf];simp[hn]
 have hin:∀k,k<N->k∈p.live/\∃ab,B[k]? =some ab/\Da RS p.ρ k ab (p.C k):=fun k hk=>by have h1:B[k]? =some B[k]:=AZ hk;obtain⟨h2,h3⟩:=hp.mem (k:=k) (ab:=B[k]) (by rw[hget k hk,h1]);exact⟨h2,_,h1,h3⟩
 let p0:Pt:=⟨p.ρ.take N,EC B,[],(List.range N).map p.C,List.range N,p.C⟩
 have hlen0:(p.ρ.take N).length=N:=by rw[BP,hp.H.len];omega
 have hp0:p0.good RS:=by
  refine⟨fun s a hs=>by simp[p0,EC,C7.FC]at hs,⟨hlen0,Bc,fun k hk=>Ak.1 hk,.refl _,fun k ab hk=> ?_⟩,J5⟩;have hk':(Gf 0 B .e).get k=some ab:=hk;rw[HL I]at hk';by_cases hkN:k<0+B.length
  ·have Uc:k<N:=by simpa using hkN
   simp only[Nat.not_lt_zero,Cc,hkN,C9,Df]at hk';obtain⟨h1,ab',h2,h3⟩:=hin k Uc;rw[hk']at h2;cases h2;exact⟨Ak.2 Uc,Hm I5 Uc (hB ab (EQ hk')) h3⟩
  ·simp[C7.FC]at hk';exact absurd hk'.1 (by simpa using hkN)
 obtain⟨l,hl1,hl2⟩:=Ua (is:=is) (Ky I5 ha0 (GR hvs hle));have hrl:=hrun l hl1;unfold rZ at hrl;split at hrl
 ·rename_i rs0 hcall;rw[AY]at hrl;have hfn:=(FD hE hih hp0 hcall).2 vs hl2;let rest:=p.live.filter (fun k=> !decide (k<N))
  have hperm:p.live.Perm (List.range N++rest):=by
   have e1:p.live.Perm (p.live.filter (fun k=>decide (k<N))++rest):=(CO _ _).symm;refine e1.trans (Bm _ ?_);refine(B8 (hp.H.nd.filter _) Bc).2 fun k=> ?_
   simp only[Bh,Ak,decide_eq_true_eq];exact⟨fun hk=>hk.2,fun hk=>⟨(hin k hk).1,hk⟩⟩
  have hS:p.S.Perm ((List.range N).map p.C++rest.map p.C):=by
   refine hp.H.perm.trans ?_;have:=hperm.map p.C
   rwa [Ai]at this
  have key:∀(s0:St) (q0:Pt),q0.st=s0->p0.to q0->q0.good RS->okS B M s0=true->∃q:Pt,q.st={p.st with md:=M++p.st.md}/\q.fr=p.fr/\p.to q/\q.good RS/\SZ N q0.ρ q.ρ/\∀A w (U:A2),Ds A w (q0.S++(rest.map p.C++U))->Ds A w (q.S++U):=by
   intro s0 q0 hq0 hto hgood hok;unfold okS at hok;simp only[AI]at hok;obtain⟨hok1,hok2⟩:=hok;rw[AY]at hok2;have KF:SZ N q0.ρ p.ρ:=fun n hn=>by obtain⟨σ,e⟩:=hto.ext;rw[e];show(p.ρ.take N++σ)[n]? =_;rw[BG (by rw[hlen0];exact hn),Bf];simp[hn]
   have hin0:∀k,k<N->k∈q0.live/\∃ab,B[k]? =some ab/\Da RS q0.ρ k ab (q0.C k):=fun k hk=>by have h1:B[k]? =some B[k]:=AZ hk;have h2:=RL hok1 k hk;obtain⟨h3,h4⟩:=hgood.mem (k:=k) (ab:=B[k]) (by rw[hq0];simpa[h1]using h2);exact⟨h3,_,h1,h4⟩
   let C':Nat->List CH:=fun k=>if k<N then q0.C k else p.C k
   have gI:(List.range N).map C'=(List.range N).map q0.C:=BB fun k hk=>by simp[C',Ak.1 hk]
   have gJ:rest.map C'=rest.map p.C:=BB fun k hk=>by have:=(Bh.1 hk).2;simp only[Bo,decide_eq_false_iff_not]at this;simp[C',this]
   refine⟨⟨p.ρ,{p.st with md:=M++p.st.md},p.fr,(List.range N).map q0.C++rest.map p.C,p.live,C'⟩,rfl,rfl,?_,?_,KF,?_⟩
   ·refine⟨⟨[],by simp⟩,fun k hk hn=>⟨hk,?_⟩,fun k hk _=>hk,Ao _,fun k hk=>BK _ hk⟩;by_cases hkN:k<N
    ·simp only[C',hkN,C9];have hnm:k∉q0.st.md:=fun hm=>by
      rw[hq0]at hm;have:=hok2 k hm;simp only[BI]at this;rcases this with h|h
      ·have:=AL h;omega
      ·exact hn (A3 _ (FZ.1 h))
     exact(hto.kept k (Ak.2 hkN) hnm).2
    ·simp[C',hkN]
   ·refine⟨hp.F,⟨hp.H.len,hp.H.nd,hp.H.lt,?_,?_⟩,hp.lt⟩
    ·have:=hperm.map C';rw[Ai,gI,gJ]at this;exact this.symm
    ·intro k ab hk;obtain⟨h1,h2⟩:=hp.mem hk;refine⟨h1,?_⟩;by_cases hkN:k<N
     ·obtain⟨_,ab',h3,h4⟩:=hin0 k hkN;have h5:p.st.hp.get k=some ab:=hk;rw[hget k hkN,h3]at h5;cases h5;simp only[C',hkN,C9];exact Hm KF hkN (hB _ (EQ h3)) h4
     ·simp only[C',hkN,Cc];exact h2
   ·intro A w U hs;let JV:=q0.live.filter (fun k=> !decide (k<N))
    have RQ:q0.live.Perm (List.range N++JV):=by
     have e1:q0.live.Perm (q0.live.filter (fun k=>decide (k<N))++JV):=(CO _ _).symm;refine e1.trans (Bm _ ?_);refine(B8 (hgood.H.nd.filter _) Bc).2 fun k=> ?_
     simp only[Bh,Ak,decide_eq_true_eq];exact⟨fun hk=>hk.2,fun hk=>⟨(hin0 k hk).1,hk⟩⟩
    have hS0:q0.S.Perm (JV.map q0.C++(List.range N).map q0.C):=by refine hgood.H.perm.trans ?_;have:=RQ.map q0.C;rw[Ai]at this;exact this.trans CC
    have h1:=hs.perm (hS0.append_right _);rw[AU]at h1;have h2:=h1.drops;rw[AU];exact h2
  intro A U w hs;have hs':Ds A w (p0.S++(rest.map p.C++U)):=by
   have:=hs.perm (hS.append_right U)
   rwa [AU]at this
  refine(hfn A _ w hs').mono ?_;rintro e w' ⟨hw,S',hs1,hret⟩;refine⟨hw,?_⟩;rcases hret with⟨a,s0,hm,q0,v,e1,e2,e3,hto,hgood,hcon,rfl⟩|⟨a,s0,hm,q0,v,e1,e2,e3,hto,hgood,hcon,rfl⟩
  ·have hr:=hrl _ hm;simp only[vE,AI]at hr;obtain⟨hr1,hr2⟩:=hr;obtain⟨q,h1,h2,h3,h4,h5,h6⟩:=key s0 q0 e1 hto hgood hr2;rw[Dq]at hr1;obtain⟨⟨b,c⟩,hx,hx2⟩:=hr1;simp only[AI,Bo]at hx2;obtain⟨rfl,hx2⟩:=hx2;subst e3;exact⟨q.S,h6 A w' U hs1,.inl ⟨c,_,Ls (b:=false) hx,q,v,h1,h2,rfl,h3,h4,JU h5 (RP _ hx) (Kz hcon hx2),rfl⟩⟩
  ·have hr:=hrl _ hm;simp only[vE,AI]at hr;obtain⟨hr1,hr2⟩:=hr;obtain⟨q,h1,h2,h3,h4,h5,h6⟩:=key s0 q0 e1 hto hgood hr2;rw[Dq]at hr1;obtain⟨⟨b,c⟩,hx,hx2⟩:=hr1;simp only[AI]at hx2;obtain⟨rfl,hx2⟩:=hx2;subst e3;exact⟨q.S,h6 A w' U hs1,.inr ⟨c,_,Ls (b:=true) hx,q,v,h1,h2,rfl,h3,h4,JU h5 (RP _ hx) (Kz hcon hx2),rfl⟩⟩
 ·cases hrl
end
structure GX (RS:Nat->EA):Prop where
 same:∀i,i≠2->i≠3->∀K K' d b c,RS K i d b c->RS K' i d b c
 shift:∀i,i=2\/i=3->∀K AC a b c,RS K i [AC+a] b c↔RS (K+AC) i [a] b c
 mono:∀i,i=2\/i=3->∀K a a' b c,a<=a'->RS K i [a] b c->RS K i [a'] b c
 room:∀K H b c,RS K 8 [H] b c↔(c=[]/\GQ b+H<4294967296)
def gV(i:Nat):Bool:=Nat.beq i 2||Nat.beq i 3
theorem OI:gV i=true↔i=2\/i=3:=by
 simp only[gV,BI];constructor
 ·rintro(h|h)
  ·exact .inl (AK h)
  ·exact .inr (AK h)
 ·rintro(rfl|rfl)<;>simp[Nat.beq]
def di(m:Nat)(a b:AB):Bool:=match b with
 | .res j [0]=>bif gV j then(match a with| .res i [x]=>Nat.beq i j&&Nat.ble x m|_=>false)else eqB a b
 |b=>eqB a b
variable{m:Nat}
theorem TX{a b:AB}(h:di m a b=true):a=b\/∃i x,(i=2\/i=3)/\b=.res i [0]/\a=.res i [x]/\x<=m:=by
 unfold di at h;split at h
 ·rename_i j;cases hb:gV j with
  |false=>rw[hb]at h;exact .inl (Xn h)
  |true=>
   rw[hb]at h;simp only[AN]at h;split at h
   ·rename_i i x;simp only[AI]at h;obtain rfl:=AK h.1;exact .inr ⟨_,_,OI.1 hb,rfl,rfl,AL h.2⟩
   ·cases h
 ·exact .inl (Xn h)
def PZ(m:Nat):Nat->List AB->C7 AB->Bool
 |_,[],_=>true
 |k,a::r,t=>(match t.get k with|some b=>di m b a|none=>false)&&PZ m (Nat.succ k) r t
theorem Ly{m:Nat}:∀{B:List AB} {k:Nat} {t:C7 AB},PZ m k B t=true->∀j (hj:j<B.length),∃b,t.get (k+j)=some b/\di m b B[j]=true
 |[],_,_,_,j,hj=>by simp at hj
 |a::r,k,t,h,j,hj=>by
  simp only[PZ,AI]at h;cases j with
  |zero=>
   have h1:=h.1;split at h1
   ·rename_i b hb;exact⟨b,hb,h1⟩
   ·cases h1
  |succ j=>obtain⟨b,h2,h3⟩:=Ly h.2 j (by simpa using hj);exact⟨b,by rw[show k+(j+1)=Nat.succ k+j by omega];exact h2,by simpa using h3⟩
def Gm(t:C7 AB):Nat:=match t.get 2 with
 |some (.res _ [x])=>match t.get 3 with
  |some (.res _ [y])=>bif Nat.ble x y then y else x
  |_=>0
 |_=>0
def Xq(s:St)(m:Nat):St:={s with hp:=(s.hp.put 24 2 (some (.res 2 [m]))).put 24 3 (some (.res 3 [m]))}
def IY:AB->Bool
 | .res i _=> !gV i
 |_=>true
def TY:Nat->List AB->Bool
 |_,[]=>true
 |k,a::r=>(Nat.beq k 2||Nat.beq k 3||IY a)&&TY (Nat.succ k) r
theorem OJ:∀{B:List AB} {k:Nat},TY k B=true->∀j (hj:j<B.length),k+j≠2->k+j≠3->IY B[j]=true
 |[],_,_,j,hj,_,_=>by simp at hj
 |a::r,k,h,j,hj,h2,h3=>by
  simp only[TY,AI,BI]at h;cases j with
  |zero=>
   rcases h.1 with(h|h)|h
   ·exact absurd (AK h) h2
   ·exact absurd (AK h) h3
   ·exact h
  |succ j=>simpa using OJ h.2 j (by simpa using hj) I I
def O9(B:List AB):Bool:=(match E1 B 2 with|some (.res 2 [0])=>true|_=>false)&&(match E1 B 3 with|some (.res 3 [0])=>true|_=>false)
abbrev HM:Nat:=2147483648
def aJ(B:List AB)(M:List Nat)(DK:List AV)(IB:RN)(δ R:Nat):List AV->St->Option (List R1):=fun args s=>bif G0 args DK&&Nat.ble B.length s.nx&&PZ (Gm s.hp) 0 B s.hp&&Nat.ble (Nat.add (Gm s.hp) δ) R then some (UY M (Xq s (Nat.add (Gm s.hp) δ)) IB)else none
def okG(B:List AB)(M:List Nat)(δ:Nat)(s:St):Bool:=PZ δ 0 B s.hp&&s.md.all (fun k=>Nat.ble B.length k||Gu k M)
def vN(B:List AB)(M:List Nat)(IB:RN)(δ:Nat):R1->Bool
 | .val a s=>IB.any (fun x=> !x.1&&gB a x.2)&&okG B M δ s
 | .Eu a s=>IB.any (fun x=>x.1&&gB a x.2)&&okG B M δ s
def aAu(E:GI)(ih:Ih)(f:Nat)(B:List AB)(M:List Nat)(IB:RN)(δ:Nat)(args:List AV):Bool:=match B7 E ih f args (EC B)with
 |some rs=>rs.all (vN B M IB δ)
 |none=>false
def PD(E:GI)(ih:Ih)(f:Nat)(B:List AB)(M:List Nat)(DK:List AV)(IB:RN)(δ:Nat)(is:List Nat):Bool:=O9 B&&TY 0 B&&Gu 2 M&&Gu 3 M&&B.all (y8 B.length)&&DK.all (Y7 B.length)&&IB.all (fun x=>nL B.length x.2)&&Nat.ble B.length 16777216&&(gG is DK).all (aAu E ih f B M IB δ)
theorem V5{R R':EA}{c:List CH}(h:Da R ρ k ab c)(hr:∀i d,ab=.res i d->∀b,R i d b c->R' i d b c):Da R' ρ k ab c:=by
 cases h with
 |cells h1 h2=>exact .cells h1 h2
 |grown h1 h2 h3=>exact .grown h1 h2 h3
 |map h1 h2 h3=>exact .map h1 h2 h3
 |Hl h1 h2=>exact .Hl h1 h2
 |unk h1 h2=>exact .unk h1 h2
 |res h1 h2=>exact .res h1 (hr _ _ J _ h2)
theorem K1{a b:AB}(h:di m a b=true)(hb:IY b=true):a=b:=by
 rcases TX h with rfl|⟨i,x,hi,rfl,rfl,hx⟩
 ·rfl
 ·simp only[IY,Bo]at hb;rw[OI.2 hi]at hb;cases hb
theorem Ig{a:AB}(hi:i=2\/i=3)(h:di m a (.res i [0])=true):∃x,a=.res i [x]/\x<=m:=by
 rcases TX h with rfl|⟨j,x,hj,hb,rfl,hx⟩
 ·exact⟨0,rfl,Cj _⟩
 ·cases hb;exact⟨x,rfl,hx⟩
section
variable{P:Program} {RS:Nat->EA} {E:Nat->GI} (hR:GX RS)
include hR
variable{K:Nat}
theorem GX.non{K':Nat}{c:List CH}(hn:IY ab=true)(h:Da (RS K) ρ k ab c):Da (RS K') ρ k ab c:=by
 refine V5 h fun i d e b hb=> ?_
 subst e;simp only[IY,Bo]at hn;refine hR.same i (fun e=> ?_) (fun e=> ?_) _ _ _ _ _ hb
 ·rw[OI.2 (.inl e)]at hn;cases hn
 ·rw[OI.2 (.inr e)]at hn;cases hn
variable{AC x:Nat}
theorem GX.into(hi:i=2\/i=3){c:List CH}(hx:x<=AC)(h:Da (RS K) ρ k (.res i [x]) c):Da (RS (K+AC)) ρ k (.res i [0]) c:=by cases h with|res h1 h2=>exact .res h1 ((hR.shift i hi K AC 0 _ c).1 (hR.mono i hi K x (AC+0) _ c I h2))
variable{δ:Nat}
theorem GX.V6(hi:i=2\/i=3){c:List CH}(hx:x<=δ)(h:Da (RS (K+AC)) ρ k (.res i [x]) c):Da (RS K) ρ k (.res i [AC+δ]) c:=by cases h with|res h1 h2=>exact .res h1 ((hR.shift i hi K AC δ _ c).2 (hR.mono i hi (K+AC) x δ _ c hx h2))
variable{f:Nat}{B:List AB}{M:List Nat}{DK:List AV}{IB:RN}
theorem ZD(hE:∀K R,K+R<=HM->En P (RS K) (E R)){ih:Nat->Ih}(hih:∀K R,K+R<=HM->GK P (RS K) (ih R))(is:List Nat)(h:PD (E δ) (ih δ) f B M DK IB δ is=true)(K R:Nat)(I7:K+R<=HM):ET P (RS K) f (aJ B M DK IB δ R):=by
 intro args s rs hc p hst hp vs hvs;subst hst;unfold aJ at hc;cases hcond:G0 args DK&&Nat.ble B.length p.st.nx&&PZ (Gm p.st.hp) 0 B p.st.hp&&Nat.ble (Nat.add (Gm p.st.hp) δ) R<;>rw[hcond]at hc<;>simp only[AN,AO,reduceCtorEq,AH]at hc;subst hc;simp only[AI]at hcond;obtain⟨⟨⟨hle,hnx⟩,hsame⟩,hJR⟩:=hcond;have hJR:Gm p.st.hp+δ<=R:=AL hJR;have hnx:=AL hnx;generalize hJ:Gm p.st.hp=AC at hsame hJR⊢;have hKJ:K+AC+δ<=HM:=I;unfold PD at h;simp only[AI]at h;obtain⟨⟨⟨⟨⟨⟨⟨⟨hbase,V7⟩,hm2⟩,hm3⟩,hB⟩,ha0⟩,RP⟩,J5⟩,hrun⟩:=h;have hm2:=FZ.1 hm2;have hm3:=FZ.1 hm3;have J5:=AL J5;rw[AY]at hrun hB RP;have vO:∃(h2:2<B.length) (h3:3<B.length),B[2]=.res 2 [0]/\B[3]=.res 3 [0]:=by
  unfold O9 at hbase;simp only[AI]at hbase;obtain⟨a1,a2⟩:=hbase;split at a1
  ·rename_i e1;split at a2
   ·rename_i e2;rw[D5]at e1 e2;obtain⟨l1,e1⟩:=Ae.1 e1;obtain⟨l2,e2⟩:=Ae.1 e2;exact⟨l1,l2,e1,e2⟩
   ·cases a2
  ·cases a1
 obtain⟨hl2,hl3,hB2,hB3⟩:=vO;have Sl:∀k (hk:k<B.length),k≠2->k≠3->IY B[k]=true:=fun k hk n2 n3=>OJ V7 k hk I I
 have hget:∀k (hk:k<B.length),∃a,p.st.hp.get k=some a/\di AC a B[k]=true:=fun k hk=>by obtain⟨a,h1,h2⟩:=Ly hsame k hk;exact⟨a,by simpa using h1,h2⟩
 let N:=B.length
 have I5:SZ N p.ρ (p.ρ.take N):=fun n hn=>by rw[Bf];simp[hn]
 have hin:∀k (hk:k<B.length),k∈p.live/\Da (RS (K+AC)) p.ρ k B[k] (p.C k):=fun k hk=>by
  obtain⟨a,h1,h2⟩:=hget k hk;obtain⟨h3,h4⟩:=hp.mem h1;refine⟨h3,?_⟩;by_cases n2:k=2
  ·subst n2;rw[hB2]at h2⊢;obtain⟨x,rfl,hx⟩:=Ig (.inl J) h2;exact hR.into (.inl J) hx h4
  ·by_cases n3:k=3
   ·subst n3;rw[hB3]at h2⊢;obtain⟨x,rfl,hx⟩:=Ig (.inr J) h2;exact hR.into (.inr J) hx h4
   ·obtain rfl:=K1 h2 (Sl k hk n2 n3);exact hR.non (Sl k hk n2 n3) h4
 let p0:Pt:=⟨p.ρ.take N,EC B,[],(List.range N).map p.C,List.range N,p.C⟩
 have hlen0:(p.ρ.take N).length=N:=by rw[BP,hp.H.len];omega
 have hp0:p0.good (RS (K+AC)):=by
  refine⟨fun s a hs=>by simp[p0,EC,C7.FC]at hs,⟨hlen0,Bc,fun k hk=>Ak.1 hk,.refl _,fun k ab hk=> ?_⟩,J5⟩;have hk':(Gf 0 B .e).get k=some ab:=hk;rw[HL I]at hk';by_cases hkN:k<0+B.length
  ·have Uc:k<N:=by simpa using hkN
   simp only[Nat.not_lt_zero,Cc,hkN,C9,Df]at hk';obtain⟨h1,h3⟩:=hin k Uc;rw[AZ Uc]at hk';simp only[AH]at hk';subst hk';exact⟨Ak.2 Uc,Hm I5 Uc (hB _ (B1 Uc)) h3⟩
  ·simp[C7.FC]at hk';exact absurd hk'.1 (by simpa using hkN)
 obtain⟨l,hl1,aCN⟩:=Ua (is:=is) (Ky I5 ha0 (GR hvs hle));have hrl:=hrun l hl1;unfold aAu at hrl;split at hrl
 ·rename_i rs0 hcall;rw[AY]at hrl;have hfn:=(FD (hE _ _ hKJ) (hih _ _ hKJ) hp0 hcall).2 vs aCN;let rest:=p.live.filter (fun k=> !decide (k<N))
  have hperm:p.live.Perm (List.range N++rest):=by
   have e1:p.live.Perm (p.live.filter (fun k=>decide (k<N))++rest):=(CO _ _).symm;refine e1.trans (Bm _ ?_);refine(B8 (hp.H.nd.filter _) Bc).2 fun k=> ?_
   simp only[Bh,Ak,decide_eq_true_eq];exact⟨fun hk=>hk.2,fun hk=>⟨(hin k hk).1,hk⟩⟩
  have hS:p.S.Perm ((List.range N).map p.C++rest.map p.C):=by
   refine hp.H.perm.trans ?_;have:=hperm.map p.C
   rwa [Ai]at this
  have key:∀(s0:St) (q0:Pt),q0.st=s0->p0.to q0->q0.good (RS (K+AC))->okG B M δ s0=true->∃q:Pt,q.st={Xq p.st (Nat.add AC δ)with md:=M++p.st.md}/\q.fr=p.fr/\p.to q/\q.good (RS K)/\SZ N q0.ρ q.ρ/\∀A w (U:A2),Ds A w (q0.S++(rest.map p.C++U))->Ds A w (q.S++U):=by
   intro s0 q0 hq0 hto hgood hok;unfold okG at hok;simp only[AI]at hok;obtain⟨hok1,hok2⟩:=hok;rw[AY]at hok2;have KF:SZ N q0.ρ p.ρ:=fun n hn=>by obtain⟨σ,e⟩:=hto.ext;rw[e];show(p.ρ.take N++σ)[n]? =_;rw[BG (by rw[hlen0];exact hn),Bf];simp[hn]
   have hin0:∀k (hk:k<B.length),k∈q0.live/\∃a,di δ a B[k]=true/\Da (RS (K+AC)) q0.ρ k a (q0.C k):=fun k hk=>by obtain⟨a,h2,h5⟩:=Ly hok1 k hk;obtain⟨h3,h4⟩:=hgood.mem (k:=k) (ab:=a) (by rw[hq0];simpa using h2);exact⟨h3,a,h5,h4⟩
   let C':Nat->List CH:=fun k=>if k<N then q0.C k else p.C k
   have gI:(List.range N).map C'=(List.range N).map q0.C:=BB fun k hk=>by simp[C',Ak.1 hk]
   have gJ:rest.map C'=rest.map p.C:=BB fun k hk=>by have:=(Bh.1 hk).2;simp only[Bo,decide_eq_false_iff_not]at this;simp[C',this]
   refine⟨⟨p.ρ,{Xq p.st (Nat.add AC δ)with md:=M++p.st.md},p.fr,(List.range N).map q0.C++rest.map p.C,p.live,C'⟩,rfl,rfl,?_,?_,KF,?_⟩
   ·refine⟨⟨[],by simp⟩,fun k hk hn=>⟨hk,?_⟩,fun k hk _=>hk,Ao _,fun k hk=>BK _ hk⟩;by_cases hkN:k<N
    ·simp only[C',hkN,C9];have hnm:k∉q0.st.md:=fun hm=>by
      rw[hq0]at hm;have:=hok2 k hm;simp only[BI]at this;rcases this with h|h
      ·have:=AL h;omega
      ·exact hn (A3 _ (FZ.1 h))
     exact(hto.kept k (Ak.2 hkN) hnm).2
    ·simp[C',hkN]
   ·refine⟨hp.F,⟨hp.H.len,hp.H.nd,hp.H.lt,?_,?_⟩,hp.lt⟩
    ·have:=hperm.map C';rw[Ai,gI,gJ]at this;exact this.symm
    ·intro k ab hk;have hk:((p.st.hp.put 24 2 (some (.res 2 [AC+δ]))).put 24 3 (some (.res 3 [AC+δ]))).get k=some ab:=hk;rw[C7.get_put 24 _ 3 k _ Ba,C7.get_put 24 _ 2 k _ Ba]at hk;by_cases n3:k=3
     ·subst n3;rw[BE J]at hk;cases hk;obtain⟨h1,a,h5,h6⟩:=hin0 3 hl3;rw[hB3]at h5;obtain⟨x,rfl,hx⟩:=Ig (.inr J) h5;refine⟨(hin 3 hl3).1,?_⟩;have hlt:3<N:=hl3;simp only[C',hlt,C9];exact hR.V6 (.inr J) hx (Hm KF hlt J h6)
     ·by_cases n2:k=2
      ·subst n2;rw[Ah Ba,BE J]at hk;cases hk;obtain⟨h1,a,h5,h6⟩:=hin0 2 hl2;rw[hB2]at h5;obtain⟨x,rfl,hx⟩:=Ig (.inl J) h5;refine⟨(hin 2 hl2).1,?_⟩;have hlt:2<N:=hl2;simp only[C',hlt,C9];exact hR.V6 (.inl J) hx (Hm KF hlt J h6)
      ·rw[Ah n3,Ah n2]at hk;obtain⟨h1,h2⟩:=hp.mem hk;refine⟨h1,?_⟩;by_cases hkN:k<N
       ·obtain⟨a1,h3,h4⟩:=hget k hkN;rw[h3]at hk;cases hk;have hnb:=Sl k hkN n2 n3;have e1:=K1 h4 hnb;obtain⟨_,a2,h5,h6⟩:=hin0 k hkN;have e2:=K1 h5 hnb;subst e1;rw[e2]at h6;simp only[C',hkN,C9];exact hR.non hnb (Hm KF hkN (hB _ (B1 hkN)) h6)
       ·simp only[C',hkN,Cc];exact h2
   ·intro A w U hs;let JV:=q0.live.filter (fun k=> !decide (k<N))
    have RQ:q0.live.Perm (List.range N++JV):=by
     have e1:q0.live.Perm (q0.live.filter (fun k=>decide (k<N))++JV):=(CO _ _).symm;refine e1.trans (Bm _ ?_);refine(B8 (hgood.H.nd.filter _) Bc).2 fun k=> ?_
     simp only[Bh,Ak,decide_eq_true_eq];exact⟨fun hk=>hk.2,fun hk=>⟨(hin0 k hk).1,hk⟩⟩
    have hS0:q0.S.Perm (JV.map q0.C++(List.range N).map q0.C):=by refine hgood.H.perm.trans ?_;have:=RQ.map q0.C;rw[Ai]at this;exact this.trans CC
    have h1:=hs.perm (hS0.append_right _);rw[AU]at h1;have h2:=h1.drops;rw[AU];exact h2
  intro A U w hs;have hs':Ds A w (p0.S++(rest.map p.C++U)):=by
   have:=hs.perm (hS.append_right U)
   rwa [AU]at this
  refine(hfn A _ w hs').mono ?_;rintro e w' ⟨hw,S',hs1,hret⟩;refine⟨hw,?_⟩;rcases hret with⟨a,s0,hm,q0,v,e1,e2,e3,hto,hgood,hcon,rfl⟩|⟨a,s0,hm,q0,v,e1,e2,e3,hto,hgood,hcon,rfl⟩
  ·have hr:=hrl _ hm;simp only[vN,AI]at hr;obtain⟨hr1,hr2⟩:=hr;obtain⟨q,h1,h2,h3,h4,h5,h6⟩:=key s0 q0 e1 hto hgood hr2;rw[Dq]at hr1;obtain⟨⟨b,c⟩,hx,hx2⟩:=hr1;simp only[AI,Bo]at hx2;obtain⟨rfl,hx2⟩:=hx2;subst e3;exact⟨q.S,h6 A w' U hs1,.inl ⟨c,_,Ls (b:=false) hx,q,v,h1,h2,rfl,h3,h4,JU h5 (RP _ hx) (Kz hcon hx2),rfl⟩⟩
  ·have hr:=hrl _ hm;simp only[vN,AI]at hr;obtain⟨hr1,hr2⟩:=hr;obtain⟨q,h1,h2,h3,h4,h5,h6⟩:=key s0 q0 e1 hto hgood hr2;rw[Dq]at hr1;obtain⟨⟨b,c⟩,hx,hx2⟩:=hr1;simp only[AI]at hx2;obtain⟨rfl,hx2⟩:=hx2;subst e3;exact⟨q.S,h6 A w' U hs1,.inr ⟨c,_,Ls (b:=true) hx,q,v,h1,h2,rfl,h3,h4,JU h5 (RP _ hx) (Kz hcon hx2),rfl⟩⟩
 ·cases hrl
end
end
end Go.Proofs.YtfekkjbdcdnhlaaGreatDoor.Sep
