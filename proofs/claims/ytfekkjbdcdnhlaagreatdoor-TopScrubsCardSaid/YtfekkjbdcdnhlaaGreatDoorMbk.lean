/- Lemmas for TopScrubs. No condition but those that each states. -/
import Derived.Test.YtfekkjbdcdnhlaaGreatDoorMbj
set_option linter.all false
set_option maxHeartbeats 8000000
set_option maxRecDepth 100000
namespace Go.Proofs.YtfekkjbdcdnhlaaGreatDoor.Sep
noncomputable section
theorem aEr:dK (DY lB) (YY lB) yp4=true:=kR
theorem aEs:dK (DY lB) (YY lB) yp5=true:=kR
theorem aEv:dK (DY lB) (YY lB) yp8=true:=kR
theorem aEw:dK (DY lB) (YY lB) yp9=true:=kR
theorem aB8:dK (DY lB) (YY lB) aBV=true:=kR
noncomputable def hkF(E:GI)(ih:Ih):Hk:=fun f n c s=>match c with
 | .region _ An false=>match An.toList with
  |[⟨some 18,.move (.tmp 0),_,_,_,none⟩,⟨some 19,.move (.tmp 1),_,_,_,none⟩,⟨some 20,.move (.tmp 5),_,_,_,none⟩,⟨some 21,.call ⟨.value (.func 202),xs,_⟩,_,_,_,none⟩,⟨some 22,.field 269 (.tmp 21) 0,_,_,_,none⟩,⟨some 23,.binOp .neq 234 (.tmp 22) (.const (.int .i64 0)) _,_,_,_,none⟩]=>
   match xs.toList with
   |[.tmp 18,.tmp 19,.tmp 20]=>match s.fr.get 0,s.fr.get 1,s.fr.get 5 with
    |some a0,some a1,some a5=>bif Nat.blt 23 n then(match B7 E ih 202 [a0,a1,a5] (((s.put (some 18) a0).put (some 19) a1).put (some 20) a5)with
     |some rs=>Lp rs fun r=>match r with
      | .val (.agg [.int .i64 lo hi,y]) s2=>some [(.nor,((s2.put (some 21) (.agg [.int .i64 lo hi,y])).put (some 22) (.int .i64 lo hi)).put (some 23) (.boo (bif FN lo hi then some (!(FN lo 0))else none)))]
      |_=>none
     |none=>none)else none
    |_,_,_=>none
   |_=>none
  |_=>none
 |_=>none
variable{a:Act}{w:World}
theorem dU{v y:Value}(h:a.eval (.tmp 21)=.agg #[v,y]){ty:Nat}{pos:String}{af:Array Edge}{gd:Option (Nat×Bool)}:(execOp a.eval ⟨some 22,.field 269 (.tmp 21) 0,ty,pos,af,gd⟩).run Tryz.prog w=.ok (.value v) w:=by simp[execOp,h,Instr.field,Ac Tryz.underlying269,asAgg,part,isAgg,Ac Tryz.underlying234]
variable{RS:EA}{E:GI}{ih:Ih}
theorem yW(hE:En Tryz.prog RS E)(hih:GK Tryz.prog RS ih):GK Tryz.prog RS (hkF E ih):=by
 intro f n c st outs h;unfold hkF at h;split at h
 ·rename_i id An;split at h
  ·rename_i ty0 po0 af0 ty1 po1 af1 ty2 po2 af2 xs ts ty3 po3 af3 ty4 po4 af4 ty6 ty5 po5 af5 hops;split at h
   ·rename_i has;split at h
    ·rename_i a0 a1 a5 h0 h1 h5;cases hn:Nat.blt 23 n<;>rw[hn]at h<;>simp only[AN,AO,reduceCtorEq]at h;split at h
     ·rename_i rs hcall;obtain⟨xs⟩:=xs;have has:xs=[.tmp 18,.tmp 19,.tmp 20]:=has;subst has;obtain⟨An⟩:=An;have hops:=hops;simp only at hops;subst hops;have n18:Nat.blt 18 n=true:=by have:=(show 23<n by simpa using hn);simp;omega
      have n19:Nat.blt 19 n=true:=by have:=(show 23<n by simpa using hn);simp;omega
      have n20:Nat.blt 20 n=true:=by have:=(show 23<n by simpa using hn);simp;omega
      have n21:Nat.blt 21 n=true:=by have:=(show 23<n by simpa using hn);simp;omega
      have n22:Nat.blt 22 n=true:=by have:=(show 23<n by simpa using hn);simp;omega
      intro p hst hp Q hQ;subst hst;obtain⟨v0,l0,c0⟩:=hp.F 0 a0 h0;obtain⟨v1,l1,c1⟩:=hp.F 1 a1 h1;obtain⟨v5,l5,c5⟩:=hp.F 5 a5 h5;refine CW.reg J ?_;refine DL.p tt J J n18 (v:=v0) l0 ?_;refine DL.p tt J J n19 (v:=v1) l1 ?_;refine DL.p tt J J n20 (v:=v5) l5 ?_;let p1:Pt:={p with st:=p.st.put (some 18) a0,fr:=(18,v0)::p.fr}
      let p2:Pt:={p1 with st:=p1.st.put (some 19) a1,fr:=(19,v1)::p1.fr}
      let p3:Pt:={p2 with st:=p2.st.put (some 20) a5,fr:=(20,v5)::p2.fr}
      have g3:p3.good RS:=((hp.put (d:=18) Ba c0).put (d:=19) Ba c1).put (d:=20) Ba c5;have t3:p.to p3:=(((Pt.to.refl p).Dc (some 18) a0 v0).Dc (some 19) a1 v1).Dc (some 20) a5 v5;obtain⟨hok,hfn⟩:=FD hE hih g3 hcall;refine DL.call J n21 (vals:=[v0,v1,v5]) J (J9 p.S) (hfn [v0,v1,v5] (.cons c0 (.cons c1 (.cons c5 .nil)))) hok ?_ ?_
      ·rintro ch S1 (⟨a,s,hm,q,v,_,_,_,_,_,_,he⟩|⟨a,s,hm,_⟩)
       ·cases he
       ·obtain⟨m,e1,_⟩:=F4 h _ hm;cases e1
      ·rintro v S1 (⟨a,s,hm,q,v',hq1,hq2,rfl,hto,hgood,hcon,he⟩|⟨a,s,hm,q,v',hq1,hq2,hq3,hto,hgood,hcon,he⟩)
       ·cases he;refine⟨D9,?_⟩;obtain⟨m,e1,e2⟩:=F4 h _ hm;split at e1
        ·rename_i lo hi y s2 heq;cases heq;cases e1;subst hq1;cases hcon with| @agg _ vs hcl=>
         cases hcl with|cons k1 hcl=>cases hcl with| @cons _ vy _ _ k2 hcl=>
         cases hcl;cases k1 with| @int _ _ _ z z1 z2=>
         rw[Am];have hx:EM q.ρ (.int .i64 lo hi) (.int .i64 z):=.int z1 z2;have hA:EM q.ρ (.agg [.int .i64 lo hi,y]) (.agg #[.int .i64 z,vy]):=.agg (.cons hx (.cons k2 .nil));have hB:EM q.ρ (.boo (bif FN lo hi then some !FN lo 0 else none)) (.bool (decide (¬z=0))):=by
          cases he:FN lo hi with
          |false=>exact .Jh
          |true=>
           rw[EO]at he;subst he;obtain rfl:z=lo:=I;have e:FN z 0=decide (z=0):=by
            cases h:FN z 0 with
            |true=>rw[EO]at h;simp[h]
            |false=>simp;intro h2;subst h2;rw[show FN 0 0=true from EO.2 J]at h;cases h
           have e2:(!decide (z=0))=decide (¬z=0):=by by_cases h:z=0<;>simp[h]
           simp only[AN,e,e2];exact .boo
         refine DL.Ia (.inr J) J J (by have:=(show 23<n by simpa using hn);omega) (fun A R a w hk hs=>dU (hk.eval J)) ?_;refine DL.p tt J J hn (v:=.bool (decide (¬z=0))) J ?_;refine DL.done ?_;have hgq:=((hgood.put (d:=21) Ba hA).put (d:=22) Ba hx).put (d:=23) Ba hB;have:=hQ _ (e2 _ (AP.2 J)) _ J (((((t3.trans hto).Dc (some 21) _ _).Dc (some 22) _ _).Dc (some 23) _ _)) hgq;rw[hq2]at this;exact this
        ·cases e1
       ·cases he
     ·cases h
    ·cases h
   ·cases h
  ·cases h
 ·cases h
noncomputable def ihF(l:List (Nat×F5)):Ih:=L9 (DY l) (cK (hkF (DY l) (cM l)) (we (DY l) (E3 (DY l) 100000) (spW (DY l).ord))) 100000
theorem yX{l:List (Nat×F5)}(h:Ol Tryz.prog RS l):GK Tryz.prog RS (ihF l):=KI (DU h) (QS (yW (DU h) (Rq h)) (Ro (DU h) (FG (DU h) _))) _
noncomputable def yY:Code->Code
 | .seq a _=>a
 |c=>c
noncomputable def UA:Code->Code
 | .seq _ b=>b
 |c=>c
noncomputable def Nv:Code:=match Tryz.f75.body with
 |some c=>c
 |none=>.skip
noncomputable def VQ:Code:=UA (UA (UA (UA (UA Nv))))
noncomputable def r75:List Code:=[yY Nv,yY (UA Nv),yY (UA (UA Nv)),yY (UA (UA (UA Nv)))]
noncomputable def exL(ih:Ih)(n:Nat):List Code->St->Option Ej
 |[],s=>some [(.nor,s)]
 |c::r,s=>match ih 75 n c s with
  |some o=>Hj o (exL ih n r)
  |none=>none
noncomputable def mQ(s:St):Option St:=match s.fr.get 0,s.fr.get 4,s.fr.get 5,s.fr.get 6,s.fr.get 7 with
 |some (.Au mo 0),some v4,some v5,some (.Au r6 0),some (.Au q7 0)=>match s.hp.get mo with
  |some (.cells mc 89)=>match E1 mc 2 with
   |some (.Au t 0)=>match s.hp.get t with
    |some (.res 1 [])=>match s.hp.get r6 with
     |some (.cells l 219)=>match E1 l 0 with
      |some (.int .u64 _ _)=>match s.hp.get q7 with
       |some (.cells [.int .i64 a b] 3)=>bif FN a 0&&FN b 0 then some {(s.set q7 (.cells [CB] 3))with fr:=((((C7.e.put 24 0 (some (.Au mo 0))).put 24 4 (some v4)).put 24 5 (some v5)).put 24 6 (some (.Au r6 0))).put 24 7 (some (.Au q7 0))}else none
       |_=>none
      |_=>none
     |_=>none
    |_=>none
   |_=>none
  |_=>none
 |_,_,_,_,_=>none
noncomputable def aCf(T:Tr)(fr:C7 AV)(rs:List ResultVar)(o:Ex×St):Option (List R1):=match o.1 with
 | .nor| .ret=>match fX T o.2 rs with
  |some a=>some [.val a {o.2 with fr:=fr}]
  |none=>none
 | .Eu v=>some [.Eu v {o.2 with fr:=fr}]
 | .ex _=>none
noncomputable def c75(E:GI)(ih:Ih):List AV->St->Option (List R1):=fun args s=>bif Nat.ble args.length 1000 then(match exL ih 101 r75 {s with fr:=PX 0 args .e}with
 |some o=>Lp o fun x=>match x.1 with
  | .nor=>match mQ x.2 with
   |some s2=>match ih 75 101 VQ s2 with
    |some o2=>Lp o2 (aCf E.T s.fr [.cell 4 44])
    |none=>none
   |none=>none
  | .Eu v=>some [.Eu v {x.2 with fr:=s.fr}]
  |_=>none
 |none=>none)else none
theorem mR{RS:EA}{ih:Ih}(hih:GK Tryz.prog RS ih){n:Nat}{X:Code}{QW:Exit->Act->World->Prop}{A:Om}{R:A2}(hA:A.inv=fun a=>a.defers=[]){p0:Pt}:∀(l:List Code) (st:St) (outs:Ej),exL ih n l st=some outs->∀p:Pt,p.st=st->p0.to p->p.good RS->
 (∀o∈outs,∀q:Pt,q.st=o.2->p0.to q->q.good RS->match o.1 with
  | .nor=>∀a w,a.defers=[]->Ep n a q.fr->Ds A w (q.S++R)->X.wp Tryz.prog QW a w
  | .Eu v=>∀u,EM q.ρ v u->∀a w,a.defers=[]->Ds A w (q.S++R)->QW (.panic [{v:=u,recovered:=false}]) a w
  |_=>False)->
 ∀a w,a.defers=[]->Ep n a p.fr->Ds A w (p.S++R)->(l.foldr Code.seq X).wp Tryz.prog QW a w
 |[],st,outs,h,p,hst,hto,hp,hk,a,w,hd,hkn,hs=>by simp only[exL,AH]at h;subst h;exact hk (.nor,st) (AP.2 J) p hst hto hp a w hd hkn hs
 |c::r,st,outs,h,p,hst,hto,hp,hk,a,w,hd,hkn,hs=>by
  simp only[exL]at h;split at h
  ·rename_i o1 ho1;refine wp_seq (wp_mono ((hih 75 n c st o1 ho1) p hst hp ⟨fun e fr S=>∃o∈o1,∃q:Pt,q.st=o.2/\p.to q/\q.good RS/\q.fr=fr/\q.S=S/\(match o.1 with| .nor=>e=.normal| .ret=>e=.ret| .ex id=>e=.exit id| .Eu _=>False),fun ch S=>∃o∈o1,∃q:Pt,q.st=o.2/\p.to q/\q.good RS/\q.S=S/\∃v u,o.1=.Eu v/\EM q.ρ v u/\ch=[{v:=u,recovered:=false}]⟩ ?_ A R a w (OO hA hd) hkn hs) ?_)
   ·intro o ho q hq KE hgood;unfold Fin;split
    ·rename_i e;exact⟨o,ho,q,hq,KE,hgood,rfl,rfl,by rw[e]⟩
    ·rename_i e;exact⟨o,ho,q,hq,KE,hgood,rfl,rfl,by rw[e]⟩
    ·rename_i e;exact⟨o,ho,q,hq,KE,hgood,rfl,rfl,by rw[e]⟩
    ·rename_i v e;intro u hu;exact⟨o,ho,q,hq,KE,hgood,rfl,v,u,e,hu,rfl⟩
   ·rintro e a' w' ⟨hd',hh⟩;rw[hA]at hd';cases e with
    |panic ch=>obtain⟨S',hs',o,ho,q,hq,KE,hgood,rfl,v,u,he,hu,rfl⟩:=hh;obtain⟨m,e1,e2⟩:=F4 h o ho;rw[he]at e1;simp only[AH]at e1;subst e1;have:=hk (.Eu v,o.2) (e2 _ (AP.2 J)) q hq (hto.trans KE) hgood;exact this u hu a' w' hd' hs'
    |normal=>
     obtain⟨fr',S',hk',hs',o,ho,q,hq,KE,hgood,rfl,rfl,he⟩:=hh;obtain⟨m,e1,e2⟩:=F4 h o ho;split at he
     ·rename_i eo;rw[eo]at e1;exact mR hih hA r o.2 m e1 q hq (hto.trans KE) hgood (fun o' ho'=>hk o' (e2 o' ho')) a' w' hd' hk' hs'
     ·cases he
     ·cases he
     ·exact he.elim
    |ret=>
     obtain⟨fr',S',hk',hs',o,ho,q,hq,KE,hgood,rfl,rfl,he⟩:=hh;obtain⟨m,e1,e2⟩:=F4 h o ho;split at he
     ·cases he
     ·rename_i eo;rw[eo]at e1;simp only[AH]at e1;subst e1;exact(hk (.ret,o.2) (e2 _ (AP.2 J)) q hq (hto.trans KE) hgood).elim
     ·cases he
     ·exact he.elim
    |exit id=>
     obtain⟨fr',S',hk',hs',o,ho,q,hq,KE,hgood,rfl,rfl,he⟩:=hh;obtain⟨m,e1,e2⟩:=F4 h o ho;split at he
     ·cases he
     ·cases he
     ·rename_i eo;rw[eo]at e1;simp only[AH]at e1;subst e1;exact(hk (.ex _,o.2) (e2 _ (AP.2 J)) q hq (hto.trans KE) hgood).elim
     ·exact he.elim
    |goto l=>
     obtain⟨fr',S',hk',hs',o,ho,q,hq,KE,hgood,rfl,rfl,he⟩:=hh;split at he
     ·cases he
     ·cases he
     ·cases he
     ·exact he.elim
    |outgrown=>
     obtain⟨fr',S',hk',hs',o,ho,q,hq,KE,hgood,rfl,rfl,he⟩:=hh;split at he
     ·cases he
     ·cases he
     ·cases he
     ·exact he.elim
  ·cases h
noncomputable def tJ:Code:=yY (yY (UA (UA (UA (UA Nv)))))
noncomputable def Zs:Code:=UA (yY (UA (UA (UA (UA Nv)))))
def Q4(bm b6 bq bt rb n:Nat)(o:Int)(v4 v5:Value)(qj qo:List Value)(R:List Rw):EX:=⟨fun e fr S=>e=.normal/\∃q5 q3 t2 b k ex,Eo [(0,Au bm),(4,v4),(5,v5),(6,Au b6),(7,Au bq),(24,.func (.func 199) #[] #[Au q5,Au q3])] fr/\∃U,DV S [A7 bm qj 89,Ei bt rb n,Em rb R,A7 b6 qo 219,A7 q5 [Au t2] 74,A7 q3 [.int .u64 o] 43,A7 t2 [.slice (some ⟨b,0,none⟩) n (n+k)] 127,A7 b (Ez R++ex) 93] U,fun _ _=>False⟩
variable{n:Nat}
theorem aEC{bm b6 bq bt rb:Nat}{o:Int}{v4 v5:Value}{qj qo:List Value}{R:List Rw}(hn:1<=n/\n<=4096)(hR:R.length=n)(hm:E1 qj 2=some (Au bt))(hl:E1 qo 0=some (.int .u64 o)):
 CW Tryz.prog 101 tJ (Q4 bm b6 bq bt rb n o v4 v5 qj qo R) [(0,Au bm),(4,v4),(5,v5),(6,Au b6),(7,Au bq)] [A7 bm qj 89,Ei bt rb n,Em rb R,A7 b6 qo 219]:=by
 refine CW.db (id:=4) [0,1,2,3,4,5,6] [7] [A7 bm qj 89,A7 b6 qo 219] [] mixed hz kR pK nD nD ?_;refine W ?_;refine DL.G8 tt J J J J J iN (by simpa using hm) ?_;refine W ?_;refine DL.G8 tt J J J J J iN (by simpa using hl) ?_;refine W ?_;refine Fe (Du pK) ?_;refine DL.call J J J pK (aCc (o:=o) hn hR) kR (fun ch S1 hc=>by obtain⟨_,_,_,_,_,_,hc,_⟩:=hc;cases hc) ?_;rintro v S1 ⟨q5,q3,t2,b',k,ex,hv,rfl⟩;cases hv;refine⟨kO,?_⟩;simp only[AQ,AS,Dc];refine DL.done ⟨rfl,q5,q3,t2,b',k,ex,.cons J (.cons J (.cons J (.cons J (.cons J (.cons J (.nil _)))))),_,pK⟩
def QF(RS:EA)(p:Pt)(rs:List R1):EX:=⟨fun e fr S=>(e=.normal\/e=.ret)/\∃v,Oq fr S Tryz.prog 101 [.cell 4 44] v/\Ij RS p rs (.returned v) S,fun ch S=>Ij RS p rs (.panicked ch) S⟩
def mS(RS:EA)(p:Pt)(rs:List R1)(A:Om)(U:A2)(e:Ending)(w:World):Prop:=Ending.within e/\∃S',Ds A w (S'++U)/\Ij RS p rs e S'
variable{A:Om}{U:A2}{D:Nat}
theorem mT{S:A2}(h:Ds A w (S++([(D,.deferred (some []))]::U))):∃w',(Instr.takeDeferred D).run Tryz.prog w=.ok [] w'/\Ds A w' (S++U):=by have hp:Ds A w ([(D,.deferred (some []))]::(S++U)):=h.perm CY;have hD:w.heap[D]? =some (.deferred (some [])):=hp.has (D,_) DI;refine⟨_,run_takeDeferred hD,?_⟩;refine Ds.drop (Ds.put (o':=.deferred none) hp J J J DI (World.putObj_heap_same (A1.1 hD).1) (fun k _ hk=>World.putObj_heap_other hk))
theorem qp{p:Pt}{rs:List R1}{e:Exit}(h:HY 101 {A with inv:=fun a=>a.defers=[{target:=.collected D,args:= #[]}]} ([(D,.deferred (some []))]::U) (QF RS p rs) e a w):bodyPostM Fence.wide 5 Tryz.prog Tryz.f75 (mS RS p rs A U) e a w:=by
 obtain⟨hd,hh⟩:=h;have hd:a.defers=[{target:=.collected D,args:= #[]}]:=hd;have ret:∀fr S v,Ep 101 a fr->Ds A w (S++([(D,.deferred (some []))]::U))->Oq fr S Tryz.prog 101 [.cell 4 44] v->Ij RS p rs (.returned v) S->LeavesInM Fence.wide 5 Tryz.prog Tryz.f75 a.tmps (mS RS p rs A U) a.defers .returning w:=fun fr S v hk hs hr hq=>by obtain⟨w',h1,h2⟩:=mT hs;rw[hd];exact⟨by simp,.inl ⟨D,w',rfl,h1,v,hr A U a w' Tryz.f75 J hk h2,trivial,S,h2,hq⟩⟩
 cases e with
 |panic ch=>obtain⟨S,hs,hq⟩:=hh;obtain⟨w',h1,h2⟩:=mT hs.On;show LeavesInM Fence.wide 5 Tryz.prog Tryz.f75 a.tmps (mS RS p rs A U) a.defers (.panicking ch) w;rw[hd];exact⟨by simp,.inl ⟨D,w',rfl,h1,trivial,S,h2,hq⟩⟩
 |normal=>obtain⟨fr,S,hk,hs,_,v,hr,hq⟩:=hh;exact ret fr S v hk hs.On hr hq
 |ret=>obtain⟨fr,S,hk,hs,_,v,hr,hq⟩:=hh;exact ret fr S v hk hs.On hr hq
 |exit id=>obtain⟨_,_,_,_,hq,_⟩:=hh;rcases hq with hq|hq<;>cases hq
 |goto l=>obtain⟨_,_,_,_,hq,_⟩:=hh;rcases hq with hq|hq<;>cases hq
 |outgrown=>obtain⟨_,_,_,_,hq,_⟩:=hh;rcases hq with hq|hq<;>cases hq
theorem mU{s s2:St}(h:mQ s=some s2):∃mo v4 v5 r6 q7 mc t l lo hi,s.fr.get 0=some (.Au mo 0)/\s.fr.get 4=some v4/\s.fr.get 5=some v5/\s.fr.get 6=some (.Au r6 0)/\s.fr.get 7=some (.Au q7 0)/\s.hp.get mo=some (.cells mc 89)/\E1 mc 2=some (.Au t 0)/\s.hp.get t=some (.res 1 [])/\s.hp.get r6=some (.cells l 219)/\E1 l 0=some (.int .u64 lo hi)/\s.hp.get q7=some (.cells [.int .i64 0 0] 3)/\
 s2={(s.set q7 (.cells [CB] 3))with fr:=((((C7.e.put 24 0 (some (.Au mo 0))).put 24 4 (some v4)).put 24 5 (some v5)).put 24 6 (some (.Au r6 0))).put 24 7 (some (.Au q7 0))}:=by
 unfold mQ at h;split at h
 ·rename_i mo v4 v5 r6 q7 e0 e4 e5 e6 e7;split at h
  ·rename_i mc f1;split at h
   ·rename_i t f2;split at h
    ·rename_i f3;split at h
     ·rename_i l f4;split at h
      ·rename_i lo hi f5;split at h
       ·rename_i a b f6;cases hb:FN a 0&&FN b 0<;>rw[hb]at h<;>simp only[AN,AO,reduceCtorEq,AH]at h;subst h;simp only[AI,EO]at hb;obtain⟨rfl,rfl⟩:=hb;exact⟨mo,v4,v5,r6,q7,mc,t,l,lo,hi,e0,e4,e5,e6,e7,f1,f2,f3,f4,f5,f6,rfl⟩
       ·cases h
      ·cases h
     ·cases h
    ·cases h
   ·cases h
  ·cases h
 ·cases h
abbrev bk(p q:Pt):Pt:=⟨q.ρ,{q.st with fr:=p.st.fr},p.fr,q.S,q.live,q.C⟩
theorem Yd{p q:Pt}(hp:p.good RS)(hto:p.to q)(hgood:q.good RS):p.to ⟨q.ρ,{q.st with fr:=p.st.fr},p.fr,q.S,q.live,q.C⟩/\Pt.good RS ⟨q.ρ,{q.st with fr:=p.st.fr},p.fr,q.S,q.live,q.C⟩:=by
 have h:p.to ⟨q.ρ,{q.st with fr:=p.st.fr},p.fr,q.S,q.live,q.C⟩:=⟨hto.ext,hto.kept,hto.old,hto.nx,hto.md⟩
 exact⟨h,h.aAh hp.F,hgood.H,hgood.lt⟩
theorem dV:Tryz.f75.body=some (r75.foldr Code.seq (Code.seq (Code.seq tJ Zs) VQ)):=kR
noncomputable def p75:String:=match Zs with
 | .block _ (.rangeFunc _ _ _ (.block _ (.region _ An _)))=>(An[0]?.map Oper.pos).getD ""
 |_=> ""
theorem mV:Zs=Code.block 0 (Code.rangeFunc (.tmp 24) #[25,26] Code.skip (VP p75)):=kR
theorem aED(hE:En Tryz.prog RS E)(hih:GK Tryz.prog RS ih)(hn:1<=n/\n<=4096)(h1:∀b c,RS 1 [] b c->∃rb R,c=Ei b rb n++Em rb R/\R.length=n):ET Tryz.prog RS 75 (c75 E ih):=by
 intro args s rs hc p hst hp vs hvs;subst hst;unfold c75 at hc;cases hlen:Nat.ble args.length 1000<;>rw[hlen]at hc<;>simp only[AN,AO,reduceCtorEq]at hc;have hlen:=AL hlen;split at hc
 ·rename_i o ho;intro A U w hs;show Calls Tryz.prog 75 vs.toArray w (mS RS p rs A U);refine(callsIn_wide (n:=5)).1 (callsIn_of_wp_marks Tryz.func75 dV trivial (wpIn_wide.2 ?_) J);let p0:Pt:=⟨p.ρ,{p.st with fr:=PX 0 args .e},Jl 0 vs,p.S,p.live,p.C⟩
  have hF0:Kr p.ρ (PX 0 args .e) (Jl 0 vs):=fun s a hs=>by have:=RE (k:=0) (t:=.e) (fr:=[]) hvs I (fun s a hs=>by simp[C7.FC]at hs) (fun s v hs=>by simp[lk]at hs) s a hs;simpa using this
  have aEE:p.to p0:=⟨⟨[],by simp[p0]⟩,fun k h _=>⟨h,rfl⟩,fun k h _=>h,Ao _,fun k h=>h⟩
  have hg0:p0.good RS:=⟨hF0,hp.H,hp.lt⟩
  refine mR hih (A:={A with inv:=fun a=>a.defers=[]}) (R:=U) J (p0:=p) r75 _ o ho p0 J aEE hg0 ?_ _ w J (K9 101 vs []) (hs.tQ _);intro x hx q hq hto hgood;obtain⟨m,e1,e2⟩:=F4 hc x hx;obtain⟨ex,st'⟩:=x;have hq:q.st=st':=hq;subst hq;cases ex with
  |ret=>cases e1
  |ex id=>cases e1
  |Eu v=>simp only[AH]at e1;subst e1;intro u hu a w hd hs;show LeavesInM Fence.wide 5 Tryz.prog Tryz.f75 a.tmps (mS RS p rs A U) a.defers (.panicking _) w;rw[hd];exact⟨trivial,q.S,hs.On,.inr ⟨v,_,e2 _ (AP.2 J),bk p q,u,rfl,rfl,rfl,(Yd hp hto hgood).1,(Yd hp hto hgood).2,hu,rfl⟩⟩
  |nor=>
   simp only at e1;split at e1
   ·rename_i s2 hmid;split at e1
    ·rename_i o2 hpost;obtain⟨mo,v4a,v5a,r6,q7,mc,t,l,lo,hi,f0,f4,f5,f6,f7,g1,g2,g3,g4,g5,g6,rfl⟩:=mU hmid;obtain⟨v0,l0,k0⟩:=hgood.F 0 _ f0;obtain⟨v4,l4,k4⟩:=hgood.F 4 _ f4;obtain⟨v5,l5,k5⟩:=hgood.F 5 _ f5;obtain⟨v6,l6,k6⟩:=hgood.F 6 _ f6;obtain⟨v7,l7,k7⟩:=hgood.F 7 _ f7;obtain⟨d1,b1⟩:=hgood.mem g1;obtain⟨d3,b3⟩:=hgood.mem g3;obtain⟨d4,b4⟩:=hgood.mem g4;obtain⟨d6,b6'⟩:=hgood.mem g6;have n1:mo≠q7:=fun e=>by subst e;rw[g1]at g6;cases g6
     have n3:t≠q7:=fun e=>by subst e;rw[g3]at g6;cases g6
     have n4:r6≠q7:=fun e=>by subst e;rw[g4]at g6;cases g6
     have n31:t≠mo:=fun e=>by subst e;rw[g3]at g1;cases g1
     have n41:r6≠mo:=fun e=>by subst e;rw[g4]at g1;cases g1
     have n43:r6≠t:=fun e=>by subst e;rw[g4]at g3;cases g3
     have pr:((q.live.erase q7).map q.C).Perm (q.C mo::q.C t::q.C r6::((((q.live.erase q7).erase mo).erase t).erase r6).map q.C):=by have m1:mo∈q.live.erase q7:=(Be n1).2 d1;have m3:t∈(q.live.erase q7).erase mo:=(Be n31).2 ((Be n3).2 d3);have m4:r6∈((q.live.erase q7).erase mo).erase t:=(Be n43).2 ((Be n41).2 ((Be n4).2 d4));have x1:=(CL m1).map q.C;have x3:=(CL m3).map q.C;have x4:=(CL m4).map q.C;simp only[Ap]at x1 x3 x4;exact x1.trans (.cons _ (x3.trans (.cons _ x4)))
     have pS:=hgood.H.pick d6;generalize hrest:((((q.live.erase q7).erase mo).erase t).erase r6).map q.C=rest at pr;generalize hC1:q.C mo=c1 at b1 pr;generalize hC3:q.C t=c3 at b3 pr;generalize zB:q.C r6=c4 at b4 pr;generalize hC6:q.C q7=c6 at b6' pS;cases b1 with| @cells _ _ bm xm qj y1 y1'=>
     cases b3 with| @res _ bt xt _ _ y3 y3'=>
     cases b4 with| @cells _ _ b6 x6 qo y4 y4'=>
     cases b6' with| @cells _ _ bq xq cvs y6 y6'=>
     obtain⟨rb,R,rfl,hR⟩:=h1 _ _ y3';cases y6' with|cons z6 y6'=>
     cases y6';cases z6 with| @int _ _ _ c0 z1 z2=>
     obtain rfl:c0=0:=I;cases k0 with|Au k0=>
     cases k6 with|Au k6=>
     cases k7 with|Au k7=>
     rw[y1]at k0;cases k0;rw[y4]at k6;cases k6;rw[y6]at k7;cases k7;obtain⟨vt,u1,u2⟩:=y1'.at g2;cases u2 with|Au u2=>
     rw[y3]at u2;cases u2;obtain⟨vo,u3,u4⟩:=y4'.at g5;cases u4 with| @int _ _ _ o0 u5 u6=>
     intro a w hd hk hs;have hs1:Ds {A with inv:=fun a=>a.defers=[]} w ([A7 bm qj 89,Ei bt rb n,Em rb R,A7 b6 qo 219]++(A7 bq [.int .i64 0] 3::(rest++U))):=by refine hs.FK ?_;refine(((pS.trans (.cons _ pr)).append_right U).flatten).trans (C2 fun _ x=> ?_);simp only[AW,A0,Am,AQ,AS,A6,Ax];omega
     have hk5:Ep 101 a [(0,Au bm),(4,v4),(5,v5),(6,Au b6),(7,Au bq)]:=hk.sub (.cons l0 (.cons l4 (.cons l5 (.cons l6 (.cons l7 (.nil _))))));refine wp_seq (wp_seq (wp_mono (aEC (v4:=v4) (v5:=v5) hn hR u1 u3 _ (A7 bq [.int .i64 0] 3::(rest++U)) a w (OO J hd) hk5 hs1) ?_));rintro e a1 w1 ⟨hd1,hh⟩;have hd1:a1.defers=[]:=hd1;cases e with
     |normal=>
      obtain⟨fr',S',hk',hs',_,q5,q3,t2,b,k,ex,hsub,Up,hpick⟩:=hh;have hk6:=hk'.sub hsub;have hs2:=(hs'.picks hpick).On;show Zs.wp Tryz.prog _ a1 w1;rw[mV];refine mO (A:=A) (q5:=q5) (q3:=q3) (t2:=t2) (b:=b) (n:=n) (k:=k) (q7:=bq) (o:=o0) (c:=0) (R:=R) (ex:=ex) (F:=[A7 bm qj 89,Ei bt rb n,Em rb R,A7 b6 qo 219,A7 q5 [Au t2] 74,A7 q3 [.int .u64 o0] 43,A7 t2 [.slice (some ⟨b,0,none⟩) n (n+k)] 127,A7 b (Ez R++ex) 93]++(rest++U)) ?_ Ba Ba ?_ hR hn.2 (hk6.eval (x:=.tmp 24) J) (hk6.has 7 _ J) (by have:=hk6.size;omega) ?_
      ·refine hs2.FK (C2 fun _ x=> ?_);simp only[AW,A0,Am,AQ,AS,A6,Ax];omega
      ·intro x hx y hy;simp only[A6,Aj,AW,A0,Am];simp only[Ab,Az,BX]at hx;rcases hx with rfl|rfl|rfl|rfl
       ·simp[hy]
       ·simp[hy]
       ·simp[hy]
       ·simp[hy]
      ·intro D c AG hc1 hc2 hsW;show VQ.wp Tryz.prog _ _ AG;have hcon:Da RS q.ρ q7 (.cells [CB] 3) (A7 bq [.int .i64 c] 3):=.cells y6 (.cons (.int (by rw[Fj];exact hc1) (by rw[F2];exact hc2)) .nil);have hset:=hgood.set d6 hcon;let q2:Pt:=⟨q.ρ,{(q.st.set q7 (.cells [CB] 3))with fr:=((((C7.e.put 24 0 (some (.Au mo 0))).put 24 4 (some v4a)).put 24 5 (some v5a)).put 24 6 (some (.Au r6 0))).put 24 7 (some (.Au q7 0))},[(7,Au bq),(6,Au b6),(5,v5),(4,v4),(0,Au bm)],A7 bq [.int .i64 c] 3::(q.live.erase q7).map q.C,q.live,Jw q.C q7 (A7 bq [.int .i64 c] 3)⟩
       have hF2:Kr q.ρ q2.st.fr q2.fr:=((((Kr.put (t:=.e) (fr:=[]) (fun s a hs=>by simp[C7.FC]at hs) (d:=0) Ba (.Au y1)).put (d:=4) Ba k4).put (d:=5) Ba k5).put (d:=6) Ba (.Au y4)).put (d:=7) Ba (.Au y6);have hg2:q2.good RS:=⟨hF2,hset.H,hset.lt⟩
       have ht:=Pt.to.set q q7 (.cells [CB] 3) (A7 bq [.int .i64 c] 3);have aEF:p.to q2:=hto.trans ⟨ht.ext,ht.kept,ht.old,ht.nx,ht.md⟩;refine wp_mono ((hih 75 101 VQ _ o2 hpost) q2 J hg2 (QF RS p rs) ?_ {A with inv:=fun a=>a.defers=[{target:=.collected D,args:= #[]}]} ([(D,.deferred (some []))]::U) _ AG ⟨?_,?_⟩ ?_ ?_) (fun e a w h=>qp h)
       ·intro o' ho' q3' hq3 aEG hg3;obtain⟨m2,e3,e4⟩:=F4 e1 o' ho';have hb:=Yd hp (aEF.trans aEG) hg3;unfold aCf at e3;unfold Fin;obtain⟨eo,so⟩:=o';have hq3:q3'.st=so:=hq3;subst hq3;cases eo with
        |nor=>
         simp only at e3;split at e3
         ·rename_i av hav;simp only[AH]at e3;subst e3;obtain⟨v,r1,r2⟩:=UV (n:=101) hE hg3 hav;exact⟨.inl J,v,r1,.inl ⟨av,_,e2 _ (e4 _ (AP.2 J)),bk p q3',v,rfl,rfl,rfl,hb.1,hb.2,r2,rfl⟩⟩
         ·cases e3
        |ret=>
         simp only at e3;split at e3
         ·rename_i av hav;simp only[AH]at e3;subst e3;obtain⟨v,r1,r2⟩:=UV (n:=101) hE hg3 hav;exact⟨.inr J,v,r1,.inl ⟨av,_,e2 _ (e4 _ (AP.2 J)),bk p q3',v,rfl,rfl,rfl,hb.1,hb.2,r2,rfl⟩⟩
         ·cases e3
        |Eu vv=>simp only[AH]at e3;subst e3;intro u hu;exact .inr ⟨vv,_,e2 _ (e4 _ (AP.2 J)),bk p q3',u,rfl,rfl,rfl,hb.1,hb.2,hu,rfl⟩
        |ex id=>cases e3
       ·show _::a1.defers=_;rw[hd1]
       ·intro d v a2 _ hin;show(a2.put (some d) v).defers=_;rw[Act.put_defers];exact hin
       ·have hk7:=hk6.sub (fr:=[(7,Au bq),(6,Au b6),(5,v5),(4,v4),(0,Au bm)]) (.cons J (.cons J (.cons J (.cons J (.cons J (.nil _))))));exact⟨hk7.size,hk7.has⟩
       ·have hd:Ds A AG ([A7 q5 [Au t2] 74,A7 q3 [.int .u64 o0] 43,A7 t2 [.slice (some ⟨b,0,none⟩) n (n+k)] 127,A7 b (Ez R++ex) 93]++(q2.S++([(D,.deferred (some []))]::U))):=by
         refine hsW.FK ?_;have pr':=pr.flatten;refine C2 fun dd x=> ?_
         have:=pr'.count_eq x;simp only[q2,AW,A0,Am,A6,Ax]at this⊢;omega
        exact(hd.drops).tQ _
     |panic ch=>obtain⟨_,_,hq⟩:=hh;exact hq.elim
     |ret=>obtain⟨_,_,_,_,hq,_⟩:=hh;cases hq
     |exit id=>obtain⟨_,_,_,_,hq,_⟩:=hh;cases hq
     |goto l=>obtain⟨_,_,_,_,hq,_⟩:=hh;cases hq
     |outgrown=>obtain⟨_,_,_,_,hq,_⟩:=hh;cases hq
    ·cases e1
   ·cases e1
 ·cases hc
theorem aCg:LA (c75 (DY (xA dE)) (ihF (xA dE))) Pn Pn [0,1,2,3,7] [.Au 6 0,HV] cg dE=true:=kR
theorem yZ:xG:=by
 intro n ob K U mb xb ρ S R B a hn hX hU hK hρ ha;have hF:=YG n ob (zR R);obtain⟨hroot,YI⟩:=Zc (ob:=ob) (z:=zR R) hn;have aCh:=YE hF hroot YI K dE hK;have hc:ET Tryz.prog (OX n ob (zR R) K) 75 (c75 (DY (xA dE)) (ihF (xA dE))):=aED (DU aCh) (yX aCh) hn (fun b c h=>by obtain⟨rb,R',e,hR',_⟩:=(YF _ _).1 h;exact⟨rb,R',e,hR'⟩)
 refine(U9 hF hc aCg (hX.at_.toU hU) (xF hρ ha)).mono ?_;rintro e S' ⟨he,hS,hk⟩;refine⟨?_,xE he⟩;obtain⟨d0,d1,d2,d3,d4,d5,d6,d7,e0,h0,h1,h2,h3,h4,h5,h6,h7,hl⟩:=hX.at_.at8;obtain⟨c0,c1,c2,c3,c4,c5,c6,c7,rfl,g0,g1,g2,g3,g4,g5,g7,_⟩:=hS.u8;subst e0;have e6:c6=d6:=hk 6 DI DI Ba;subst e6;obtain⟨R',B',hL,hz⟩:=QT (Ru.pn g0 g1 g2 g3 g4 g5 (hF.non J h6) g7 hl);exact⟨R',B',hL,.same hz⟩
end
end Go.Proofs.YtfekkjbdcdnhlaaGreatDoor.Sep
