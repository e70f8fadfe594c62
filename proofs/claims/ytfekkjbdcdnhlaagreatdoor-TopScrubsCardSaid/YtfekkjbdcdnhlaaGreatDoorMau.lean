/- Lemmas for TopScrubs. No condition but those that each states. -/
import Derived.Test.YtfekkjbdcdnhlaaGreatDoorMas
import Derived.Test.YtfekkjbdcdnhlaaGreatDoorMar
set_option linter.all false
set_option maxHeartbeats 8000000
set_option maxRecDepth 100000
namespace Go.Proofs.YtfekkjbdcdnhlaaGreatDoor.Sep
noncomputable section
theorem o9{b off m cap bt:Nat}{cs news:List Value}(hv:(cs.drop off).take (m*32)=news)(hl:news.length=m*32)(h1:∀u∈news,u.oneCell'=true)(hbd:m<=1099511627776):Fn Tryz.prog 41 [.slice (some ⟨b,off,none⟩) m cap] [A7 b cs bt] (Dv (ι:=Z8) (fun i=>m<=i.2.1/\i.2.2.length=(i.2.1-m)*32) (fun i=>.slice (some ⟨i.1,0,none⟩) m i.2.1) (fun i=>[A7 i.1 (news++i.2.2) 23,A7 b cs bt])):=by
 refine Fn.of Tryz.func41 J J [_] J ?_
 (refine wW ?_;intro b;refine wW ?_)
 refine DL.append (xs:=[]) (ex:=[]) (news:=news) tt J J J ta J .here (DO.slice tt J iN (by simpa using hv) (by simpa using hl) h1) J J I I I kC ?_;intro b' cap' ex' h2 h3;rw[show 0+m=m from BM m]at h2 h3⊢;rw[AS];refine vR ?_;exact BD (b',cap',ex') ⟨h3,by simpa using h2⟩ (DC (RV.tmp J)) pK
theorem Pg:Fn Tryz.prog 41 [.slice none 0 0] [] (E4 (.slice none 0 0) []):=by refine Fn.of Tryz.func41 J J [_] J ?_;exact wW trivial
theorem pA{b off m cap bt:Nat}{cs news:List Value}(hv:(cs.drop off).take (m*67)=news)(hl:news.length=m*67)(h1:∀u∈news,u.oneCell'=true)(hbd:m<=4294967296):Fn Tryz.prog 66 [.slice (some ⟨b,off,none⟩) m cap] [A7 b cs bt] (Dv (ι:=Z8) (fun i=>m<=i.2.1/\i.2.2.length=(i.2.1-m)*67) (fun i=>.slice (some ⟨i.1,0,none⟩) m i.2.1) (fun i=>[A7 i.1 (news++i.2.2) 175,A7 b cs bt])):=by
 refine Fn.of Tryz.func66 J J [_] J ?_
 (refine wW ?_;intro b;refine wW ?_)
 refine DL.append (xs:=[]) (ex:=[]) (news:=news) tt J J J ND J .here (DO.slice tt J iN (by simpa using hv) (by simpa using hl) h1) J J I I I kC ?_;intro b' cap' ex' h2 h3;rw[show 0+m=m from BM m]at h2 h3⊢;rw[AS];refine vR ?_;exact BD (b',cap',ex') ⟨h3,by simpa using h2⟩ (DC (RV.tmp J)) pK
theorem WO:Fn Tryz.prog 66 [.slice none 0 0] [] (E4 (.slice none 0 0) []):=by refine Fn.of Tryz.func66 J J [_] J ?_;exact wW trivial
theorem Rj:∀{D:List (List Int)} (hD:∀x∈D,x.length=32),D.flatten.length=D.length*32
 |[],_=>rfl
 |x::D,h=>by have ih:=Rj (D:=D) (fun y hy=>h y (by simp[hy]));rw[AW,Aq,ih,h x DI,Bz];omega
variable{D:List (List Int)}{ds:Value}{Hv:List CH}
theorem iU(hd:SX D ds Hv)(hX:D.length<1099511627776):Fn Tryz.prog 41 [ds] [Hv] (Dv (ι:=Value×List CH) (fun i=>SX D i.1 i.2) (fun i=>i.1) (fun i=>[i.2,Hv])):=by
 obtain⟨hD,hd⟩:=hd;have hl:=Rj hD;rcases hd with⟨rfl,rfl,rfl⟩|⟨b,cap,ex,rfl,hle,rfl⟩
 ·refine Pg.Cd (F:=[]) DI ?_;rintro e S' ⟨rfl,rfl⟩;exact⟨_,⟨(_,[]),⟨hD,.inl ⟨rfl,rfl,rfl⟩⟩,rfl,rfl⟩,by simp⟩
 ·refine(o9 (news:=bs D.flatten) (by rw[BL,Ar (by rw[Aa,hl];exact Ao _),AX (by rw[Aa,hl];exact Ao _)]) (by rw[Aa,hl]) (BV _) I).mono ?_;rintro e S' ⟨⟨b',cap',ex'⟩,⟨h1,h2⟩,rfl,rfl⟩;exact⟨(_,_),⟨hD,.inr ⟨b',cap',ex',rfl,h1,rfl⟩⟩,rfl,rfl⟩
variable{n:Nat}
theorem an{SH:List Value}{ls:Value}{lC:List CH}(hd:TL n SH ls lC)(h1:∀u∈SH,u.oneCell'=true)(hn:n<=4294967296):Fn Tryz.prog 66 [ls] [lC] (Dv (ι:=Value×List CH) (fun i=>TL n SH i.1 i.2) (fun i=>i.1) (fun i=>[i.2,lC])):=by
 rcases hd with⟨rfl,rfl,rfl,rfl⟩|⟨b,cap,ex,rfl,hle,rfl,hl,hex⟩
 ·refine WO.Cd (F:=[]) DI ?_;rintro e S' ⟨rfl,rfl⟩;exact⟨_,⟨(_,[]),.inl ⟨rfl,rfl,rfl,rfl⟩,rfl,rfl⟩,by simp⟩
 ·refine(pA (news:=SH) (by rw[BL,Ar I,AX I]) hl h1 hn).mono ?_;rintro e S' ⟨⟨b',cap',ex'⟩,⟨h3,h2⟩,rfl,rfl⟩;exact⟨(_,_),.inr ⟨b',cap',ex',rfl,h3,rfl,hl,h2⟩,rfl,rfl⟩
variable{M:List Int}
theorem ZR{kb:Nat}{Z:List Int}{z0 z1 z2 z3 z4:Value}(hM:M.length=32)(hZ:Z.length=32):F6 (Kd.st [(0,1),(1,32),(33,1),(34,1),(35,1),(36,1)]).place (z0::(bs Z++[z1,z2,z3,z4])) [(0,[.bool true]),(1,bs M),(2,[ds]),(4,[.map (some kb)])]=some (.bool true::(bs M++[ds,z2,.map (some kb),z4])):=by simp[F6,Kd.place,E1,Aa,hM,hZ,C4,CM,AX,BJ];rfl
theorem sC(hM:M.length=32)(hdr:SX D ds Hv)(hD:D.length<1099511627776):Fn Tryz.prog 18 [.bool true,.agg (bs M).toArray,ds] [Hv] (Dv (ι:=Nat×Nat×Value×List CH) (fun i=>SX D i.2.2.1 i.2.2.2) (fun i=>Au i.1) (fun i=>[oB i.1 M i.2.2.1 0 i.2.1 (.slice none 0 0),DX Gq i.2.1 [] 0,i.2.2.2,Hv])):=by
 refine Fn.of Tryz.func18 J J [_] J ?_
 (refine W ?_;intro b;refine W ?_;refine CW.dA (id:=1) [0,1,2,3,4,5,6,7] mixed hz kR nD ?_;refine W ?_)
 refine DL.GG tt J J J J J .here (by rw[Aa,hM]) ?_;refine W ?_;refine DL.B7 J J J (F:=[Hv]) (.cons (.there .here) .nil) (iU hdr hD) kR (fun _=>aP) (fun _=>Du pK) ?_;rintro⟨ds',vw⟩ hd';dsimp only at hd'⊢;obtain⟨p,cap,rfl⟩:∃p cap,ds'=.slice p D.length cap:=by
  obtain⟨_,⟨rfl,rfl,_⟩|⟨db,cap,ex,rfl,_⟩⟩:=hd'
  ·exact⟨none,0,rfl⟩
  ·exact⟨_,cap,rfl⟩
 refine DL.makeMap (enc:=Gq) J J ?_;intro kb;refine DL.build hz tt J J J J J J (ZR (Z:=BQ 32) hM J) ?_;refine DL.XI J J J (Du pK) ?_;intro nb;refine W ?_;exact BD (nb,kb,.slice p D.length cap,vw) hd' (DC (RV.tmp J)) (.cons .here (.cons .here (.cons .here (.cons .here .nil))))
theorem WQ:∀{es:List OE} {IH:List Value} {dH:A2},HD es IH dH->∀u∈M8 es IH,u.oneCell'=true
 |_,_,_,.nil=>fun u hu=>by simp[M8]at hu
 |_,_,_,@HD.cons q a dv dH es IH H h k=>fun u hu=>by
  have h1:dv.oneCell'=true:=by rcases h with⟨_,rfl,_⟩|⟨_,_,_,rfl,_⟩<;>rfl
  simp only[M8,Aj]at hu;rcases hu with(hu|hu)|hu
  ·exact iI h1 u hu
  ·exact BV _ u hu
  ·exact WQ k u hu
theorem HD.at_:∀{es:List OE} {IH:List Value} {dH:A2},HD es IH dH->∀i (hi:i<es.length),∃dv c r,IH[i]? =some dv/\G9 (iq es[i].1) dv c/\dH.flatten.Perm (c++r)
 |_,_,_,.nil,i,hi=>by simp at hi
 |_,_,_,@HD.cons q a dv dH es IH H h k,i,hi=>by
  cases i with
  |zero=>
   rcases h with⟨h1,rfl,rfl⟩|⟨b,cap,ex,rfl,h2,rfl⟩
   ·exact⟨_,[],H.flatten,rfl,.inl ⟨h1,rfl,rfl⟩,by simp⟩
   ·exact⟨_,_,H.flatten,rfl,.inr ⟨b,0,cap,bs (iq q)++ex,5,rfl,h2,rfl,by rw[BL,Ar (by rw[Aa];exact Ao _),AX (by rw[Aa];exact Ao _)];rfl⟩,by simp⟩
  |succ i=>
   obtain⟨dv2,c,r,h1,h2,h3⟩:=k.at_ i (by simpa using hi);refine⟨dv2,c,dH.flatten++r,by simpa using h1,by simpa using h2,?_⟩;rw[A6];refine(h3.append_left _).trans ?_;refine C2 fun _ x=> ?_
   simp only[Ax];omega
variable{P:Program}{Q:EX}{fr:Fr}{S:A2}
theorem CW.YA{c:Code}(h:CW P n c Q fr ([]::S)):CW P n c Q fr S:=fun A R a w hd hk hs=>h A R a w hd hk (hs.FK DI)
variable{b:Nat}
theorem Pj{a:Nat}:Nat.blt a b=true->a<b:=fun h=>by simpa using h
section
variable{RS:Nat->EA} (hR:GX RS) {L:SK} {p:Pt} {K:Nat} (hp:p.good (RS K))
include hR hp
variable{δ R:Nat}
theorem aBf{A:AV}(h:wV L δ R p.st=some A):
 p.st.nx+6<=2^24/\4<=L.r/\L.r<p.st.nx/\4<=L.a/\L.a<p.st.nx/\L.r≠L.a/\(∀k∈L.slots,k<2^24)/\L.lim<2^24/\(∀x∈Sz L p.st,IY x.2=true)/\L.gen.all (W9 p.st.nx)=true/\(∀x∈sa L p.st,W9 p.st.nx x.2=true)/\Gm p.st.hp+10001*δ<=R/\
 (∀k,k<4->k∈p.live)/\L.r∈p.live/\L.a∈p.live/\
 ∃q2 ca lm qa b qb cb S0 G,([]::p.S).Perm (S0++G)/\pJ RS L p q2 ca (K+Gm p.st.hp) 0 0 0 p.fr S0/\lk p.fr L.lim=some (.int .i64 ((lm:Nat):Int))/\lm<=10000/\A=.GY L.a b 0 1 0/\p.ρ[L.a]? =some (qa,ca)/\p.ρ[b]? =some (qb,cb)/\GQ q2<=GQ qb/\(qa=0↔q2=0)/\QH q2=QH qa:=by
 have hlen:p.ρ.length=p.st.nx:=hp.H.len;unfold wV at h;cases hb:kF L δ R p.st<;>rw[hb]at h<;>simp only[AN,AO,reduceCtorEq]at h;unfold kF at hb;simp only[AI]at hb;obtain⟨⟨⟨⟨⟨⟨⟨⟨⟨⟨⟨⟨⟨⟨⟨⟨⟨⟨b1,b2⟩,b3⟩,b4⟩,b5⟩,b6⟩,b7⟩,b8⟩,b9⟩,b10⟩,b11⟩,b12⟩,b13⟩,b14⟩,b15⟩,b16⟩,b17⟩,b18⟩,b19⟩:=hb;have b1:p.st.nx+6<=16777216:=AL b1;have b2:=AL b2;have b3:=Pj b3;have b4:=AL b4;have b5:=Pj b5;have b6:L.r≠L.a:=fun e=>by rw[e]at b6;simp[GH]at b6
 rw[AY]at b7;have YB:∀k∈L.slots,k<2^24/\∃a,p.st.fr.get k=some a/\W9 p.st.nx a=true:=fun k hk=>by
  have:=b7 k hk;simp only[AI]at this;obtain⟨⟨_,c1⟩,c2⟩:=this;refine⟨Pj c1,?_⟩;split at c2
  ·rename_i a ha;exact⟨a,ha,c2⟩
  ·cases c2
 have g0:=hp.mem (OU b13);have g1:=hp.mem (OU b14);obtain⟨x2,e2,hx2⟩:=OV b15;obtain⟨x3,e3,hx3⟩:=OV b16;have g2:=hp.mem e2;have g3:=hp.mem e3;split at b19
 ·rename_i ua' ha;obtain rfl:=Xm b19;obtain⟨hal,hac⟩:=hp.mem ha;split at b9
  ·rename_i lo hi hlim;simp only[AI,FU]at b9;obtain⟨aE7,f1,f2⟩:=hp.F _ _ hlim;cases f2 with| @int _ _ _ zl z1 z2=>
   split at h
   ·rename_i l hr;obtain⟨hrl,hrc⟩:=hp.mem hr;cases hll:fW l L.gen<;>rw[hll]at h<;>simp only[AN,AO,reduceCtorEq]at h;split at h
    ·rename_i aa b kJ;cases hab:Nat.beq aa L.a&&Nat.blt b p.st.nx<;>rw[hab]at h<;>simp only[AN,AO,reduceCtorEq]at h;simp only[AI]at hab;obtain rfl:=AK hab.1;split at h
     ·rename_i kK;split at h
      ·rename_i kL;split at h
       ·rename_i kM;simp only[AH]at h;subst h;generalize hCr:p.C L.r=cr at hrc;cases hrc with| @cells _ _ rb rc vs cJ hcl=>
        generalize hCa:p.C L.a=ca' at hac;cases hac with| @unk _ _ qa ca _ WT hua=>
        obtain⟨va,v1,w1⟩:=hcl.at kJ;cases w1 with| @GY _ _ _ _ _ _ _ qb cb _ k1 k2 w1=>
        rw[WT]at k1;cases k1;have hqb:GQ qb<4294967296:=by unfold GQ;omega
        obtain⟨q2,r1,r2,_,r4,r5,r6⟩:=kB w1 hua I;obtain⟨vz,v2,w2⟩:=hcl.at kK;cases w2 with| @int _ _ _ zz y1 y2=>
        obtain rfl:zz=0:=I;obtain⟨vu,v3,w3⟩:=hcl.at kL;cases w3 with| @int _ _ _ zu y3 y4=>
        obtain rfl:zu=0:=I;obtain⟨vl,v4,w4⟩:=hcl.at kM;cases w4;have hU:∀k∈Rn L p.st,k∈p.live:=fun k hk=>by obtain⟨_,_,_,_,ab,e⟩:=GF hk;exact(hp.mem e).1
        have hnd:([0,1,2,3,L.r,L.a]++Rn L p.st).Nodup:=by
         rw[Bg];refine⟨?_,Uz L p.st,fun a ha b hb=> ?_⟩
         ·simp only[Bv,Ab,Az,BX,not_or,Do,and_true,not_false_eq_true];omega
         ·obtain⟨g1,g2,g3,g4,_⟩:=GF hb;simp only[Ab,Az,BX]at ha;omega
        obtain⟨rest,hperm⟩:=JG hnd hp.H.nd (fun k hk=>by
         rcases Aj.1 hk with hk|hk
         ·simp only[Ab,Az,BX]at hk;rcases hk with rfl|rfl|rfl|rfl|rfl|rfl
          ·exact g0.1
          ·exact g1.1
          ·exact g2.1
          ·exact g3.1
          ·exact hrl
          ·exact hal
         ·exact hU k hk)
        let C':Nat->List CH:=fun k=>if k=p.st.nx+4 then[]else if k=p.st.nx+2 then p.C L.a else p.C k
        have hC':∀k,k<p.st.nx->C' k=p.C k:=fun k hk=>by show(if _ then _ else if _ then _ else _)=_;rw[Ah I,Ah I]
        have zB:C' (p.st.nx+4)=[]:=BE J;have hC2:C' (p.st.nx+2)=p.C L.a:=by show(if _ then _ else if _ then _ else _)=_;rw[Ah I,BE J]
        refine⟨b1,b2,b3,b4,b5,b6,fun k hk=>(YB k hk).1,Pj b8,fun x hx=>AY.1 b17 x hx,b11,fun x hx=> ?_,AL b18,fun k hk=> ?_,hrl,hal,
         q2,ca,zl.toNat,qa,b,qb,cb,([0,1,2,3,L.r,p.st.nx+2,p.st.nx+4]++Rn L p.st).map C',rest.map p.C,?_,⟨C',vs,rb,rc,0,0,va,_,rfl,fun k hk=>hC' k (GF hk).1,⟨?_,?_,?_,?_⟩,⟨cJ,?_,O5 hcl hll⟩,⟨v1,v2,v3,v4⟩,⟨r4,?_⟩,⟨Ao _,.inl ⟨rfl,rfl,fun h=>by cases h⟩,?_⟩,?_⟩,?_,I,rfl,WT,k2,I,r5,r6⟩
        ·obtain⟨k,hk,rfl⟩:=A8.1 hx;obtain⟨_,a,e1,e2⟩:=YB k hk;simp only[e1,B0];exact e2
        ·have hk':k=0\/k=1\/k=2\/k=3:=I;rcases hk' with rfl|rfl|rfl|rfl
         ·exact g0.1
         ·exact g1.1
         ·exact g2.1
         ·exact g3.1
        ·have e1:(List.map C' ([0,1,2,3,L.r,p.st.nx+2,p.st.nx+4]++Rn L p.st)).Perm ([]::List.map p.C ([0,1,2,3,L.r,L.a]++Rn L p.st)):=by
          rw[Ai,Ai];have e2:List.map C' (Rn L p.st)=List.map p.C (Rn L p.st):=BB fun k hk=>hC' k (GF hk).1
          rw[e2];simp only[Ap,CP];rw[hC' 0 I,hC' 1 I,hC' 2 I,hC' 3 I,hC' L.r b3,hC2,zB];exact(CY (l₁:=[p.C 0,p.C 1,p.C 2,p.C 3,p.C L.r,p.C L.a]) (a:=([]:List CH)) (l₂:=List.map p.C (Rn L p.st)))
         refine List.Perm.trans ?_ (e1.symm.append_right _);refine List.Perm.cons _ ?_;refine hp.H.perm.trans ((hperm.map p.C).trans ?_);rw[Ai];exact .refl _
        ·rw[hC' 0 I];exact hR.non J g0.2
        ·rw[hC' 1 I];exact hR.non J g1.2
        ·rw[hC' 2 I];exact hR.into (.inl J) hx2 g2.2
        ·rw[hC' 3 I];exact hR.into (.inr J) hx3 g3.2
        ·rw[hC' L.r b3];exact hCr
        ·rw[hC2,hCa];exact r2
        ·rw[zB];exact .inl ⟨rfl,rfl⟩
        ·intro x hx;obtain⟨k,hk,rfl⟩:=A8.1 hx;obtain⟨_,a,e1,e2⟩:=YB k hk;obtain⟨v,f3,f4⟩:=hp.F _ _ e1;exact⟨v,f3,by simp only[e1,B0];exact f4⟩
        ·rw[f1,Int.toNat_of_nonneg I]
       ·cases h
      ·cases h
     ·cases h
    ·cases h
   ·cases h
  ·cases b9
 ·cases b19
variable{T:A2}
theorem kP(hN:p.st.nx+6<=2^24)(hr4:4<=L.r)(cH:L.r<p.st.nx)(sd:4<=L.a)(haN:L.a<p.st.nx)(hra:L.r≠L.a)(U2:∀k∈L.slots,k<2^24)(pL:∀x∈Sz L p.st,IY x.2=true)(hl4:∀k,k<4->k∈p.live)(hrl:L.r∈p.live)(hal:L.a∈p.live)
 {q2 ca qa qb cb X z u w:Nat}   (WT:p.ρ[L.a]? =some (qa,ca)) (P2:p.ρ[b]? =some (qb,cb)) (hq2:GQ q2<=GQ qb) (hq0:qa=0↔q2=0) (hqB:QH q2=QH qa) (hX:X<=LPT*δ) (hz:z<=20000) (hu:u<=20000)
 (h:pJ RS L p q2 ca (K+(Gm p.st.hp+X)) z u w fr T):∃q':Pt,q'.st=kE L δ (.GY L.a b 0 1 0) p.st/\q'.fr=fr/\q'.S=T/\p.to q'/\q'.good (RS K):=by
 obtain⟨C,vs,rb,rc,ql,cl,va,vl,rfl,hU,⟨h0,h1,h2,h3⟩,⟨wX,hrC,hgen⟩,⟨v1,v2,v3,v4⟩,⟨a1,a2⟩,⟨l1,l2,l3⟩,hF⟩:=h;have hlen:p.ρ.length=p.st.nx:=hp.H.len;generalize hσ:[(ql,cl)]=σ;have X8:(p.ρ++σ).length=p.st.nx+1:=by rw[<-hσ];simp[hlen]
 have zC:(p.ρ++σ)[p.st.nx]? =some (ql,cl):=by rw[<-hσ,<-hlen];simp
 let C':Nat->List CH:=fun k=>if k=L.a then C (p.st.nx+2)else if k=p.st.nx then C (p.st.nx+4)else C k
 have hC':∀k,k≠L.a->k≠p.st.nx->C' k=C k:=fun k e1 e2=>by show(if _ then _ else if _ then _ else _)=_;rw[Ah e1,Ah e2]
 have hCa:C' L.a=C (p.st.nx+2):=BE J;have hCN:C' p.st.nx=C (p.st.nx+4):=by show(if _ then _ else if _ then _ else _)=_;rw[Ah I,BE J]
 have hA:EM (p.ρ++σ) (.GY L.a b 0 1 0) va:=by
  refine .GY (Dz σ WT) (Dz σ P2) ?_;rcases a1 with⟨e1,e2,_⟩|⟨e1,off,len,cap,e2,e3,e4,e5,_,e6⟩
  ·exact .inl ⟨hq0.2 e1,e2,fun h=>by cases h⟩
  ·exact .inr ⟨fun e=>e1 (hq0.1 e),off,len,cap,by rw[<-hqB];exact e2,e3,I,e5,(fun h=>by cases h),(fun h=>by cases h)⟩
 have hcells:Bt (p.ρ++σ) (kD L.gen (.GY L.a b 0 1 0) (.int .i64 0 20000) (.int .i64 0 20000) (.GY p.st.nx p.st.nx 0 3 1)) vs:=by have e1:=(hgen.mono σ).set 118 hA;rw[Fo v1]at e1;have e2:=e1.set 126 (EM.int (ρ:=p.ρ++σ) (k:=.i64) (lo:=0) (hi:=20000) (z:=((z:Nat):Int)) I I);rw[Fo v2]at e2;have e3:=e2.set 127 (EM.int (ρ:=p.ρ++σ) (k:=.i64) (lo:=0) (hi:=20000) (z:=((u:Nat):Int)) I I);rw[Fo v3]at e3;have e4:=e3.set 128 (EM.GY (x:=1) zC zC l2);rw[Fo v4]at e4;exact e4
 have V7:∀i,i=2\/i=3->∀{c:List CH},Da (RS (K+(Gm p.st.hp+X))) p.ρ i (.res i [0]) c->Da (RS K) p.ρ i (.res i [Nat.add (Gm p.st.hp) (Nat.mul LPT δ)]) c:=fun i hi c hc=>by have:=hR.V6 (δ:=LPT*δ-X) hi (Cj _) hc;rw[show Gm p.st.hp+X+(LPT*δ-X)=Nat.add (Gm p.st.hp) (Nat.mul LPT δ) by show _=Gm p.st.hp+LPT*δ;omega]at this;exact this
 have hgood:=ZV (RS:=RS K) (ρ:=p.ρ++σ) (md:=List.range p.st.nx++p.st.md) (C:=C') (fr:=fr)
  (fl:=sa L p.st)
  (hl:=[(0,.res 0 []),(1,.res 1 []),(2,.res 2 [Nat.add (Gm p.st.hp) (Nat.mul LPT δ)]),(3,.res 3 [Nat.add (Gm p.st.hp) (Nat.mul LPT δ)]),(L.r,.cells (kD L.gen (.GY L.a b 0 1 0) (.int .i64 0 20000) (.int .i64 0 20000) (.GY p.st.nx p.st.nx 0 3 1)) 352),(L.a,.unk (some L.ua) 43),(p.st.nx,.unk none 356)]++Sz L p.st)
  (by rw[X8];omega)
  (fun x hx=>by obtain⟨k,hk,rfl⟩:=A8.1 hx;exact U2 k hk)
  (fun x hx=>by obtain⟨v,g1,g2⟩:=hF x hx;exact⟨v,g1,g2.mono σ⟩)
  (by
   rw[Ai,KL,Bg];refine⟨?_,Uz L p.st,fun a ha b hb=> ?_⟩
   ·simp only[Ap,CP,Bv,Ab,Az,BX,not_or,Do,and_true,not_false_eq_true];omega
   ·obtain⟨g1,g2,g3,g4,_⟩:=GF hb;simp only[Ap,CP,Ab,Az,BX]at ha;omega)
  (fun x hx=>by
   rw[X8];rcases Aj.1 hx with hx|hx
   ·simp only[Ab,Az,BX]at hx;rcases hx with rfl|rfl|rfl|rfl|rfl|rfl|rfl
    ·refine⟨by show 0<_;omega,?_⟩;show Da _ _ 0 _ (C' 0);rw[hC' 0 I I];exact(hR.non J h0).mono σ
    ·refine⟨by show 1<_;omega,?_⟩;show Da _ _ 1 _ (C' 1);rw[hC' 1 I I];exact(hR.non J h1).mono σ
    ·refine⟨by show 2<_;omega,?_⟩;show Da _ _ 2 _ (C' 2);rw[hC' 2 I I];exact(V7 2 (.inl J) h2).mono σ
    ·refine⟨by show 3<_;omega,?_⟩;show Da _ _ 3 _ (C' 3);rw[hC' 3 I I];exact(V7 3 (.inr J) h3).mono σ
    ·refine⟨by show L.r<_;omega,?_⟩;show Da (RS K) (p.ρ++σ) L.r _ (C' L.r);rw[hC' L.r hra I,hrC];exact .cells (Dz σ wX) hcells
    ·refine⟨by show L.a<_;omega,?_⟩;show Da (RS K) (p.ρ++σ) L.a _ (C' L.a);rw[hCa];refine .unk (Dz σ WT) ?_;rcases a2 with⟨e1,e2⟩|⟨e1,ex,e2,e3,e4⟩
     ·exact .inl ⟨hq0.2 e1,e2⟩
     ·exact .inr ⟨fun e=>e1 (hq0.1 e),ex,e2,fun x hx v hv=>(e3 x hx v hv).mono σ,by rw[<-hqB];exact e4⟩
    ·refine⟨by show p.st.nx<_;omega,?_⟩;show Da (RS K) (p.ρ++σ) p.st.nx _ (C' p.st.nx);rw[hCN];refine .unk zC ?_;rcases l3 with e1|⟨e1,ex,e2,e3,e4⟩
     ·exact .inl e1
     ·exact .inr ⟨e1,ex,e2,(fun x hx=>by cases hx),e4⟩
   ·have hx0:=hx;obtain⟨k,hk,rfl⟩:=A8.1 hx;obtain⟨g1,g2,g3,g4,ab,g5⟩:=GF hk;refine⟨by show k<_;omega,?_⟩;show Da (RS K) (p.ρ++σ) k ((p.st.hp.get k).getD _) (C' k);have hnb:=pL _ hx0;simp only[g5,B0]at hnb⊢;rw[hC' k g4 I,hU k hk];exact(hp.mem g5).2.mono σ)
 refine⟨_,?_,rfl,?_,?_,hgood⟩
 ·show St.mk _ _ _ _=kE L δ _ _;rw[X8];rfl
 ·show List.map C' (List.map (fun x:Nat×AB=>x.1) _)=_;rw[Ai,KL,Ai,Ai];congr 1
  ·simp only[Ap,CP];rw[hC' 0 I I,hC' 1 I I,hC' 2 I I,hC' 3 I I,hC' L.r hra I,hCa,hCN]
  ·exact BB fun k hk=>hC' k (GF hk).2.2.2.1 (by have:=(GF hk).1;omega)
 ·refine⟨⟨σ,rfl⟩,fun k hk hn=> ?_,fun k hk hlt=> ?_,?_,fun k hk=>BK _ hk⟩
  ·exact absurd (A3 _ (Ak.2 (hp.H.lt k hk))) hn
  ·have hk:k∈List.map (fun x:Nat×AB=>x.1) _:=hk;rw[Ai,KL]at hk;rcases Aj.1 hk with hk|hk
   ·simp only[Ap,CP,Ab,Az,BX]at hk;rcases hk with rfl|rfl|rfl|rfl|rfl|rfl|rfl
    ·exact hl4 0 I
    ·exact hl4 1 I
    ·exact hl4 2 I
    ·exact hl4 3 I
    ·exact hrl
    ·exact hal
    ·exact absurd hlt (Nat.lt_irrefl _)
   ·obtain⟨_,_,_,_,ab,e⟩:=GF hk;exact(hp.mem e).1
  ·show p.st.nx<=(p.ρ++σ).length;omega
end
variable{T:A2}
theorem CW.se{c:Code}{G:A2}(h:CW P n c Q fr T)(e:S.Perm (T++G)):CW P n c Q fr S:=h.zM e
variable{ih:Ih}{δ R:Nat}
theorem wY{RS:Nat->EA}(hR:GX RS){L:SK}{K:Nat}(I7:K+R<=HM)(hih:∀K',K'+δ<=HM->GK P (RS K') ih):GK P (RS K) (Xj L ih δ R):=by
 intro f n c st outs h;unfold Xj at h;split at h
 ·rename_i a;cases hf:Nat.beq f L.f<;>rw[hf]at h<;>simp only[AN,AO,reduceCtorEq]at h;split at h
  ·rename_i A hA;cases hrun:(MC L ih δ n a st true true&&MC L ih δ n a st true false&&MC L ih δ n a st false true&&MC L ih δ n a st false false)<;>rw[hrun]at h<;>simp only[AN,AO,reduceCtorEq,AH]at h;subst h;simp only[AI]at hrun;obtain⟨⟨⟨u1,u2⟩,u3⟩,u4⟩:=hrun;intro p hst hp Q ES;subst hst;obtain⟨hN,hr4,cH,sd,haN,hra,U2,kH,pL,hgn,hFn,hJR,hl4,hrl,hal,q2,ca,lm,qa,b,qb,cb,S0,G,hperm,hLI,hlk,hlm,rfl,WT,P2,hq2,hq0,hqB⟩:=aBf hR hp hA;have hall:∀fz fu,MC L ih δ n a p.st fz fu=true:=fun fz fu=>by cases fz<;>cases fu<;>assumption
   have key:∀(rem z u w:Nat) (fr:Fr) (T:A2),pJ RS L p q2 ca (K+Gm p.st.hp+z*δ) z u w fr T->lk fr L.lim=some (.int .i64 ((lm:Nat):Int))->z+rem=lm->u<=z->w<=1000*z->oU P n a (Tn Q) (rem+1) fr T:=by
    intro rem;induction rem with
    |zero=>
     intro z u w fr T hL hlk hz hu hw;obtain⟨p',g1,g2,g3,g4,⟨ql,cl,g5,g6⟩,g7,g8,g9⟩:=WS hR hp hN hr4 cH U2 kH pL hL hlk I hlm I I;have hr:=hall (decide (z<lm)) (decide (u<GQ q2));unfold MC at hr;split at hr
     ·rename_i o ho;rw[AY]at hr;have hKz:K+Gm p.st.hp+z*δ+δ<=HM:=by
       have:z*δ+δ<=10001*δ:=by rw[<-Nat.succ_mul];exact DZ _ I
       omega
      have hs:=hih _ hKz L.f n a _ o ho p' g2 g1 (IL (fun fr S=>oU P n a (Tn Q) 0 fr S) (Tn Q)) (fun x hx q e1 e2 e3=>Fin.next (by
       have h1:=hr x hx;obtain⟨e,s⟩:=x;unfold kG at h1;cases e with
       |nor=>simp only[AI,decide_eq_true_eq]at h1;have:=h1.1;omega
       |ret=>simp at h1
       |Eu v=>simp at h1
       |ex j=>
        simp only[AI]at h1;obtain rfl:=AK h1.1;simp only at e1;subst e1;obtain⟨T',G',z',u',k1,k2,k3,k4,_⟩:=X9 hR hp hN hr4 cH hgn hFn g5 g6 g7 g8 g9 I hlm I I e2 e3 h1.2;have k2':pJ RS L p q2 ca (K+(Gm p.st.hp+(z*δ+δ))) z' u' (w+1000) q.fr T':=by rw[show K+(Gm p.st.hp+(z*δ+δ))=K+Gm p.st.hp+z*δ+δ by omega];exact k2
        obtain⟨q',m1,m2,m3,m4,m5⟩:=kP hR hp hN hr4 cH sd haN hra U2 pL hl4 hrl hal (δ:=δ) WT P2 hq2 hq0 hqB (by show z*δ+δ<=10001*δ;rw[<-Nat.succ_mul];exact DZ _ I) I I k2';have:=ES _ (AP.2 J) q' m1 m4 m5;refine⟨T',G',k1,?_⟩;have h3:Q.go (.exit L.xid) q'.fr q'.S:=this;rw[m2,m3]at h3;exact h3))
      rw[g3,g4]at hs;exact CW.YA hs
     ·cases hr
    |succ rem ihr=>
     intro z u w fr T hL hlk hz hu hw;obtain⟨p',g1,g2,g3,g4,⟨ql,cl,g5,g6⟩,g7,g8,g9⟩:=WS hR hp hN hr4 cH U2 kH pL hL hlk I hlm I I;have hr:=hall (decide (z<lm)) (decide (u<GQ q2));unfold MC at hr;split at hr
     ·rename_i o ho;rw[AY]at hr;have hKz:K+Gm p.st.hp+z*δ+δ<=HM:=by
       have:z*δ+δ<=10001*δ:=by rw[<-Nat.succ_mul];exact DZ _ I
       omega
      have hs:=hih _ hKz L.f n a _ o ho p' g2 g1 (IL (fun fr S=>oU P n a (Tn Q) (rem+1) fr S) (Tn Q)) (fun x hx q e1 e2 e3=>Fin.next (by
       have h1:=hr x hx;obtain⟨e,s⟩:=x;unfold kG at h1;cases e with
       |nor=>
        simp only[AI,decide_eq_true_eq]at h1;simp only at e1;subst e1;obtain⟨T',G',z',u',k1,k2,k3,k4,k5⟩:=X9 hR hp hN hr4 cH hgn hFn g5 g6 g7 g8 g9 I hlm I I e2 e3 h1.2;obtain⟨rfl,k6⟩:=k5 J;have k2':pJ RS L p q2 ca (K+Gm p.st.hp+(z+1)*δ) (z+1) u' (w+1000) q.fr T':=by rw[show K+Gm p.st.hp+(z+1)*δ=K+Gm p.st.hp+z*δ+δ by rw[Nat.succ_mul];omega];exact k2
        have h4:=ihr (z+1) u' (w+1000) q.fr T' k2' k6 I I I;exact CW.se h4 k1
       |ret=>simp at h1
       |Eu v=>simp at h1
       |ex j=>
        simp only[AI]at h1;obtain rfl:=AK h1.1;simp only at e1;subst e1;obtain⟨T',G',z',u',k1,k2,k3,k4,_⟩:=X9 hR hp hN hr4 cH hgn hFn g5 g6 g7 g8 g9 I hlm I I e2 e3 h1.2;have k2':pJ RS L p q2 ca (K+(Gm p.st.hp+(z*δ+δ))) z' u' (w+1000) q.fr T':=by rw[show K+(Gm p.st.hp+(z*δ+δ))=K+Gm p.st.hp+z*δ+δ by omega];exact k2
        obtain⟨q',m1,m2,m3,m4,m5⟩:=kP hR hp hN hr4 cH sd haN hra U2 pL hl4 hrl hal (δ:=δ) WT P2 hq2 hq0 hqB (by show z*δ+δ<=10001*δ;rw[<-Nat.succ_mul];exact DZ _ I) I I k2';have:=ES _ (AP.2 J) q' m1 m4 m5;refine⟨T',G',k1,?_⟩;have h3:Q.go (.exit L.xid) q'.fr q'.S:=this;rw[m2,m3]at h3;exact h3))
      rw[g3,g4]at hs;exact CW.YA hs
     ·cases hr
   have aC6:pJ RS L p q2 ca (K+Gm p.st.hp+0*δ) 0 0 0 p.fr S0:=by rw[Nat.zero_mul];exact hLI
   have hw:=key lm 0 0 0 p.fr S0 aC6 hlk I (Ao _) (Cj _);exact(CW.YA (CW.se (oU.loop hw) hperm)).pB
  ·cases h
 ·cases h
def wZ(E:GI)(ih:Ih)(n:Nat)(An:List Oper)(pre post:List Nat)(s:St):Option Ej:=
 bif HN An.toArray (pre++post)&&FT An.toArray&&HO E.zt n An.toArray&&Ve An.toArray pre post then
  (match LY E ih n (E2 An pre) {s with md:=[]}with
  |some (o,L,M)=>bif L.all (fun k=>Nat.blt k s.nx&& !(Gu k M))&&o.all IV then
   (match Hj o (fun s'=>match LY E ih n (E2 An post) {s' with md:=[]}with
    |some (o',L',M')=>bif L.all (fun k=> !(Gu k s'.md)&& !(Gu k M'))&&L'.all (fun k=>Nat.blt k s'.nx&& !(Gu k M'))then some (o'.map fun x=>(x.1,{x.2 with md:=x.2.md++s'.md}))else none
    |none=>none)with
   |some o2=>some (o2.map fun x=>(x.1,{x.2 with md:=x.2.md++s.md}))
   |none=>none)else none
  |none=>none)else none
section
variable{P:Program} {RS:EA} {E:GI} {n:Nat}
theorem pM(hE:En P RS E)(hih:GK P RS ih){id:Nat}{An:List Oper}{pre post:List Nat}{st:St}{outs:Ej}(h:wZ E ih n An pre post st=some outs):Snd P RS n (.region id An.toArray true) st outs:=by
 intro p hst hp Q ES;subst hst;unfold wZ at h;cases hc:HN An.toArray (pre++post)&&FT An.toArray&&HO E.zt n An.toArray&&Ve An.toArray pre post<;>rw[hc]at h<;>simp only[AN,AO,reduceCtorEq]at h;split at h
 ·rename_i o L M hr;cases hk:L.all (fun k=>Nat.blt k p.st.nx&& !(Gu k M))&&o.all IV<;>rw[hk]at h<;>simp only[AN,AO,reduceCtorEq]at h;split at h
  ·rename_i o2 hb2;simp only[AH]at h;subst h;simp only[AI]at hk;obtain⟨hk,hnp⟩:=hk;rw[AY]at hk hnp;let Lf:=M7 (L.filter (fun k=>decide (k∈p.live)))
   have W8:∀k,k∈Lf↔k∈L/\k∈p.live:=fun k=>by simp[Lf,JS]
   have hkk:∀k∈L,k<p.st.nx/\k∉M:=fun k Xj=>by have:=hk k Xj;simp only[AI,Bo]at this;refine⟨by simpa using this.1,fun hm=> ?_⟩;rw[FZ.2 hm]at this;simp at this
   let p0:Pt:={p with st:={p.st with md:=[]}}
   have hp0:p0.good RS:=⟨hp.F,hp.H,hp.lt⟩
   have hst:IM (some (Lf.map p.C)) Lf p.C p.st.nx p.live p0:=.inr ⟨rfl,Gl,Ao _,fun k hk _=>hk,fun k hk=>⟨((W8 k).1 hk).2,rfl⟩⟩;obtain⟨U,hperm⟩:=hst.yz hp0;have hpk:∀(A B:A2),DV (A++B) A B:=fun A B=>by
    induction A with
    |nil=>exact .nil
    |cons c A ih=>exact .cons .here ih
   have hfin:∀x∈o2,∀q:Pt,q.st=x.2->p0.to q->q.good RS->Fin x.1 q Q:=by intro x hx q e1 e2 e3;have:=ES _ (EH hx) {q with st:={q.st with md:=q.st.md++p.st.md}} (by rw[<-e1]) ⟨e2.ext,fun k hk hn=>e2.kept k hk (fun hm=>hn (A3 _ hm)),e2.old,e2.nx,fun k hk=>BK _ hk⟩ ⟨e3.F,e3.H,e3.lt⟩;obtain⟨e,s⟩:=x;cases e<;>exact this
   refine CW.perm (S:=Lf.map p.C++U) ?_ hperm.symm;refine CW.dg (zero:=E.zt) pre post (Lf.map p.C) hE.mixed hE.zt hc (hpk _ _) J J (DL.congr (S:=p.S) ?_ (Eo.refl _) hperm);refine I4 (K:=some (Lf.map p.C)) (Lf:=Lf) (C0:=p.C) (SJ:=p.st.nx) (live0:=p.live) hE hih (p:=p0) hr hp0 hst (fun k hk=>.inr ⟨(hkk k hk).1,fun hl=>(W8 k).2 ⟨hk,hl⟩⟩) (fun k hk=>.inr fun hm=>(hkk k ((W8 k).1 hm).1).2 hk) ?_;intro x hx q e1 e2 e3;have hm:=Kx hb2 x hx;have V0:=hnp x hx;obtain⟨e,s⟩:=x;cases e with
   |nor=>
    obtain⟨mm,h1,h2⟩:=hm;simp only at h1 e1;split at h1
    ·rename_i o' L' M' hr';cases hk2:L.all (fun k=> !(Gu k s.md)&& !(Gu k M'))&&L'.all (fun k=>Nat.blt k s.nx&& !(Gu k M'))<;>rw[hk2]at h1<;>simp only[AN,AO,reduceCtorEq,AH]at h1;subst h1;rw[<-e1]at hr' hk2;simp only[AI,AY]at hk2;obtain⟨hkA,hkB⟩:=hk2;have hA:∀k∈Lf,k∈q.live/\q.C k=p.C k/\k∉M':=fun k hk=>by obtain⟨g1,g2⟩:=(W8 k).1 hk;have g3:=hkA k g1;obtain⟨g4,g5⟩:=e2.kept k g2 (OW g3.1);exact⟨g4,g5,OW g3.2⟩
     let wa:=M7 ((L'++Lf).filter (fun k=>decide (k∈q.live)))
     have pN:∀k,k∈wa↔(k∈L'\/k∈Lf)/\k∈q.live:=fun k=>by show k∈M7 _↔_;rw[JS,Bh,Aj,decide_eq_true_eq]
     obtain⟨rest,hrest⟩:=JG (l:=Lf) (live:=wa) Gl Gl (fun k hk=>(pN k).2 ⟨.inr hk,(hA k hk).1⟩);let q0:Pt:={q with st:={q.st with md:=[]}}
     have hq0:q0.good RS:=⟨e3.F,e3.H,e3.lt⟩
     have hst2:IM (some (wa.map q.C)) wa q.C q.st.nx q.live q0:=.inr ⟨rfl,Gl,Ao _,fun k hk _=>hk,fun k hk=>⟨((pN k).1 hk).2,rfl⟩⟩;obtain⟨V,hV⟩:=hst2.yz hq0;have hlt2:∀k∈L',k<q.st.nx:=fun k hk=>by simpa using(hkB k hk).1
     have hd:=I4 (K:=some (wa.map q.C)) (Lf:=wa) (C0:=q.C) (SJ:=q.st.nx) (live0:=q.live) hE hih (p:=q0) hr' hq0 hst2 (fun k hk=>.inr ⟨hlt2 k hk,fun hl=>(pN k).2 ⟨.inl hk,hl⟩⟩) (fun k hk=>.inr fun hm=>by
      rcases((pN k).1 hm).1 with g|g
      ·exact OW (hkB k g).2 hk
      ·exact(hA k g).2.2 hk) (fun y hy q' e4 e5 e6=>by
      have:=hfin _ (h2 _ (EH hy)) {q' with st:={q'.st with md:=q'.st.md++q.st.md}} (by rw[<-e4,<-e1]) (e2.trans ⟨e5.ext,fun k hk hn=>e5.kept k hk (fun hm=>hn (A3 _ hm)),e5.old,e5.nx,fun k hk=>BK _ hk⟩) ⟨e6.F,e6.H,e6.lt⟩;obtain⟨ee,ss⟩:=y;cases ee<;>exact this)
     refine⟨wa.map q.C,rest.map q.C,?_,⟨V,hV⟩,hd⟩;refine(hrest.map q.C).trans ?_;rw[Ai];refine Bm _ (List.Perm.of_eq ?_);exact BB fun k hk=>(hA k hk).2.1
    ·cases h1
   |ret=>simp[IV]at V0
   |ex id=>simp[IV]at V0
   |Eu v=>intro u hu;exact hfin _ hm q e1 e2 e3 u hu
  ·cases h
 ·cases h
def we(E:GI)(ih:Ih)(sp:Nat->Nat->Option (List Nat×List Nat)):Hk:=fun f n c st=>match c with
 | .region id An true=>match sp f id with
  |some (pre,post)=>wZ E ih n An.toList pre post st
  |none=>none
 |_=>none
theorem Ro(hE:En P RS E)(hih:GK P RS ih){sp:Nat->Nat->Option (List Nat×List Nat)}:GK P RS (we E ih sp):=by
 intro f n c st outs h;unfold we at h;split at h
 ·rename_i id An;split at h
  ·have:=pM (id:=id) hE hih h;simpa using this
  ·cases h
 ·cases h
def cK(a b:Hk):Hk:=fun f n c st=>match a f n c st with
 |some o=>some o
 |none=>b f n c st
theorem QS{a b:Hk}(ha:GK P RS a)(hb:GK P RS b):GK P RS (cK a b):=by
 intro f n c st outs h;unfold cK at h;split at h
 ·rename_i o ho;cases h;exact ha f n c st _ ho
 ·exact hb f n c st outs h
end
section
variable{P:Program} {RS:Nat->EA} (hR:GX RS) {E:GI} {K:Nat}
include hR
end
variable{ρ:Nm}{a:AV}{v:Value}
theorem Gw(h:Tv a=some n)(hv:EM ρ a v):v=.int .i64 (n:Int):=by
 unfold Tv at h;split at h
 ·obtain⟨k,rfl⟩:=Iu h hv;cases hv;rfl
 ·cases h
theorem Nu(h:exU a=some n)(hv:EM ρ a v):v=.int .u64 (n:Int):=by
 unfold exU at h;split at h
 ·obtain⟨k,rfl⟩:=Iu h hv;cases hv;rfl
 ·cases h
theorem xR(h:exB a=some n)(hv:EM ρ a v):v=.int .u8 (n:Int)/\n<256:=by
 unfold exB at h;split at h
 ·split at h
  ·rename_i x hx;cases hb:Nat.blt x 256<;>rw[hb]at h<;>simp only[AN,AO,reduceCtorEq,AH]at h;subst h;obtain⟨k,rfl⟩:=Iu hx hv;exact⟨by cases hv;rfl,by simpa using hb⟩
  ·cases h
 ·cases h
def nB:List Int->Nat
 |[]=>0
 |x::l=>x.toNat+256*nB l
theorem Zf:∀{B:List Int},FB B->JL B=(nB B:Int)
 |[],_=>rfl
 |x::l,h=>by have h1:=h x DI;have h2:=Zf (B:=l) (fun y hy=>h y (by simp[hy]));simp only[JL,nB,h2];omega
theorem Iy:∀(X Y:List Int),nB (X++Y)=nB X+256^X.length*nB Y
 |[],Y=>by simp[nB]
 |x::X,Y=>by simp only[AQ,nB,Iy X Y,Bz,Nat.pow_succ,Nat.mul_add];rw[Nat.mul_comm (256^X.length) 256,Nat.mul_assoc];omega
theorem Wg:∀{B:List Int},FB B->nB B<256^B.length
 |[],_=>by simp[nB]
 |x::l,h=>by have h1:=h x DI;have h2:=Wg (B:=l) (fun y hy=>h y (by simp[hy]));simp only[nB,Bz,Nat.pow_succ];omega
variable{B:List Int}
theorem MV(h:FB B)(k:Nat):FB (B.drop k):=fun x hx=>h x (ER hx)
variable{X:List Int}
theorem Fp{Y:List Int}(h:FB X)(k:FB Y):FB (X++Y):=fun x hx=>by
 rcases Aj.1 hx with hx|hx
 ·exact h x hx
 ·exact k x hx
theorem aBw(a:Nat):2^(Nat.mul 8 a)=256^a:=by show 2^(8*a)=_;rw[Nat.pow_mul]
theorem xT(B:List Int)(a k:Nat):B=B.take a++(cut B a k++B.drop (a+k)):=by
 unfold cut;have h1:B.drop (a+k)=(B.drop a).drop k:=by rw[EU]
 rw[h1,CS,CS]
variable{k:Nat}
theorem nB3{a:Nat}(h:a+k<=B.length):nB B=nB (B.take a)+256^a*(nB (cut B a k)+256^k*nB (B.drop (a+k))):=by
 conv=>lhs;rw[xT B a k]
 rw[Iy,Iy,F9 h,BP,Nat.min_eq_left I]
theorem Ry(hA:FB B){a:Nat}(h:a+k<=B.length):cy (nB B) a k=nB (cut B a k):=by
 have h1:=Wg (hA.take a);rw[BP,Nat.min_eq_left I]at h1;have h2:=Wg (Jp hA a k);rw[F9 h]at h2;have e:cy (nB B) a k=nB B/256^a%256^k:=by show Nat.mod (Nat.shiftRight (nB B) (Nat.mul 8 a)) (256^k)=_;rw[show Nat.shiftRight (nB B) (Nat.mul 8 a)=nB B/2^(Nat.mul 8 a)from Nat.shiftRight_eq_div_pow _ _,aBw];rfl
 rw[e,nB3 h,Nat.add_mul_div_left _ _ (Nat.pow_pos Ba),Nat.div_eq_of_lt h1,BM,Nat.add_mul_mod_self_left,Dh h2]
theorem Oe(hA:FB B){a:Nat}(h:a+X.length<=B.length):YL (nB B) a X.length (nB X)=nB (pat B a X):=by
 have e1:=Ry hA h;have e2:=nB3 h;have hsl:∀x:Nat,Nat.shiftLeft x (Nat.mul 8 a)=x*256^a:=fun x=>by rw[show Nat.shiftLeft x (Nat.mul 8 a)=x*2^(Nat.mul 8 a)from Nat.shiftLeft_eq _ _,aBw]
 have e3:nB (pat B a X)=nB (B.take a)+256^a*(nB X+256^X.length*nB (B.drop (a+X.length))):=by
  unfold pat
  rw[AU,Iy,Iy,BP,Nat.min_eq_left I]
 show Nat.add (Nat.sub (nB B) (Nat.shiftLeft (cy (nB B) a X.length) (Nat.mul 8 a))) (Nat.shiftLeft (nB X) (Nat.mul 8 a))=_;rw[e1,hsl,hsl,e2,e3];show(_-_+_:Nat)=_;rw[Nat.mul_add,Nat.mul_add,Nat.mul_comm (nB (cut B a X.length)),Nat.mul_comm (nB X)];omega
theorem ME{ρ:Nm}{B:List Int}(hA:FB B):∀(k a:Nat),a+k<=B.length->Bt ρ (MD (nB B) k a) (bs (cut B a k))
 |0,a,_=>by simp[cut,bs];exact .nil
 |k+1,a,h=>by
  have e1:cut B a (k+1)=B[a]::cut B (a+1) k:=by unfold cut;rw[CQ I,EF]
  have e2:=Ry hA (a:=a) (k:=1) I;have e3:cut B a 1=[B[a]]:=by unfold cut;rw[CQ I,EF,List.take_zero]
  have hx:=hA B[a] (B1 I);rw[e3]at e2;have e4:Nat.mod (Nat.shiftRight (nB B) (Nat.mul 8 a)) 256=B[a].toNat:=by have:cy (nB B) a 1=Nat.mod (Nat.shiftRight (nB B) (Nat.mul 8 a)) 256:=rfl;rw[<-this,e2];simp[nB]
  rw[e1];show Bt ρ (D7 (Nat.mod (Nat.shiftRight (nB B) (Nat.mul 8 a)) 256)::MD (nB B) k (Nat.succ a)) (.int .u8 B[a]::bs (cut B (a+1) k));rw[e4];refine .cons (.int ?_ ?_) (ME hA k (a+1) I)
  ·show((B[a].toNat:Nat):Int)<=_;omega
  ·show _<=((B[a].toNat:Nat):Int)
   omega
theorem Ja{ρ:Nm}:∀{l:List AV} {x:Nat} {vs:List Value},S3 l=some x->Bt ρ l vs->∃B,vs=bs B/\FB B/\nB B=x/\B.length=l.length
 |[],x,_,h,.nil=>by simp only[S3,AH]at h;exact⟨[],rfl,fun _ h=>by simp at h,h,rfl⟩
 |a::l,x,_,h,.cons h1 h2=>by
  simp only[S3]at h;split at h
  ·rename_i y hy;split at h
   ·rename_i z hz;simp only[AH]at h;subst h;obtain⟨rfl,hlt⟩:=xR hy h1;obtain⟨B,rfl,hB,rfl,hl⟩:=Ja hz h2;refine⟨(y:Int)::B,rfl,fun u hu=> ?_,?_,by simp[hl]⟩
    ·rcases Ab.1 hu with rfl|hu
     ·omega
     ·exact hB u hu
    ·show((y:Int).toNat)+256*nB B=_;simp
   ·cases h
  ·cases h
def LQ(d:List Nat)(b:Nat)(cs:List CH):Prop:=∃n v ab B,d=[n,v]/\1<=n/\n<=4096/\cs=Dy b ab n++EY ab B/\B.length=128*n/\FB B/\nB B=v
variable{RS:EA}{f i:Nat}{d:List Nat}{vs:List Value}
theorem Rz{d':List Nat}{p:Pt}(hp:p.good RS)(hk:p.st.hp.get k=some (.res i d))
 (H:∀b c,p.ρ[k]? =some (b,c)->RS i d b (p.C k)->Fn P f vs [p.C k] (fun e S'=>∃v c',e=.returned v/\S'=[c']/\EM p.ρ a v/\RS i d' b c')):Fn P f vs p.S (Ij RS p [.val a (p.st.set k (.res i d'))]):=by
 obtain⟨hlive,hcb⟩:=hp.mem hk;have hS:=hp.H.pick hlive;generalize hC:p.C k=ck at hcb;cases hcb with| @res _ b c _ cs hρ hr=>
 rw[hC]at hS;intro A U w hs;have hs':Ds A w ([ck]++((p.live.erase k).map p.C++U)):=by have:=hs.perm (hS.append_right U);simpa using this
 have hf:=H b c hρ (by rw[hC];exact hr);rw[hC]at hf;refine(hf A _ w hs').mono ?_;rintro e w' ⟨h0,S',h1,v,c',rfl,rfl,h2,h3⟩;exact⟨h0,c'::(p.live.erase k).map p.C,by simpa using h1,.inl ⟨a,_,AP.2 J,p.set k (.res i d') c',v,rfl,rfl,rfl,.set p k _ _,hp.set hlive (.res hρ h3),h2,rfl⟩⟩
theorem Jt{p:Pt}(hp:p.good RS)(hk:p.st.hp.get k=some (.res i d))
 (H:∀b c,p.ρ[k]? =some (b,c)->RS i d b (p.C k)->Fn P f vs [p.C k] (fun e S'=>∃v,e=.returned v/\S'=[p.C k]/\EM p.ρ a v)):Fn P f vs p.S (Ij RS p [.val a p.st]):=by
 obtain⟨hlive,hcb⟩:=hp.mem hk;have hS:=hp.H.pick hlive;generalize hC:p.C k=ck at hcb;cases hcb with| @res _ b c _ cs hρ hr=>
 rw[hC]at hS;intro A U w hs;have hs':Ds A w ([ck]++((p.live.erase k).map p.C++U)):=by have:=hs.perm (hS.append_right U);simpa using this
 have hf:=H b c hρ (by rw[hC];exact hr);rw[hC]at hf;refine(hf A _ w hs').mono ?_;rintro e w' ⟨h0,S',h1,v,rfl,rfl,h2⟩;have h3:Ds A w' (p.S++U):=(show Ds A w' (ck::((p.live.erase k).map p.C++U)) by simpa using h1).perm (hS.append_right U).symm;exact⟨h0,p.S,h3,.inl ⟨a,_,AP.2 J,p,v,rfl,rfl,rfl,.refl p,hp,h2,rfl⟩⟩
theorem Il{o:Option AB}{v:Nat}(h:S4 o=some (n,v)):o=some (.res 0 [n,v]):=by
 unfold S4 at h;split at h
 ·cases h;rfl
 ·cases h
theorem Ea(k:IntKind)(x:Nat):EM ρ (.int k (.ofNat x) (.ofNat x)) (.int k (x:Int)):=.int (A4 _) (A4 _)
section
variable{RS:EA} (hM:∀d b cs,RS 0 d b cs↔LQ d b cs)
include hM
theorem aBx:ET Tryz.prog RS 23 x23:=by
 intro args s rs hc p hst hp vs hvs;subst hst;unfold x23 at hc;split at hc
 ·rename_i k;split at hc
  ·rename_i n v hm;cases hc;cases hvs with|cons h1 hvs=>
   cases hvs;cases h1 with|Au h1=>
   refine Jt hp (Il hm) fun b c hρ hr=> ?_
   rw[hρ]at h1;cases h1;obtain⟨n',v',ab,B,e,g1,g2,g3,g4,g5,g6⟩:=(hM _ _ _).1 hr;cases e;rw[g3];refine Fn.FW ((Fn.Ue FA).mono ?_);rintro e S' ⟨rfl,rfl⟩;exact⟨_,_,rfl,_,rfl,rfl,Ea _ _⟩
  ·cases hc
 ·cases hc
theorem aDo:ET Tryz.prog RS 26 zD:=by
 intro args s rs hc p hst hp vs hvs;subst hst;unfold zD at hc;split at hc
 ·rename_i k ga;split at hc
  ·rename_i n v hm;split at hc
   ·rename_i g hg;cases hb:Nat.blt g n<;>rw[hb]at hc<;>simp only[AN,AO,reduceCtorEq,AH]at hc;subst hc;have hb:g<n:=by simpa using hb
    cases hvs with|cons h1 hvs=>cases hvs with|cons h2 hvs=>
    cases hvs;cases h1 with|Au h1=>
    obtain rfl:=Gw hg h2;refine Jt hp (Il hm) fun b c hρ hr=> ?_
    rw[hρ]at h1;cases h1;obtain⟨n',v',ab,B,e,g1,g2,g3,g4,g5,g6⟩:=(hM _ _ _).1 hr;cases e;rw[g3];refine Fn.FW ((XQ hb g4).mono ?_);rintro e S' ⟨rfl,rfl⟩;refine⟨_,_,rfl,_,rfl,rfl,.Ec (.cons (.agg ?_) (.cons (Ea _ 0) .nil))⟩;rw[<-g6];exact ME g5 128 (128*g) I
   ·cases hc
  ·cases hc
 ·cases hc
theorem aBy:ET Tryz.prog RS 156 xH:=by
 intro args s rs hc p hst hp vs hvs;subst hst;unfold xH at hc;split at hc
 ·rename_i k ga l;split at hc
  ·rename_i n v hm;split at hc
   ·rename_i g hg;split at hc
    ·rename_i x hx;cases hb:Nat.blt g n&&Nat.beq l.length 128<;>rw[hb]at hc<;>simp only[AN,AO,reduceCtorEq,AH]at hc;subst hc;rw[AI]at hb;obtain⟨hb,hl⟩:=hb;have hb:g<n:=by simpa using hb
     have hl:l.length=128:=AK hl;cases hvs with|cons h1 hvs=>cases hvs with|cons h2 hvs=>cases hvs with|cons h3 hvs=>
     cases hvs;cases h1 with|Au h1=>
     obtain rfl:=Gw hg h2;cases h3 with|agg h3=>
     obtain⟨X,rfl,hX,rfl,Hw⟩:=Ja hx h3;refine Rz hp (Il hm) fun b c hρ hr=> ?_
     rw[hρ]at h1;cases h1;obtain⟨n',v',ab,B,e,g1,g2,g3,g4,g5,g6⟩:=(hM _ _ _).1 hr;cases e;rw[g3];refine Fn.FW ((XR hb g4 I).mono ?_);rintro e S' ⟨rfl,rfl⟩;have hpat:ins B g X=pat B (128*g) X:=rfl;have hle:128*g+X.length<=B.length:=I;refine⟨_,_,rfl,_,_,rfl,rfl,Ea _ 0,(hM _ _ _).2 ⟨n,_,ab,ins B g X,rfl,g1,g2,rfl,?_,?_,?_⟩⟩
     ·rw[hpat,Ie hle,g4]
     ·exact Fp (Fp (g5.take _) hX) (MV g5 _)
     ·rw[hpat,<-Oe g5 hle,g6,Hw,hl];rfl
    ·cases hc
   ·cases hc
  ·cases hc
 ·cases hc
theorem aDp:ET Tryz.prog RS 30 x30:=by
 intro args s rs hc p hst hp vs hvs;subst hst;unfold x30 at hc;split at hc
 ·rename_i k aa;split at hc
  ·rename_i n v hm;split at hc
   ·rename_i a ha;cases hb:Nat.beq (Nat.mod a 8) 0&&Nat.ble (Nat.add a 8) (Nat.mul 128 n)<;>rw[hb]at hc<;>simp only[AN,AO,reduceCtorEq,AH]at hc;subst hc;rw[AI]at hb;have hb1:a%8=0:=AK hb.1;have hb2:a+8<=128*n:=AL hb.2;cases hvs with|cons h1 hvs=>cases hvs with|cons h2 hvs=>
    cases hvs;cases h1 with|Au h1=>
    obtain rfl:=Nu ha h2;refine Jt hp (Il hm) fun b c hρ hr=> ?_
    rw[hρ]at h1;cases h1;obtain⟨n',v',ab,B,e,g1,g2,g3,g4,g5,g6⟩:=(hM _ _ _).1 hr;cases e;rw[g3];refine Fn.FW ((ZB a g2 g4 g5 I hb1 hb2).mono ?_);rintro e S' ⟨rfl,rfl⟩;refine⟨_,_,rfl,_,rfl,rfl,.Ec (.cons ?_ (.cons (Ea _ 0) .nil))⟩;rw[<-g6,Ry g5 I,Zf (Jp g5 a 8)];exact Ea _ _
   ·cases hc
  ·cases hc
 ·cases hc
end
theorem MW(x k:Nat):nB (Ek (x:Int) k)=x%256^k/\(Ek (x:Int) k).length=k/\FB (Ek (x:Int) k):=by
 induction k with
 |zero=>exact⟨by simp[Ek,nB,Nat.mod_one],rfl,fun _ h=>by simp[Ek]at h⟩
 |succ k ih=>
  obtain⟨h1,h2,h3⟩:=ih;have e:Ek (x:Int) (k+1)=Ek (x:Int) k++[((x/256^k%256:Nat):Int)]:=by
   unfold Ek;rw[List.range_succ,Ai,List.map_singleton];congr 2
   rw[<-UL k,Int.natCast_emod,Int.natCast_ediv,Int.natCast_pow];rfl
  refine⟨?_,?_,?_⟩
  ·rw[e,Iy,h1,h2];have:nB [((x/256^k%256:Nat):Int)]=x/256^k%256:=by simp only[nB,Nat.mul_zero,CV];exact Int.toNat_natCast _
   rw[this,Nat.pow_succ,Nat.mod_mul]
  ·rw[e,Aq,h2];rfl
  ·rw[e];refine Fp h3 fun y hy=> ?_
   rw[AP.1 hy];have:=Nat.mod_lt (x/256^k) (show 256>0 by decide);omega
section
variable{RS:EA} (hM:∀d b cs,RS 0 d b cs↔LQ d b cs)
include hM
theorem aDq:ET Tryz.prog RS 31 x31:=by
 intro args s rs hc p hst hp vs hvs;subst hst;unfold x31 at hc;split at hc
 ·rename_i k aa xa;split at hc
  ·rename_i n v hm;split at hc
   ·rename_i a ha;split at hc
    ·rename_i x hx;cases hb:Nat.beq (Nat.mod a 8) 0&&Nat.ble (Nat.add a 8) (Nat.mul 128 n)&&Nat.blt x 18446744073709551616<;>rw[hb]at hc<;>simp only[AN,AO,reduceCtorEq,AH]at hc;subst hc;simp only[AI]at hb;have hb1:a%8=0:=AK hb.1.1;have hb2:a+8<=128*n:=AL hb.1.2;have hb3:x<18446744073709551616:=by simpa using hb.2
     cases hvs with|cons h1 hvs=>cases hvs with|cons h2 hvs=>cases hvs with|cons h3 hvs=>
     cases hvs;cases h1 with|Au h1=>
     obtain rfl:=Nu ha h2;obtain rfl:=Nu hx h3;refine Rz hp (Il hm) fun b c hρ hr=> ?_
     rw[hρ]at h1;cases h1;obtain⟨n',v',ab,B,e,g1,g2,g3,g4,g5,g6⟩:=(hM _ _ _).1 hr;cases e;rw[g3];obtain⟨l1,l2,l3⟩:=MW x 8;have hle:a+(Ek (x:Int) 8).length<=B.length:=I;refine Fn.FW ((RX a g2 g4 I I hb1 hb2).mono ?_);rintro e S' ⟨rfl,rfl⟩;refine⟨_,_,rfl,_,_,rfl,rfl,Ea _ 0,(hM _ _ _).2 ⟨n,_,ab,_,rfl,g1,g2,rfl,?_,?_,?_⟩⟩
     ·rw[Ie hle,g4]
     ·exact Fp (Fp (g5.take _) l3) (MV g5 _)
     ·rw[<-Oe g5 hle,g6,l2,l1,Dh (by exact hb3)]
    ·cases hc
   ·cases hc
  ·cases hc
 ·cases hc
omit hM in
theorem PR{p:Pt}(hp:p.good RS){L x:Nat}(h:Ns p.st.hp a=some (k,L,x))(hv:EM p.ρ a v):k∈p.live/\(∃ab,p.st.hp.get k=some ab/\ab.cs.isSome=true)/\∃b so cap cs t X,p.C k=A7 b cs t/\v=.slice (some ⟨b,so,none⟩) L cap/\L<=cap/\(cs.drop so).take L=bs X/\X.length=L/\FB X/\nB X=x:=by
 unfold Ns at h;split at h
 ·rename_i k' off len hsl;split at h
  ·rename_i ab hab;split at h
   ·rename_i l hl;split at h
    ·rename_i x' hnum;cases hb:Xo a&&Nat.beq (List.take len (List.drop off l)).length len<;>rw[hb]at h<;>simp only[AN,AO,reduceCtorEq,AH,Af]at h;obtain⟨rfl,rfl,rfl⟩:=h;simp only[AI]at hb;obtain⟨hcap,hlen⟩:=hb;have hlen:=AK hlen;obtain⟨hlive,hcb⟩:=hp.mem hab;obtain⟨b,c,vs,ex,t,hρ,hcl,hC⟩:=hcb.cs hl;obtain⟨b',c',cap,E8,rfl⟩:=Nc hsl hv;rw[hρ]at E8;cases E8;obtain⟨X,hX,Ix,sr,aDr⟩:=Ja hnum ((hcl.drop off).take len);have Hw:X.length=len:=by rw[aDr];exact hlen
     have hle:len<=cap:=by
      cases a<;>simp only[Xo,Ce]at hcap
      ·simp only[Ld,AH,Af]at hsl;obtain⟨rfl,rfl,rfl⟩:=hsl;cases hv;exact AL hcap
      ·simp only[Ld,AH,Af]at hsl;obtain⟨rfl,rfl,rfl⟩:=hsl;cases hv with|G3 IJ hc=>
       exact hc
      ·cases hv with|O3 IJ ho hc=>exact hc
     refine⟨hlive,⟨ab,hab,by rw[hl];rfl⟩,b,off,cap,vs++ex,t,X,hC,rfl,hle,?_,Hw,Ix,sr⟩;rw[Gk,hX];rw[((hcl.drop off).take len).len];exact hlen
    ·cases h
   ·cases h
  ·cases h
 ·cases h
theorem aBz:ET Tryz.prog RS 190 xI:=by
 intro args s rs hc p hst hp vs hvs;subst hst;unfold xI at hc;split at hc
 ·rename_i k aa ya;split at hc
  ·rename_i n v hm;split at hc
   ·rename_i a ha;split at hc
    ·rename_i j m x hby;cases hcond:Nat.ble (Nat.add a m) (Nat.mul 128 n)&&Nat.blt 0 m<;>rw[hcond]at hc<;>simp only[AN,AO,reduceCtorEq,AH]at hc;subst hc;simp only[AI]at hcond;have hin:a+m<=128*n:=AL hcond.1;have hm0:0<m:=by simpa using hcond.2
     have hget:=Il hm;cases hvs with|cons h1 hvs=>cases hvs with|cons h2 hvs=>cases hvs with|cons h3 hvs=>
     cases hvs;obtain rfl:=Nu ha h2;obtain⟨hlive,hcb⟩:=hp.mem hget;obtain⟨HC,⟨rU,IN,hcs2⟩,b2,so,cap,cs,t,X,hC2,rfl,hcap,hX,Hw,Ix,sr⟩:=PR hp hby h3;have hne:j≠k:=fun e=>by subst e;rw[hget]at IN;cases IN;cases hcs2
     generalize hC:p.C k=ck at hcb;cases hcb with| @res _ b c _ comp hρ hr=>
     cases h1 with|Au h1=>
     rw[hρ]at h1;cases h1;obtain⟨n',v',ab,B,e,g1,g2,rfl,g4,g5,g6⟩:=(hM _ _ _).1 hr;cases e;have hS:=Pt.two hp hlive HC hne;rw[hC,hC2]at hS;have hle:a+X.length<=B.length:=I;have hf:=OG (mb:=b) (ab:=ab) (sb:=b2) (st:=t) a m ⟨g1,g2⟩ g4 Hw I hcap hX I hin;have hr':LQ [n,YL v a m x] b (Dy b ab n++EY ab (pat B a X)):=⟨n,_,ab,_,rfl,g1,g2,rfl,by rw[Ie hle,g4],Fp (Fp (g5.take _) Ix) (MV g5 _),by rw[<-Oe g5 hle,g6,Hw,sr]⟩
     intro A U w hs;have hs':Ds A w ([Dy b ab n,EY ab B,A7 b2 cs t]++(((p.live.erase k).erase j).map p.C++U)):=by have:=hs.perm (hS.append_right U);exact this.flat DI
     refine(hf A _ w hs').mono ?_;rintro e' w' ⟨h0,S',hs1,rfl,rfl⟩;refine⟨h0,(Dy b ab n++EY ab (pat B a X))::(p.live.erase k).map p.C,?_,.inl ⟨_,_,AP.2 J,p.set k (.res 0 [n,YL v a m x]) (Dy b ab n++EY ab (pat B a X)),_,rfl,rfl,rfl,.set p k _ _,hp.set hlive (.res hρ ((hM _ _ _).2 hr')),Ea _ 0,rfl⟩⟩;have e1:=Pt.Lx (p:=p) (k:=k) (j:=j) (Dy b ab n++EY ab (pat B a X)) HC hne;rw[hC2]at e1;refine Ds.perm ?_ (e1.append_right U);exact hs1.flat DI
    ·cases hc
   ·cases hc
  ·cases hc
 ·cases hc
theorem aBA:ET Tryz.prog RS 335 xJ:=by
 intro args s rs hc p hst hp vs hvs;subst hst;unfold xJ at hc;split at hc
 ·rename_i k aa ma;split at hc
  ·rename_i n v hm;split at hc
   ·rename_i a ha;split at hc
    ·rename_i m hma;cases hcond:Nat.ble (Nat.add a m) (Nat.mul 128 n)&&Nat.blt 0 m&&Nat.ble m 1000&&p.st.room<;>rw[hcond]at hc<;>simp only[AN,AO,reduceCtorEq,AH]at hc;subst hc;simp only[AI]at hcond;have hin:a+m<=128*n:=AL hcond.1.1.1;have hm0:0<m:=by simpa using hcond.1.1.2
     have hm1:=AL hcond.1.2;have hroom:=hcond.2;have hget:=Il hm;cases hvs with|cons h1 hvs=>cases hvs with|cons h2 hvs=>cases hvs with|cons h3 hvs=>
     cases hvs;obtain rfl:=Nu ha h2;obtain rfl:=Gw hma h3;obtain⟨hlive,hcb⟩:=hp.mem hget;generalize hC:p.C k=ck at hcb;cases hcb with| @res _ b c _ comp hρ hr=>
     cases h1 with|Au h1=>
     rw[hρ]at h1;cases h1;obtain⟨n',v',ab,B,e,g1,g2,rfl,g4,g5,g6⟩:=(hM _ _ _).1 hr;cases e;have hS:=hp.H.pick hlive;rw[hC]at hS;intro A U w hs;have hs':Ds A w ([Dy b ab n,EY ab B]++((p.live.erase k).map p.C++U)):=by have:=hs.perm (hS.append_right U);exact this.flat DI
     refine(ZC a m g2 g4 I I I hin A _ w hs').mono ?_;rintro e' w' ⟨h0,S',hs1,⟨nb,cap,ex⟩,⟨hj1,hj2⟩,rfl,rfl⟩;dsimp only at hj1 hj2 hs1⊢;have hcon:Da RS (p.ρ++[(nb,cap)]) p.st.nx (.grown (MD v m a) 5 1) (A7 nb (bs (cut B a m)++ex) 5):=by
      refine .grown (Pt.EZ hp _) ?_ ?_
      ·rw[<-g6];exact ME g5 m a I
      ·rw[Aa,F9 I];omega
     refine⟨h0,A7 nb (bs (cut B a m)++ex) 5::p.S,?_,.inl ⟨_,_,AP.2 J,p.new (nb,cap) (.grown (MD v m a) 5 1) (A7 nb (bs (cut B a m)++ex) 5),_,rfl,rfl,rfl,.new hp _ _ _,hp.new hroom _ hcon,.Ec (.cons (.G3 (Pt.EZ hp _) hj1) (.cons (Ea _ 0) .nil)),rfl⟩⟩;have hs2:Ds A w' ((A7 nb (bs (cut B a m)++ex) 5::(Dy b ab n++EY ab B)::(p.live.erase k).map p.C)++U):=hs1.flat DI;exact hs2.perm ((List.Perm.cons _ hS.symm).append_right U)
    ·cases hc
   ·cases hc
  ·cases hc
 ·cases hc
end
end
end Go.Proofs.YtfekkjbdcdnhlaaGreatDoor.Sep
