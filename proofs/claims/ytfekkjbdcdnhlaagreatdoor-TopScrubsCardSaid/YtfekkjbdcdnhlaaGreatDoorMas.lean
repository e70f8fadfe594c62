/- Lemmas for TopScrubs. No condition but those that each states. -/
import Derived.Test.YtfekkjbdcdnhlaaGreatDoorMap
set_option linter.all false
set_option maxHeartbeats 8000000
set_option maxRecDepth 100000
namespace Go.Proofs.YtfekkjbdcdnhlaaGreatDoor.Sep
noncomputable section
def IK(X:List Int)(v:Value)(c:List CH):Prop:=(X=[]/\v=.slice none 0 0/\c=[])\/∃b cap ex,v=.slice (some ⟨b,0,none⟩) X.length cap/\X.length<=cap/\ex.length=cap-X.length/\c=A7 b (bs X++ex) 5
variable{X:List Int}{v:Value}
theorem IK.form{c:List CH}(h:IK X v c):∃p cap,v=.slice p X.length cap:=by
 rcases h with⟨rfl,rfl,_⟩|⟨b,cap,ex,rfl,_⟩
 ·exact⟨none,0,rfl⟩
 ·exact⟨_,cap,rfl⟩
theorem IK.ok{c:List CH}(h:IK X v c):G9 X v c:=by
 rcases h with⟨rfl,rfl,rfl⟩|⟨b,cap,ex,rfl,h1,h2,rfl⟩
 ·exact .inl ⟨rfl,rfl,rfl⟩
 ·exact .inr ⟨b,0,cap,_,_,rfl,h1,rfl,by rw[BL,Ar (by rw[Aa];exact Ao _),AX (by rw[Aa];exact Ao _)]⟩
theorem IK.nil:IK [] (.slice none 0 0) []:=.inl ⟨rfl,rfl,rfl⟩
section
variable{P:Program} {T:Tr} {n:Nat} {K:Option A2} {Q:EX} {fr:Fr} {S:A2} {rest:List FO}
variable{i ty:Nat} {pos:String} {af:Array Edge} {gd g:Option (Nat×Bool)} {d:Nat}
variable{sz:Nat}{U:A2}
theorem Js(hT:Dp P T=true){ax:Array Operand}{t tx GN m:Nat}{x:Value}{Y:List Int}{c:List CH}(hg:lg fr g=some true)(hn:Nat.blt d n=true)(ht:T.get t=some ⟨.sl 5 1,sz⟩)(hE:Ew P 5 1 GN=true)
 (ha:FP fr ax.toList=some [v,x]) (hv:IK X v c) (hp:Gg c S U) (hx:DO P 1 S tx x m (bs Y)) (hm:0<m) (hY:Y.length=m) (hbd:(X.length+m)*GN<=140737488355328) (hbd2:X.length+m<=9223372036854775807)
 (hK:∀c',Ge K (c'::U)) (h:∀v' c',IK (X++Y) v' c'->DL P n K Q rest ((d,v')::fr) (c'::U)):
 DL P n K Q (⟨i,⟨some d,.call ⟨.builtin .append,ax,#[t,tx]⟩,ty,pos,af,gd⟩,g⟩::rest) fr S:=by
 rcases hv with⟨rfl,rfl,rfl⟩|⟨b,cap,ex,rfl,hle,hex,rfl⟩
 ·have e:=Jv hp;refine .eff _ _ (.inl J) hg (fun e he=>by cases he;simpa using hn) (Eff.FK e (FH (xs:=[]) (ex:=[]) hT J J ht hE ha (hx.FK e) (.inl ⟨rfl,rfl,rfl,rfl,rfl,hm⟩) DI DI (Ao _) (by simpa using hbd) (by simpa using hbd2))) (fun _ _ h=>h.elim) ?_ ?_
  ·rintro v S' ⟨b',cap',ex',rfl,h1,h2,rfl⟩;exact hK _
  ·rintro v S' ⟨b',cap',ex',rfl,h1,h2,rfl⟩;exact h _ _ (.inr ⟨b',cap',ex',by simp[hY],by simp[hY];omega,by simp[hY,h1],by simp⟩)
 ·refine .eff _ _ (.inl J) hg (fun e he=>by cases he;simpa using hn) (FH (xs:=bs X) (ex:=ex) hT J J ht hE ha hx (.inr ⟨b,rfl,hp⟩) (by simp[Aa]) (by simpa using hex) hle hbd hbd2) (fun _ _ h=>h.elim) ?_ ?_
  ·rintro v S' ⟨b',cap',ex',rfl,h1,h2,rfl⟩;exact hK _
  ·rintro v S' ⟨b',cap',ex',rfl,h1,h2,rfl⟩;exact h _ _ (.inr ⟨b',cap',ex',by simp[hY],by simp[hY];omega,by simp[hY];omega,by simp[bs]⟩)
end
variable{dv:Value}{dC:List CH}
theorem Tf(hd:G9 X dv dC)(hX:X.length<1099511627776):Fn Tryz.prog 161 [dv] [dC] (Dv (ι:=Value×List CH) (fun i=>IK X i.1 i.2) (fun i=>i.1) (fun i=>[i.2,dC])):=by
 rcases hd with⟨rfl,rfl,rfl⟩|⟨b,off,cap,cs,t,rfl,hle,rfl,hx⟩
 ·refine KZ.Cd (F:=[]) DI ?_;rintro e S' ⟨rfl,rfl⟩;exact⟨_,⟨(_,[]),.nil,rfl,rfl⟩,by simp⟩
 ·refine(Qx hx (by simp[Aa]) (BV _) I).mono ?_;rintro e S' ⟨⟨b',cap',ex'⟩,⟨h1,h2⟩,rfl,rfl⟩;exact⟨(_,_),.inr ⟨b',cap',ex',rfl,h1,h2,rfl⟩,rfl,rfl⟩
theorem aAF:HU (DY []) (E3 (DY []) 100000) 93 [] [] [.agg (nN++[.junk])] [(false,.boo none)] []=true:=kR
variable{k dm:Int}{key:List Int}
theorem aAG(hq:Bt [] nN (.int .i64 k::(bs key++[.int .i64 dm])))(h1:dv.oneCell'=true):Fn Tryz.prog 93 [.agg (qL k key dm dv).toArray] [] (Dv (ι:=Bool) (fun _=>True) (fun b=>.bool b) (fun _=>[])):=by
 have hc:=Ub (RS:=fun _ _ _ _=>True) (DU (l:=[]) trivial) (FG (DU (l:=[]) trivial) 100000) [] aAF;have hv:Bt [] [.agg (nN++[.junk])] [.agg (qL k key dm dv).toArray]:=.cons (.agg (by have:=hq.app (.cons (.junk h1) .nil);simpa[qL]using this)) .nil
 let p0:Pt:=⟨[],EC [],[],[],[],fun _=>[]⟩
 have hp0:p0.good (fun _ _ _ _=>True):=⟨fun s a hs=>by simp[p0,EC,C7.FC]at hs,⟨rfl,Do,fun k hk=>by simp[p0]at hk,EI _,fun k ab hk=>by simp[p0,EC,Gf,C7.FC]at hk⟩,by simp[p0,EC]⟩
 have h:=hc _ (EC []) _ (by unfold Si;rfl) p0 J hp0 _ hv;intro A U w hs;refine(h A U w hs).mono ?_;rintro e w' ⟨h0,S',hs1,hr⟩;rcases hr with⟨a,s,hm,q,v,_,_,rfl,_,_,hcon,rfl⟩|⟨a,s,hm,_⟩
 ·simp[UY]at hm;obtain⟨rfl,rfl⟩:=hm;cases hcon;rename_i b;refine⟨h0,[],(hs1.drops),b,trivial,rfl,rfl⟩
 ·simp[UY]at hm
theorem FV.FK{P:Program}{n:Nat}{o:Oper}{fr:Fr}{S T:A2}(e:S.flatten.Perm T.flatten)(h:FV P n o fr T v):FV P n o fr S v:=fun A R a w hk hs=>h A R a w hk (hs.FK (by rw[A6,A6];exact e.append_right _))
section
variable{P:Program} {T:Tr} {n:Nat} {K:Option A2} {Q:EX} {fr:Fr} {S:A2} {rest:List FO}
variable{i ty:Nat} {pos:String} {af:Array Edge} {gd g:Option (Nat×Bool)} {d:Nat}
variable{sz:Nat}{U:A2}
theorem ZK(hT:Dp P T=true){t b off bt:Nat}{x:Operand}{cs:List Value}{kd:Kd}{c r:List CH}(hg:lg fr g=some true)(hn:Nat.blt d n=true)(ht:T.get t=some ⟨kd,sz⟩)(ha:kd.agg=false)
 (hx:Eg fr x=some (.pointer (some ⟨b,off,none⟩))) (hp:Gg c (K.getD S) U) (hc:c=A7 b cs bt++r) (hv:E1 cs off=some v) (h:DL P n K Q rest ((d,v)::fr) S):DL P n K Q (⟨i,⟨some d,.load t x,ty,pos,af,gd⟩,g⟩::rest) fr S:=by
 subst hc;refine .Ia (.inl J) hg J (by simpa using hn) (FV.FK (T:=A7 b cs bt::r::U) ?_ (VY hT J ht ha hx BH hv)) h;have:=hp.perm.flatten;simpa using this
end
variable{ob K j:Nat}{comp:List CH}
theorem WG{b:Nat}(hr:G1 ob K [j] b comp):Fn Tryz.prog 65 [Au b] [comp] (E4 (.bool true) [comp]):=by obtain⟨j',e,hb,M,D,u,es,⟨ds,kb,clk,ls,L,IH,lC,Hv,dH,rfl,hM,_⟩,_⟩:=hr;refine(Jr (b:=b) (kb:=kb) (u:=u) (ds:=ds) (ls:=ls) hM).Cd (F:=[DX Gq kb L clk,lC,Hv,dH.flatten]) DI ?_;rintro e' S' ⟨rfl,rfl⟩;exact⟨_,⟨rfl,rfl⟩,by simp⟩
theorem G9.one(h:G9 X dv dC):dv.oneCell'=true:=by rcases h with⟨_,rfl,_⟩|⟨_,_,_,_,_,rfl,_⟩<;>rfl
theorem iI(h:dv.oneCell'=true):∀u∈qL k key dm dv,u.oneCell'=true:=by
 intro u hu;simp only[qL,Ab,Aj,List.mem_nil_iff,BX]at hu;rcases hu with rfl|hu|rfl|rfl
 ·rfl
 ·exact BV _ u hu
 ·rfl
 ·exact h
def aCQ(ob K j b:Nat)(dC:List CH):Ending->A2->Prop:=fun e S'=>∃c',G1 ob K [j+4] b c'/\((∃er:Int,1<=er/\er<=2/\e=.returned (.tuple #[.slice none 0 0,.int .i64 er])/\S'=[c',dC])\/∃rb A ex,A.length=128/\BN A/\e=.returned (.tuple #[.slice (some ⟨rb,0,none⟩) 128 128,.int .i64 0])/\S'=[c',dC,A7 rb (bs A++ex) 5])
theorem aj{b0:Nat}(hK:K+j+4<=HM)(hr:G1 ob K [j] b0 comp)(hk:key.length=32)(hq:Bt [] nN (.int .i64 k::(bs key++[.int .i64 dm])))(hd:G9 X dv dC)(Ix:BN X)(Hw:X.length<=1000000):
 Fn Tryz.prog 309 [Au b0,.agg (qL k key dm dv).toArray,.int .i64 128] [comp,dC] (aCQ ob K j b0 dC):=by
 have SI:=Ee (k:=k) (dm:=dm) (dv:=dv) hk;have h1:=hd.one;have hbad:G1 ob K [j+4] b0 comp:=FQ I hr;refine Fn.of Tryz.func309 J J [_,_] J ?_
 (refine W ?_;intro b;refine W ?_;intro b;refine W ?_;refine DL.BS J J J pK (WG hr) kR aP kO ?_;refine W ?_)
 rename_i b1;obtain⟨b2,hb2⟩:∃b2,b2=b:=⟨_,rfl⟩
 subst hb2;refine DL.LJ tt J J J J J iN SI ?_;refine DL.B7 J J J .nil (aAG hq h1) kR (fun _=>aP) (fun _=>kO) ?_;rintro m-
 cases m with
 |false=>refine W ?_;exact⟨_,[comp,dC],_,Fb (RV.tmp J) (RV.tmp J),pK,comp,hbad,.inl ⟨2,Ba,Ba,rfl,rfl⟩⟩
 |true=>
  refine W ?_;by_cases hk4:k=4
  ·rw[show decide (¬k=4)=false by simp[hk4]];refine W ?_;obtain⟨M,ds,u,kb,ls,r0,hM,hcomp⟩:∃M ds u kb ls r,M.length=32/\comp=oB b0 M ds u kb ls++r:=by obtain⟨j',e,hb,M,D,u,es,⟨ds,kb,clk,ls,L,IH,lC,Hv,dH,e2,hM,_⟩,_⟩:=hr;exact⟨M,ds,u,kb,ls,[DX Gq kb L clk,lC,Hv,dH.flatten].flatten,hM,by rw[e2];simp only[AW]⟩
   refine ZK tt J J J J J (by(try simp only[EN,B0]);(repeat(first|with_reducible exact Gg.here|with_reducible apply Gg.there))) hcomp J ?_;refine W ?_;refine CW.FK (T:=[comp,A7 b2 [.int .i64 128] 3,A7 b1 (qL k key dm dv) 159,dC,[]]) DI ?_;refine CW.loop (ι:=Nat×List Int×Value×List CH×List CH) (fun i=>4-i.1) (fun i=>i.1<=4/\i.2.1.length=32*i.1/\BN i.2.1/\IK i.2.1 i.2.2.1 i.2.2.2.1/\G1 ob K [j+i.1] b0 i.2.2.2.2) (fun i=>[(0,Au b0),(4,Au b1),(5,Au b2),(8,i.2.2.1),(9,.int .u64 i.1)]) (fun i=>[A7 b2 [.int .i64 128] 3,A7 b1 (qL k key dm dv) 159,i.2.2.2.2,dC,i.2.2.2.1]) (0,[],.slice none 0 0,[],comp) ⟨by simp,rfl,(fun _ h=>by cases h),IK.nil,hr⟩ sF pK ?_;rintro⟨r,acc,v,c,Rf⟩ ⟨g1,g2,g3,g4,g5⟩;dsimp only at g1 g2 g3 g4 g5⊢;obtain⟨p,cap,rfl⟩:=g4.form;rw[g2]at g4⊢;refine W ?_;by_cases hr4:r<4
   ·refine CW.Gp J I ?_;refine W ?_;refine DL.LJ tt J J J J J iN SI ?_
    (refine W ?_;intro b)
    refine DL.Bj tt J J J J uP (by rw[SI]) (iI h1) HS kO ?_;refine W ?_;refine DL.ld1 tt J J J J J iN (KB hk) ?_;refine DL.B7 J J J (F:=[dC]) pK (Tf hd I) kR (fun _=>aP) (fun _=>kO) ?_;rintro⟨dv1,c1⟩ hc1;dsimp only at hc1⊢;refine W ?_;refine DL.B7 J J J .nil (UN (x:=(r:Int)) I) kR (fun _=>aP) (fun _=>kO) ?_;rintro⟨wb,ED,IU⟩ ⟨w1,w2⟩;dsimp only at w1 w2⊢;have hw8:=Ey (r:Int) 8;refine Js tt (v:=dv1) (X:=X) (c:=c1) (Y:=Ek r 8) J J J W5 J hc1 Es (DO.slice (news:=bs (Ek r 8)) tt J iN (by simp[Aa,hw8]) (by rw[Aa,hw8]) (BV _)) Ba (by rw[hw8]) I I (fun _=>kO) ?_;intro dv2 c2 hc2;refine W ?_;obtain⟨p2,cap2,rfl⟩:=hc2.form;refine DL.Br (cs':=qL k key dm (.slice p2 (X++Ek r 8).length cap2)) tt J J J J J uP (by simpa using KC hk _) J J (by rw[SI];decide) kO ?_;refine W ?_;refine DL.LJ tt J J J J J iN (Ee hk) ?_;refine DL.call J J J (F:=[Rf,c2]) pK (Uk (k:=k) (dm:=dm) (key:=key) (X:=X++Ek r 8) (dv:=.slice p2 (X++Ek r 8).length cap2) I g5 hk hc2.ok (MS Ix (JE _ _)) (by rw[Aq,hw8];omega)) kR (fun ch S1 hc=>by obtain⟨_,_,hc,_⟩:=hc;cases hc) ?_;rintro v S1 ⟨KJ,a,hv,rfl,hr2,ha,hab⟩;cases hv;refine⟨kO,?_⟩;simp only[AQ,AS,Dc]
    (refine W ?_;intro b)
    refine DL.Bj tt J J J J uP (by rw[Aa,ha]) (BV _) HS kO ?_;refine W ?_;refine DL.Ld tt (l:=0) (m:=32) (c:=32) J J J J J J J .all ?_;rw[Ah Ba];refine Js tt (v:=.slice p (32*r) cap) (X:=acc) (c:=c) (Y:=a) J J J W5 J g4 Es (DO.slice (news:=bs a) tt J iN (by rw[BL,AX (by rw[Aa,ha];decide)]) (by rw[Aa,ha]) (BV _)) Ba ha (by rw[g2];omega) (by rw[g2];omega) (fun _=>kO) ?_;intro v3 c3 hc3;refine W ?_;exact⟨(r+1,acc++a,v3,c3,KJ),_,by simp only;omega,⟨by simp only;omega,by simp only[Aq,g2,ha];omega,MS g3 hab,hc3,by simpa[Nat.add_assoc]using hr2⟩,sF,pK⟩
   ·refine CW.GM J I ?_;obtain rfl:r=4:=I;rcases g4 with⟨rfl,h,_⟩|⟨rb,cap',ex,h,h2,h3,rfl⟩
    ·simp at g2
    ·simp only[Value.slice.injEq]at h;obtain⟨rfl,_,rfl⟩:=h;refine W ?_;refine DL.Qj tt (l:=0) (m:=128) (c:=128) J J J J J J J (.Lc J J Ba I) ?_;rw[Ah Ba];refine W ?_;refine⟨_,[Rf,dC,A7 rb (bs acc++ex) 5],_,Fb (RV.tmp J) (RV.tmp J),pK,Rf,g5,.inr ⟨rb,acc,ex,g2,g3,rfl,rfl⟩⟩
  ·rw[show decide (¬k=4)=true by simp[hk4]];refine W ?_;exact⟨_,[comp,dC],_,Fb (RV.tmp J) (RV.tmp J),pK,comp,hbad,.inl ⟨2,Ba,Ba,rfl,rfl⟩⟩
end
end Go.Proofs.YtfekkjbdcdnhlaaGreatDoor.Sep
