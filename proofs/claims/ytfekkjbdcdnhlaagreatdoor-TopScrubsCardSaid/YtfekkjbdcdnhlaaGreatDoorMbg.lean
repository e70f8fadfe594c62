/- Lemmas for TopScrubs. No condition but those that each states. -/
import Derived.Test.YtfekkjbdcdnhlaaGreatDoorMbe
import Derived.Test.YtfekkjbdcdnhlaaGreatDoorMbd
set_option linter.all false
set_option maxHeartbeats 8000000
set_option maxRecDepth 100000
namespace Go.Proofs.YtfekkjbdcdnhlaaGreatDoor.Sep
noncomputable section
variable{b0:Nat}{comp:List CH}
theorem Wh(hth:Fn Tryz.prog 65 [Au b0] [comp] (E4 (.bool true) [comp])):Fn Tryz.prog 274 [Au b0] [comp] (E4 (.bool true) [comp]):=by
 refine Fn.of Tryz.func274 J J [_] J ?_;refine W ?_;refine DL.BS J J J pK (aBE hth) kR aP kO ?_
 (refine W ?_;intro b)
 refine DL.Bj tt J J J J uP (by rw[Aa];rfl) (BV _) HS kO ?_;exact W trivial
theorem Zk{p:Nat}(hp:p<1000):Fn Tryz.prog 276 [.int .i64 (p:Int)] [] (Dv (ι:=Z8) (fun i=>8<=i.2.1/\i.2.2.length=i.2.1-8) (fun i=>.slice (some ⟨i.1,0,none⟩) 8 i.2.1) (fun i=>[II i.1 (Ek p 8) i.2.2])):=by refine Fn.of Tryz.func276 J J [_] J ?_;refine W ?_;refine DL.call J J J (.nil) (eY (n:=(p:Int)) I I) kR (fun ch S1 hc=>by obtain⟨_,_,_,_,_,hc,_⟩:=hc;cases hc) ?_;rintro v S1 ⟨b,cap,ex,h1,h2,hv,rfl⟩;cases hv;refine⟨D9,?_⟩;simp only[AQ,AS,Dc];refine W ?_;exact BD (b,cap,ex) ⟨h1,h2⟩ (DC (RV.tmp J)) pK
abbrev p3(wb ED b2 b3:Nat):List Value:=[.slice (some ⟨wb,0,none⟩) 8 ED,.slice (some ⟨b2,0,none⟩) 32 32,.slice (some ⟨b3,0,none⟩) 32 32]
def sum3:Nat->Nat
 |0=>0|1=>8|2=>40|_=>72
def qC(AG A B:List Int):Nat->List Int
 |0=>[]|1=>AG|2=>AG++A|_=>AG++A++B
variable{AG A B:List Int}{IU:List Value}
theorem aDw{bp wb ED b2 b3:Nat}(hW:AG.length=8)(hA:A.length=32)(hB:B.length=32):
 Fn Tryz.prog 250 [.slice (some ⟨bp,0,none⟩) 3 3] [A7 bp (p3 wb ED b2 b3) 53,II wb AG IU,A7 b2 (bs A) 23,A7 b3 (bs B) 23] (Dv (ι:=Value×List CH) (fun i=>IK (AG++A++B) i.1 i.2) (fun i=>i.1) (fun i=>[i.2,A7 bp (p3 wb ED b2 b3) 53,II wb AG IU,A7 b2 (bs A) 23,A7 b3 (bs B) 23])):=by
 have tW:((bs AG++IU).drop 0).take 8=bs AG:=by rw[BL,Ar (by rw[Aa,hW];exact Ao _),AX (by rw[Aa,hW];exact Ao _)]
 have tA:((bs A).drop 0).take 32=bs A:=by rw[BL,AX (by rw[Aa,hA];exact Ao _)]
 have tB:((bs B).drop 0).take 32=bs B:=by rw[BL,AX (by rw[Aa,hB];exact Ao _)]
 refine Fn.of Tryz.func250 J J [_] J ?_;refine W ?_;refine CW.loop (ι:=Nat) (fun i=>3-i) (fun i=>i<=3) (fun i=>[(0,.slice (some ⟨bp,0,none⟩) 3 3),(9,.slice (some ⟨bp,0,none⟩) 3 3),(10,.int .i64 3),(11,.int .i64 i),(3,.int .i64 ((sum3 i:Nat):Int))]) (fun i=>[A7 bp (p3 wb ED b2 b3) 53,II wb AG IU,A7 b2 (bs A) 23,A7 b3 (bs B) 23]) 0 I sF pK ?_;intro i hi;have hcase:i=0\/i=1\/i=2\/i=3:=I;rcases hcase with rfl|rfl|rfl|rfl
 ·rw[show sum3 0=0 from rfl];refine W ?_;refine DL.C3 tt 0 J J J J J J Ba ?_;refine W ?_;exact⟨1,_,Ba,Ba,sF,pK⟩
 ·rw[show sum3 1=8 from rfl];refine W ?_;refine DL.C3 tt 1 J J J J J J Ba ?_;refine W ?_;exact⟨2,_,Ba,Ba,sF,pK⟩
 ·rw[show sum3 2=40 from rfl];refine W ?_;refine DL.C3 tt 2 J J J J J J Ba ?_;refine W ?_;exact⟨3,_,Ba,Ba,sF,pK⟩
 ·rw[show sum3 3=72 from rfl];refine W ?_;refine DL.B7 J J J .nil (grow (m:=72) Ba Ba) kR (fun _=>aP) (fun _=>kO) ?_;rintro⟨gb,X4,iy⟩ ⟨g1,g2⟩;dsimp only at g1 g2⊢;refine W ?_;refine CW.loop (ι:=Nat×Value×List CH) (fun i=>3-i.1) (fun i=>i.1<=3/\IK (qC AG A B i.1) i.2.1 i.2.2) (fun i=>[(25,.slice (some ⟨bp,0,none⟩) 3 3),(26,.int .i64 3),(27,.int .i64 (i.1:Int)),(6,i.2.1)]) (fun i=>[i.2.2,A7 bp (p3 wb ED b2 b3) 53,II wb AG IU,A7 b2 (bs A) 23,A7 b3 (bs B) 23]) (0,.slice (some ⟨gb,0,none⟩) 0 X4,A7 gb iy 5) ⟨by dsimp only;omega,.inr ⟨gb,X4,iy,rfl,by simp[qC],by simp[qC,g2],by simp[qC,bs]⟩⟩ sF pK ?_;rintro⟨r,v,c⟩ ⟨h1,h2⟩;dsimp only at h1 h2⊢;have hcase:r=0\/r=1\/r=2\/r=3:=I;rcases hcase with rfl|rfl|rfl|rfl
  ·have h2:IK ([]) v c:=h2;obtain⟨p,cap,rfl⟩:=h2.form;refine W ?_;refine DL.C3 tt 0 J J J J J J Ba ?_;refine W ?_;refine Js tt (v:=.slice p ([]).length cap) (X:=[]) (c:=c) (Y:=AG) J J J W5 J h2 Es (DO.slice (news:=bs AG) tt J iN tW (by rw[Aa,hW]) (BV _)) Ba hW (by simp[hW,hA,hB]) (by simp[hW,hA,hB]) (fun _=>kO) ?_;intro v3 c3 hc3;refine W ?_;exact⟨(1,v3,c3),_,(by dsimp only;omega),⟨(by dsimp only;omega),hc3⟩,sF,pK⟩
  ·have h2:IK (AG) v c:=h2;obtain⟨p,cap,rfl⟩:=h2.form;refine W ?_;refine DL.C3 tt 1 J J J J J J Ba ?_;refine W ?_;refine Js tt (v:=.slice p (AG).length cap) (X:=AG) (c:=c) (Y:=A) J J J W5 J h2 Es (DO.slice (news:=bs A) tt J iN tA (by rw[Aa,hA]) (BV _)) Ba hA (by simp[hW,hA,hB]) (by simp[hW,hA,hB]) (fun _=>kO) ?_;intro v3 c3 hc3;refine W ?_;exact⟨(2,v3,c3),_,(by dsimp only;omega),⟨(by dsimp only;omega),hc3⟩,sF,pK⟩
  ·have h2:IK (AG++A) v c:=h2;obtain⟨p,cap,rfl⟩:=h2.form;refine W ?_;refine DL.C3 tt 2 J J J J J J Ba ?_;refine W ?_;refine Js tt (v:=.slice p (AG++A).length cap) (X:=AG++A) (c:=c) (Y:=B) J J J W5 J h2 Es (DO.slice (news:=bs B) tt J iN tB (by rw[Aa,hB]) (BV _)) Ba hB (by simp[hW,hA,hB]) (by simp[hW,hA,hB]) (fun _=>kO) ?_;intro v3 c3 hc3;refine W ?_;exact⟨(3,v3,c3),_,(by dsimp only;omega),⟨(by dsimp only;omega),hc3⟩,sF,pK⟩
  ·have h2:IK (AG++A++B) v c:=h2;refine W ?_;exact BD (v,c) h2 (DC (RV.tmp J)) pK
theorem qD{bp wb ED b2 b3:Nat}(hW:AG.length=8)(hA:A.length=32)(hB:B.length=32):
 Fn Tryz.prog 169 [.slice (some ⟨bp,0,none⟩) 3 3] [A7 bp (p3 wb ED b2 b3) 53,II wb AG IU,A7 b2 (bs A) 23,A7 b3 (bs B) 23] (Dv (ι:=Value×List CH) (fun i=>IK (AG++A++B) i.1 i.2) (fun i=>i.1) (fun i=>[i.2,A7 bp (p3 wb ED b2 b3) 53,II wb AG IU,A7 b2 (bs A) 23,A7 b3 (bs B) 23])):=by
 refine Fn.of Tryz.func169 J J [_] J ?_;refine W ?_;refine DL.B7 J J J pK (aDw hW hA hB) kR (fun _=>aP) (fun _=>kO) ?_;rintro⟨v,c⟩ h1;dsimp only at h1⊢;refine W ?_;exact BD (v,c) h1 (DC (RV.tmp J)) pK
theorem aDx:HU (DY []) (E3 (DY []) 100000) 93 [] [] [.agg ([iv 1 1]++List.replicate 32 (D7 0)++[iv 1 16,.junk])] [(false,.boo (some true))] []=true:=kR
variable{ρ:Nm}
theorem qE:Bt ρ (List.replicate 32 (D7 0)) (bs (BQ 32)):=by
 have:∀n,Bt ρ (List.replicate n (D7 0)) (bs (BQ n)):=fun n=>by
  induction n with
  |zero=>exact .nil
  |succ n ih=>exact .cons (.int Ba Ba) ih
 exact this 32
def dD(d':List Nat)(a b:Nat)(F:A2):Ending->A2->Prop:=fun e S'=>∃c' A,e=.returned (.tuple #[.agg (bs A).toArray,.int .i64 0])/\S'=c'::F/\Im d' b c'/\A.length=32/\FB A/\nB A=a/\∀ρ:Nm,Bt ρ (MD a 32 0) (bs A)
variable{d d':List Nat}{a dm:Nat}{X:List Int}{dv:Value}
theorem xX{dC:List CH}(hr:Im d b0 comp)(hd:G9 X dv dC)(hX:FB X)(Hw:X.length<1000000)(hdm:1<=dm/\dm<=16)(h:Oc (qN 1 0 dm X.length (nB X)) d=some (a,d')):
 Fn Tryz.prog 52 [Au b0,.agg (qL 1 (BQ 32) dm dv).toArray] [comp,dC] (dD d' a b0 [dC]):=by
 have hk:(BQ 32).length=32:=Bn _;have SI:=Ee (k:=1) (dm:=dm) (dv:=dv) hk;have h1:=hd.one;have hth:=Of hr;refine Fn.of Tryz.func52 J J [_,_] J ?_
 (refine W ?_;intro b;refine W ?_;intro b;refine W ?_)
 rename_i q1;obtain⟨q2,hq2⟩:∃q2,q2=b:=⟨_,rfl⟩
 subst hq2;refine DL.BS J J J pK (hth) kR aP kO ?_;refine W ?_;refine DL.LJ tt J J J J J iN SI ?_;refine DL.B7 J J J .nil (IF aDx (vs:=[.agg (qL 1 (BQ 32) dm dv).toArray]) (.cons (.agg (by have:=((Bt.cons (ρ:=[]) (EM.int (ρ:=[]) (k:=.i64) (lo:=.ofNat 1) (hi:=.ofNat 1) (z:=1) Ba Ba) .nil).app (qE (ρ:=[]))).app (.cons (EM.int (k:=.i64) (lo:=.ofNat 1) (hi:=.ofNat 16) (z:=dm) (by show(1:Int)<=dm;omega) (by show(dm:Int)<=16;omega)) (.cons (.junk h1) .nil));exact this)) .nil) J) kR (fun _=>aP) (fun _=>kO) ?_
 intro v hv;cases hv;refine W ?_;refine DL.LJ tt J J J J J iN SI ?_;refine W ?_;refine DL.call J J J (F:=[comp,dC]) pK (lQ (k:=1) (dm:=dm) (key:=BQ 32) (cv:=.func (.func 95) #[] #[Au q1]) hr hk (fun x hx=>by simp only[BQ,D6]at hx;omega) hd hX I Ba I (by rw[Jb];exact h)) kR (fun ch S1 hc=>by obtain⟨_,_,hc,_⟩:=hc;cases hc) ?_;rintro v S1 ⟨c',A,hv,rfl,Sr,hA,nQ,hAn,hcon⟩;cases hv;refine⟨kO,?_⟩;simp only[AQ,AS,Dc];refine DL.Bj tt J J J J uP (by rw[Aa,hA]) (BV _) HS kO ?_;refine W ?_;refine⟨_,[c',dC],_,Fb (RV.D8 tt J J J (In.mem iN) (by rw[Aa,hA])) (RV.tmp J),pK,c',A,rfl,rfl,Sr,hA,nQ,hAn,hcon⟩
theorem lT{k dm:Int}(h:dv.cells= #[dv]):F6 (Kd.st [(0,1),(1,32),(33,1),(34,1)]).place sE [(0,[.int .i64 k]),(2,[.int .i64 dm]),(3,dv.cells.toList)]=some (qL k (BQ 32) dm dv):=by rw[h];simp[F6,Kd.place,E1,Aa,Bn,C4,CM,AX,BJ,qL];rfl
theorem IK.cells{X:List Int}{v:Value}{c:List CH}(h:IK X v c):v.cells= #[v]:=by rcases h with⟨_,rfl,_⟩|⟨b,cap,ex,rfl,_⟩<;>rfl
theorem s5{F:List CH}{pv:Value}(hr:Im d b0 comp)(hj:Fn Tryz.prog 169 [pv] [F] (Dv (ι:=Value×List CH) (fun i=>IK X i.1 i.2) (fun i=>i.1) (fun i=>[i.2,F])))(hX:FB X)(Hw:X.length<1000000)(hdm:1<=dm/\dm<=16)(h:Oc (qN 1 0 dm X.length (nB X)) d=some (a,d')):
 Fn Tryz.prog 184 [Au b0,.int .i64 (dm:Int),pv] [comp,F] (dD d' a b0 [F]):=by
 refine Fn.of Tryz.func184 J J [_,_] J ?_
 (refine W ?_;intro b;refine W ?_)
 refine DL.B7 J J J (F:=[F]) pK hj kR (fun _=>aP) (fun _=>kO) ?_;rintro⟨dv,c1⟩ hdv;dsimp only at hdv⊢;refine DL.build hz tt J J J J J J (lT hdv.cells) ?_;skip
 refine DL.call J J J (F:=[comp,c1]) pK (xX (dm:=dm) hr hdv.ok hX Hw hdm h) kR (fun ch S1 hc=>by obtain⟨_,_,hc,_⟩:=hc;cases hc) ?_;rintro v S1 ⟨c',A,hv,rfl,Sr,hA,nQ,hAn,hcon⟩;cases hv;refine⟨kO,?_⟩;simp only[AQ,AS,Dc];refine W ?_;refine DL.Bj tt J J J J uP (by rw[Aa,hA]) (BV _) HS kO ?_;refine W ?_;refine⟨_,[c',F],_,Fb (RV.D8 tt J J J (In.mem iN) (by rw[Aa,hA])) (RV.tmp J),pK,c',A,rfl,rfl,Sr,hA,nQ,hAn,hcon⟩
theorem qF{p:Nat}(hp:p<128):Fn Tryz.prog 275 [.int .i64 (p:Int)] [] (E4 (.bool true) []):=by refine Fn.of Tryz.func275 J J [_] J ?_;exact W trivial
theorem xY{bp wb ED:Nat}(hr:Im d b0 comp)(hW:AG.length=8)(hWA:FB AG)(hw:8<=ED/\IU.length=ED-8)(hdm:1<=dm/\dm<=16)(h:Oc (qN 1 0 dm 8 (nB AG)) d=some (a,d')):
 Fn Tryz.prog 184 [Au b0,.int .i64 (dm:Int),.slice (some ⟨bp,0,none⟩) 1 1] [comp,A7 bp [.slice (some ⟨wb,0,none⟩) 8 ED] 53,II wb AG IU] (dD d' a b0 [A7 bp [.slice (some ⟨wb,0,none⟩) 8 ED] 53,II wb AG IU]):=by
 have hj:Fn Tryz.prog 169 [.slice (some ⟨bp,0,none⟩) 1 1] [[A7 bp [.slice (some ⟨wb,0,none⟩) 8 ED] 53,II wb AG IU].flatten] (Dv (ι:=Value×List CH) (fun i=>IK AG i.1 i.2) (fun i=>i.1) (fun i=>[i.2,[A7 bp [.slice (some ⟨wb,0,none⟩) 8 ED] 53,II wb AG IU].flatten])):=by refine(ZS (bp:=bp) (wb:=wb) hW hw).Cd (F:=[]) DI ?_;rintro e S' ⟨⟨nb,cap,ex⟩,⟨h1,h2⟩,rfl,rfl⟩;exact⟨_,⟨(.slice (some ⟨nb,0,none⟩) 8 cap,II nb AG ex),.inr ⟨nb,cap,ex,by rw[hW],by rw[hW];exact h1,by rw[hW];exact h2,rfl⟩,rfl,rfl⟩,by simp⟩
 refine(s5 hr hj hWA I hdm (by rw[hW];exact h)).Cd (F:=[]) DI ?_;rintro e S' ⟨c',A,rfl,rfl,h1,h2,h3,h4,h5⟩;exact⟨_,⟨c',A,rfl,rfl,h1,h2,h3,h4,h5⟩,by simp⟩
theorem xZ{b0 a dm bp wb ED b2 b3:Nat}(hr:Im d b0 comp)(hW:AG.length=8)(hWA:FB AG)(hA:A.length=32)(hAA:FB A)(hB:B.length=32)(hBA:FB B)(hdm:1<=dm/\dm<=16)(h:Oc (qN 1 0 dm 72 (nB (AG++A++B))) d=some (a,d')):
 Fn Tryz.prog 184 [Au b0,.int .i64 (dm:Int),.slice (some ⟨bp,0,none⟩) 3 3] [comp,A7 bp (p3 wb ED b2 b3) 53,II wb AG IU,A7 b2 (bs A) 23,A7 b3 (bs B) 23] (dD d' a b0 [A7 bp (p3 wb ED b2 b3) 53,II wb AG IU,A7 b2 (bs A) 23,A7 b3 (bs B) 23]):=by
 have hj:Fn Tryz.prog 169 [.slice (some ⟨bp,0,none⟩) 3 3] [[A7 bp (p3 wb ED b2 b3) 53,II wb AG IU,A7 b2 (bs A) 23,A7 b3 (bs B) 23].flatten] (Dv (ι:=Value×List CH) (fun i=>IK (AG++A++B) i.1 i.2) (fun i=>i.1) (fun i=>[i.2,[A7 bp (p3 wb ED b2 b3) 53,II wb AG IU,A7 b2 (bs A) 23,A7 b3 (bs B) 23].flatten])):=by refine(qD (bp:=bp) (wb:=wb) (ED:=ED) (b2:=b2) (b3:=b3) (IU:=IU) hW hA hB).Cd (F:=[]) DI ?_;rintro e S' ⟨⟨v,c⟩,h1,rfl,rfl⟩;exact⟨_,⟨(v,c),h1,rfl,rfl⟩,by simp⟩
 refine(s5 hr hj (Fp (Fp hWA hAA) hBA) (by simp[hW,hA,hB]) hdm (by rw[show(AG++A++B).length=72 by simp[hW,hA,hB]];exact h)).Cd (F:=[]) DI ?_;rintro e S' ⟨c',A,rfl,rfl,h1,h2,h3,h4,h5⟩;exact⟨_,⟨c',A,rfl,rfl,h1,h2,h3,h4,h5⟩,by simp⟩
theorem xc{b0 a p:Nat}(hr:Im d b0 comp)(hp:p<128)(h:Oc (qN 1 0 6 8 p) d=some (a,d')):
 Fn Tryz.prog 188 [Au b0,.int .i64 (p:Int)] [comp] (dD d' a b0 []):=by
 obtain⟨wn,wl,wA⟩:=MW p 8;rw[Dh (show p<256^8 by omega)]at wn;have hth:=Wh (Of hr);refine Fn.of Tryz.func188 J J [_,_] J ?_
 (refine W ?_;intro b;refine W ?_)
 refine DL.BS J J J pK (hth) kR aP kO ?_;refine W ?_;refine DL.BS J J J pK (qF hp) kR aP kO ?_;refine W ?_;refine DL.B7 J J J .nil (Zk (p:=p) I) kR (fun _=>aP) (fun _=>kO) ?_;rintro⟨wb,ED,IU⟩ hw;dsimp only at hw⊢
 (refine W ?_;intro b)
 rename_i bp;refine DL.call J J J (F:=[comp,A7 b [.slice (some ⟨wb,0,none⟩) 8 ED] 53,II wb (Ek p 8) IU]) pK (xY (dm:=6) hr wl wA hw Ba (by rw[wn];exact h)) kR (fun ch S1 hc=>by obtain⟨_,_,hc,_⟩:=hc;cases hc) ?_;rintro v S1 ⟨c',A,hv,rfl,Sr,hA,nQ,hAn,hcon⟩;cases hv;refine⟨kO,?_⟩;simp only[AQ,AS,Dc];refine W ?_;refine DL.Bj tt J J J J uP (by rw[Aa,hA]) (BV _) HS kO ?_;refine W ?_;refine⟨_,[c'],_,Fb (RV.D8 tt J J J (In.mem iN) (by rw[Aa,hA])) (RV.tmp J),pK,c',A,rfl,rfl,Sr,hA,nQ,hAn,hcon⟩
variable{k:Nat}
theorem xd(hr:Im d b0 comp)(hk:1<=k/\k<128)(hA:A.length=32)(hAA:FB A)(hB:B.length=32)(hBA:FB B)(h:Oc (qN 1 0 5 72 (Nat.add k (Nat.add (Nat.shiftLeft (nB A) 64) (Nat.shiftLeft (nB B) 320)))) d=some (a,d')):
 Fn Tryz.prog 189 [Au b0,.int .i64 (k:Int),.agg (bs A).toArray,.agg (bs B).toArray] [comp] (dD d' a b0 []):=by
 obtain⟨wn,wl,wA⟩:=MW k 8;rw[Dh (show k<256^8 by omega)]at wn;have hth:=Wh (Of hr);have hN:nB (Ek (k:Int) 8++A++B)=Nat.add k (Nat.add (Nat.shiftLeft (nB A) 64) (Nat.shiftLeft (nB B) 320)):=by
  have e3:Nat.shiftLeft (nB B) 320=nB B*2^160*2^160:=(Nat.shiftLeft_add (nB B) 160 160).trans ((Nat.shiftLeft_eq _ 160).trans (congrArg (·*2^160) (Nat.shiftLeft_eq _ 160)));rw[Iy,Iy,wn,Aq,wl,hA,show Nat.shiftLeft (nB A) 64=nB A*2^64 from Nat.shiftLeft_eq _ _,e3];show k+256^8*nB A+256^(8+32)*nB B=k+(nB A*2^64+nB B*2^160*2^160)
  omega
 rw[<-hN]at h;refine Fn.of Tryz.func189 J J [_,_] J ?_
 (refine W ?_;intro b;refine W ?_;intro b;refine W ?_;intro b;refine W ?_)
 rename_i b2 b3;obtain⟨q,hq⟩:∃q,q=b:=⟨_,rfl⟩
 subst hq;refine DL.BS J J J pK (hth) kR aP kO ?_;refine W ?_;refine CW.db (id:=5) [0,1,3,4,2,5] [6,7,8,9,10] [] [] mixed hz kR pK nD nD ?_;refine W ?_;refine DL.Ld tt (l:=0) (m:=32) (c:=32) J J J J J J J .all ?_;rw[Ah Ba];refine DL.Ld tt (l:=0) (m:=32) (c:=32) J J J J J J J .all ?_;rw[Ah Ba];simp only[Nat.zero_mul,CV,Df,BM];refine DL.B7 J J J .nil (Zk (p:=k) I) kR (fun _=>aP) (fun _=>kO) ?_;rintro⟨wb,ED,IU⟩ hw;dsimp only at hw⊢
 (refine W ?_;intro b;refine W ?_)
 refine Fe (Du pK) ?_;refine DL.call J J J (F:=[comp,A7 b (p3 wb ED b2 b3) 53,II wb (Ek k 8) IU,A7 b2 (bs A) 23,A7 b3 (bs B) 23]) pK (xZ (dm:=5) hr wl wA hA hAA hB hBA Ba h) kR (fun ch S1 hc=>by obtain⟨_,_,hc,_⟩:=hc;cases hc) ?_;rintro v S1 ⟨c',D,hv,rfl,Sr,hD,ZG,hDn,hcon⟩;cases hv;refine⟨kO,?_⟩;simp only[AQ,AS,Dc];refine W ?_;refine DL.Bj tt J J J J uP (by rw[Aa,hD]) (BV _) HS kO ?_;refine W ?_;refine⟨_,[c'],_,Fb (RV.D8 tt J J J (In.mem iN) (by rw[Aa,hD])) (RV.tmp J),pK,c',D,rfl,rfl,Sr,hD,ZG,hDn,hcon⟩
theorem qG{RS:EA}{E:GI}(hE:En Tryz.prog RS E){ih:Ih}(hih:GK Tryz.prog RS ih){f:Nat}{B:List AB}{DK:List AV}{vs:List Value}{a:AV}(h:(match B7 E ih f DK (EC B)with|some [.val x s]=>zE x a&&(List.range B.length).all (fun k=> !(Gu k s.md))|_=>false)=true)(J5:Nat.ble B.length 16777216=true){S:A2}(hρ:ρ.length=B.length)(hS:S.length=B.length)(hB:∀(k:Nat) (hk:k<B.length) (hk':k<S.length),Da RS ρ k B[k] S[k])(hv:Bt ρ DK vs):
 Fn Tryz.prog f vs S (fun e S'=>∃v,e=.returned v/\S'=S/\∃ρ',EM ρ' a v):=by
 have J5:B.length<=2^24:=AL J5;split at h
 ·rename_i x s hcall;simp only[AI]at h;obtain⟨hx,hmd⟩:=h;obtain rfl:=YN hx;rw[AY]at hmd;let N:=B.length
  let C0:Nat->List CH:=fun k=>S.getD k []
  have hC0:(List.range N).map C0=S:=by
   refine List.ext_getElem (by simp[N,hS]) fun i h1 h3=> ?_
   simp[C0,BR,AZ h3]
  have pZ:∀k (hk:k<S.length),C0 k=S[k]:=fun k hk=>by simp[C0,BR,AZ hk]
  let p0:Pt:=⟨ρ,EC B,[],S,List.range N,C0⟩
  have hget:∀k,(Gf 0 B .e).get k=if k<N then B[k]? else none:=fun k=>by rw[HL I];simp[C7.FC,N]
  have hp0:p0.good RS:=by
   refine⟨fun s a hs=>by simp[p0,EC,C7.FC]at hs,⟨hρ,Bc,fun k hk=>Ak.1 hk,?_,fun k ab hk=> ?_⟩,J5⟩
   ·show S.Perm ((List.range N).map C0);rw[hC0]
   ·have hk':(Gf 0 B .e).get k=some ab:=hk;rw[hget]at hk';by_cases hkN:k<N
    ·rw[BE hkN]at hk';obtain⟨_,e⟩:=Ae.1 hk';subst e;have gZ:k<S.length:=by rw[hS];exact hkN
     refine⟨Ak.2 hkN,?_⟩;have:=hB k hkN gZ;show Da RS ρ k _ (C0 k);rw[pZ k gZ];exact this
    ·rw[Ah hkN]at hk';cases hk'
  have hfn:=(FD hE hih hp0 hcall).2 vs hv;intro A U w hs;refine(hfn A U w hs).mono ?_;rintro e w' ⟨hw,S',hs1,hret⟩;refine⟨hw,?_⟩;rcases hret with⟨a1,s',hm,q,v,e1,_,rfl,hto,hgood,hcon,rfl⟩|⟨a1,s',hm,_⟩
  ·simp only[AP,R1.val.injEq]at hm;obtain⟨rfl,rfl⟩:=hm;have hin:∀k,k<N->k∈q.live/\q.C k=C0 k:=fun k hk=>hto.kept k (Ak.2 hk) (fun hm=>by rw[e1]at hm;have:=hmd k (Ak.2 hk);rw[FZ.2 hm]at this;cases this)
   let rest:=q.live.filter (fun k=> !decide (k<N))
   have hperm:q.live.Perm (List.range N++rest):=by
    have e1:q.live.Perm (q.live.filter (fun k=>decide (k<N))++rest):=(CO _ _).symm;refine e1.trans (Bm _ ?_);refine(B8 (hgood.H.nd.filter _) Bc).2 fun k=> ?_
    simp only[Bh,Ak,decide_eq_true_eq];exact⟨fun hk=>hk.2,fun hk=>⟨(hin k hk).1,hk⟩⟩
   have hmap:(List.range N).map q.C=S:=by rw[<-hC0];exact BB fun k hk=>(hin k (Ak.1 hk)).2
   have vT:q.S.Perm (rest.map q.C++S):=by refine hgood.H.perm.trans ?_;have:=hperm.map q.C;rw[Ai,hmap]at this;exact this.trans CC
   have h5:=hs1.perm (vT.append_right U);rw[AU]at h5;exact⟨S,h5.drops,v,rfl,rfl,_,hcon⟩
  ·simp at hm
 ·cases h
theorem T0:∀{n p:Nat} {t t':C7 Nat} {d d':List Nat},p+n<=128->Wb n p t d=some (t',d')->∀k,k<128+p->t'.get k=t.get k
 |0,p,t,t',d,d',_,h,k,hk=>by simp only[Wb,AH,Af]at h;rw[h.1]
 |n+1,p,t,t',d,d',hp,h,k,hk=>by
  rw[Wb]at h;split at h
  ·rename_i a d1 ha;have e:Nat.add 128 p=128+p:=rfl;rw[T0 (by show p+1+n<=128;omega) h k (by show k<128+(p+1);omega),C7.get_put 24 _ _ _ _ (by rw[e];omega),Ah (by rw[e];omega)]
  ·cases h
theorem MY:∀{k:Nat} {t t':C7 Nat} {d d':List Nat},k<128->Wc k t d=some (t',d')->∀j,k<j->t'.get j=t.get j
 |0,t,t',d,d',_,h,j,hj=>by simp only[Wc,AH,Af]at h;rw[h.1]
 |k+1,t,t',d,d',hk,h,j,hj=>by
  rw[Wc]at h;split at h
  ·split at h
   ·split at h
    ·rw[MY I h j I,C7.get_put 24 _ _ _ _ (by show k+1<_;omega),Ah (by show j≠k+1;omega)]
    ·cases h
   ·cases h
  ·cases h
def aDz(t:C7 Nat)(d1:List Nat)(t2:C7 Nat)(d2:List Nat)(ob m:Nat)(oc:List CH):Prop:=(m<=128/\∃t' d',Wb (128-(m-1)) (m-1) t' d'=some (t,d1)/\Im d' ob oc)\/(129<=m/\m<=256/\∃t' d',Wc (256-m) t' d'=some (t2,d2)/\(∀j,256-m<j->j<256->t'.get j=t2.get j)/\Im d' ob oc)
def aDA(t2:C7 Nat)(k:Nat)(dg:List Int):Prop:=∃a,t2.get k=some a/\dg.length=32/\FB dg/\nB dg=a/\∀ρ:Nm,Bt ρ (MD a 32 0) (bs dg)
def aDB(t2:C7 Nat)(nd n v' mb k:Nat)(mc:List CH):Prop:=k<=254/\∃v0,lI nd t2 (254-k) (2+k) v0=some v'/\LQ [n,v0] mb mc
def lxA:List (Nat×F5):=[(65,x65),(23,x23)]
def RSX:EA:=fun i d b cs=>if i=2 then Im d b cs else if i=0 then LQ d b cs else True
theorem lY:Ol Tryz.prog RSX lxA:=⟨⟨aBB (fun d b cs=>by simp[RSX]),Ba,kR⟩,⟨aBx (fun d b cs=>by simp[RSX]),Ba,kR⟩,trivial⟩
theorem aBF(v:Nat)(d:List Nat):(match B7 (DY lxA) (E3 (DY lxA) 100000) 187 [.Au 1 0,.Au 0 0,BZ 12800,Cb 0] (EC [.res 0 [170,v],.res 2 d])with|some [.val x s]=>zE x (Cb 0)&&(List.range [AB.res 0 [170,v],.res 2 d].length).all (fun k=> !(Gu k s.md))|_=>false)=true:=kR
variable{v ob mb:Nat}{oc mc:List CH}
theorem xh(hO:Im d ob oc)(hM:LQ [170,v] mb mc):Fn Tryz.prog 187 [Au ob,Au mb,.int .u64 12800,.int .i64 0] [oc,mc] (E4 (.int .i64 0) [oc,mc]):=by
 refine(qG (DU lY) (FG (DU lY) 100000) (aBF v d) J (ρ:=[(mb,0),(ob,0)]) (S:=[mc,oc]) J J (fun k hk hk'=> ?_) (.cons (.Au J) (.cons (.Au J) (.cons (.int Ba Ba) (.cons (.int Ba Ba) .nil))))).Cd (F:=[]) (by
  refine C2 fun _ x=> ?_
  simp only[AW,A0,Am,AQ,AS,Ax];omega) ?_
 ·match k,hk,hk' with
  |0,_,_=>exact .res (b:=mb) (c:=0) J (by simp only[RSX];exact hM)
  |1,_,_=>exact .res (b:=ob) (c:=0) J (by simp only[RSX];exact hO)
 ·rintro e S' ⟨x,rfl,rfl,ρ',hc⟩;cases hc with|int a1 a2=>
  rename_i z;obtain rfl:z=0:=by have b1:(0:Int)<=z:=a1;have b2:z<=0:=a2;omega
  refine⟨_,⟨rfl,rfl⟩,?_⟩;refine C2 fun _ x=> ?_
  simp only[AW,A0,Am,AQ,AS,Ax];omega
theorem qH{nd:Nat}(h:nd+32*k<18446744073709551616):Fn Tryz.prog 191 [.int .u64 (nd:Int),.int .i64 (k:Int)] [] (E4 (.int .u64 ((nd+32*k:Nat):Int)) []):=by refine Fn.of Tryz.func191 J J [_] J ?_;exact W trivial
theorem aBG{d1 d2:List Nat}{t t2:C7 Nat}{r v':Nat}(hO:Im d ob oc)(hM:LQ [170,v] mb mc)(h1:Wb 128 0 .e d=some (t,d1))(h2:Wc 127 t d1=some (t2,d2))(hr:t2.get 1=some r)(h3:lI 12800 t2 254 2 v=some v'):
 Fn Tryz.prog 124 [Au ob,Au mb,.int .u64 ((12800:Nat):Int)] [oc,mc] (fun e S'=>∃c1 c2 A,e=.returned (.tuple #[.agg (bs A).toArray,.int .i64 0])/\S'=[c1,c2]/\Im d2 ob c1/\LQ [170,v'] mb c2/\∀ρ:Nm,Bt ρ (MD r 32 0) (bs A)):=by
 refine(jz (nd:=((12800:Nat):Int)) (ov:=Au ob) (mv:=Au mb) (O:=aDz t d1 t2 d2 ob) (Mm:=aDB t2 12800 170 v' mb) (Dg:=aDA t2) (PL:=fun k v=>v=((12800+32*k:Nat):Int)) (E:=fun e=>e=0) (fun _ _ h=>by obtain⟨_,_,h,_⟩:=h;exact h) ?_ ?_ ?_ ?_ ?_ (.inl ⟨Ba,.e,d,h1,hO⟩) ⟨Ba,v,h3,hM⟩).mono ?_
 ·rintro oc mc (⟨_,t',d',g1,g2⟩|⟨g,_⟩) ⟨_,v0,g3,g4⟩
  ·refine(xh g2 g4).mono ?_;rintro e S' ⟨rfl,rfl⟩;exact⟨(0,oc,mc),⟨rfl,.inl ⟨Ba,t',d',g1,g2⟩,Ba,v0,g3,g4⟩,rfl,rfl⟩
  ·omega
 ·rintro p oc hp (⟨_,t',d',g1,g2⟩|⟨g,_⟩)
  ·rw[show 1+p-1=p by omega,show 128-p=(127-p)+1 by omega,Wb]at g1;split at g1
   ·rename_i a d'' ha;refine(xc g2 hp ha).mono ?_;rintro e S' ⟨c',A,rfl,rfl,k1,k2,k3,k4,k5⟩;have e1:Nat.succ p=p+1:=rfl;have e2:Nat.add 128 p=128+p:=rfl;have hget:t.get (128+p)=some a:=by rw[T0 (by show p+1+(127-p)<=128;omega) g1 (128+p) (by show 128+p<128+(p+1);omega),e2,C7.get_put 24 _ _ _ _ I,BE J]
    refine⟨(A,0,c'),⟨⟨a,?_,k2,k3,k4,k5⟩,?_⟩,rfl,rfl⟩
    ·rw[MY Ba h2 (128+p) I];exact hget
    ·by_cases hp2:2+p<=128
     ·exact .inl ⟨hp2,_,_,by rw[show 2+p-1=p+1 by omega,show 128-(p+1)=127-p by omega];exact g1,k1⟩
     ·obtain rfl:p=127:=I;have g1':some (t'.put 24 (Nat.add 128 127) (some a),d'')=some (t,d1):=g1;simp only[AH,Af]at g1';obtain⟨g3,g4⟩:=g1';subst g4;exact .inr ⟨Ba,Ba,t,d'',h2,fun j h5 h6=>(MY Ba h2 j I).symm,k1⟩
   ·cases g1
  ·omega
 ·rintro k a b oc hk1 hk2 ⟨a',ha1,ha2,ha3,sd,ha5⟩ ⟨b',hb1,hb2,hb3,hb4,hb5⟩ (⟨g,_⟩|⟨_,_,t',d',g1,g2,g3⟩)
  ·omega
  ·obtain⟨k,rfl⟩:∃k',k=k'+1:=⟨k-1,I⟩
   rw[show 256-(256-(k+1))=k+1 by omega]at g1 g2;have e1:Nat.mul 2 (Nat.succ k)=2*(k+1):=rfl;have e2:Nat.add (Nat.mul 2 (Nat.succ k)) 1=2*(k+1)+1:=rfl;rw[Wc,e1,g2 (2*(k+1)) I I,ha1]at g1;dsimp only at g1;rw[show Nat.add (2*(k+1)) 1=2*(k+1)+1 from rfl,g2 (2*(k+1)+1) I I,hb1]at g1;dsimp only at g1;split at g1
   ·rename_i x d'' hx;refine(xd (k:=k+1) g3 I ha2 ha3 hb2 hb3 (by rw[sd,hb4];exact hx)).mono ?_;rintro e S' ⟨c',A,rfl,rfl,k1,k2,k3,k4,k5⟩;have hget:t2.get (k+1)=some x:=by rw[MY I g1 (k+1) I,C7.get_put 24 _ _ _ _ (by show k+1<_;omega),BE J]
    refine⟨(A,0,c'),⟨⟨x,hget,k2,k3,k4,k5⟩,.inr ⟨I,I,_,_,by rw[show 256-(256-(k+1)+1)=k by omega];exact g1,fun j h5 h6=> ?_,k1⟩⟩,rfl,rfl⟩;have e3:Nat.succ k=k+1:=rfl;rw[e3,C7.get_put 24 _ _ _ _ I];by_cases hj:j=k+1
    ·rw[BE hj,hj,hget]
    ·rw[Ah hj];exact g2 j I h6
   ·cases g1
 ·intro k hk1 hk2;refine(qH (nd:=12800) (k:=k) I).mono ?_;rintro e S' ⟨rfl,rfl⟩;exact⟨_,rfl,rfl,rfl⟩
 ·rintro k v1 dg mc sb so cs hk1 hk2 rfl ⟨a,ha1,ha2,ha3,sd,ha5⟩ hcs ⟨g0,v0,g1,g2⟩;rw[show 2+(k-2)=k by omega,show 254-(k-2)=(255-k)+1 by omega,lI,ha1]at g1;dsimp only at g1;obtain⟨n',v'',ab,B,e,q1,q2,q3,q4,q5,q6⟩:=g2;cases e;subst q3;have hle:12800+32*k+dg.length<=B.length:=I;refine(OG (mb:=mb) (ab:=ab) (n:=170) (B:=B) (X:=dg) (sb:=sb) (so:=so) (cap:=32) (st:=304) (nM:=cs) (12800+32*k) 32 ⟨Ba,Ba⟩ q4 ha2 Ba Ba hcs I I).Cd (F:=[]) DI ?_;rintro e S' ⟨rfl,rfl⟩;refine⟨_,⟨(0,Dy mb ab 170++EY ab (pat B (12800+32*k) dg)),⟨I,_,?_,170,_,ab,_,rfl,q1,q2,rfl,?_,?_,rfl⟩,rfl,rfl⟩,by simp⟩
  ·rw[show 254-(k-1)=255-k by omega,show 2+(k-1)=Nat.succ k by omega];have e4:=Oe q5 hle;rw[q6,ha2,sd]at e4;have e5:Nat.add 12800 (Nat.mul 32 k)=12800+32*k:=rfl;rw[e5,e4]at g1;exact g1
  ·rw[Ie hle,q4]
  ·exact Fp (Fp (q5.take _) ha3) (MV q5 _)
 ·rintro e S' ⟨⟨A,er,oc',mc'⟩,h,rfl,rfl⟩;dsimp only at h;rcases h with⟨g1,g2,_⟩|⟨rfl,⟨a,ha1,ha2,ha3,sd,ha5⟩,g3,_,v0,g4,g5⟩
  ·exact absurd g2 g1
  ·rw[hr]at ha1;cases ha1;have g4':some v0=some v':=g4;cases g4';rcases g3 with⟨g,_⟩|⟨_,_,t',d',g6,_,g7⟩
   ·omega
   ·have g6':some (t',d')=some (t2,d2):=g6;cases g6';exact⟨oc',mc',A,rfl,rfl,g7,g5,ha5⟩
section
variable{RS:EA} (hO:∀d b cs,RS 2 d b cs↔Im d b cs) (hM:∀d b cs,RS 0 d b cs↔LQ d b cs)
include hO hM
theorem aBH:ET Tryz.prog RS 124 xQ:=by
 intro args s rs hc p hst hp vs hvs;subst hst;unfold xQ at hc;split at hc
 ·rename_i o m nda;split at hc
  ·rename_i d hd;split at hc
   ·rename_i n v hm;split at hc
    ·rename_i nd hnd;cases hb:Nat.beq nd 12800&&Nat.beq n 170<;>rw[hb]at hc<;>simp only[AN,AO,reduceCtorEq]at hc;rw[AI]at hb;obtain rfl:=AK hb.1;obtain rfl:=AK hb.2;split at hc
     ·rename_i t d1 h1;split at hc
      ·rename_i t2 d2 h2;split at hc
       ·rename_i r hr;split at hc
        ·rename_i v' h3;cases hc;have hgo:=MX hd;have hgm:=Il hm;have hne:m≠o:=fun e=>by subst e;rw[hgo]at hgm;cases hgm
         cases hvs with|cons a1 hvs=>cases hvs with|cons a2 hvs=>cases hvs with|cons a3 hvs=>
         cases hvs;cases a1 with|Au a1=>
         cases a2 with|Au a2=>
         obtain rfl:=Nu hnd a3;obtain⟨hlo,hco⟩:=hp.mem hgo;obtain⟨hlm,hcm⟩:=hp.mem hgm;have hS:=Pt.two hp hlo hlm hne;generalize hCo:p.C o=co at hco;generalize hCm:p.C m=cm at hcm;cases hco with| @res _ b c _ cs0 hρ hr2=>
         cases hcm with| @res _ b' c' _ cs1 E8 hr0=>
         rw[hρ]at a1;cases a1;rw[E8]at a2;cases a2;rw[hCo,hCm]at hS;refine(aBG ((hO _ _ _).1 hr2) ((hM _ _ _).1 hr0) h1 h2 hr h3).Cd (F:=((p.live.erase o).erase m).map p.C) (by have:=hS.flatten;simpa using this) ?_;rintro e S' ⟨c1,c2,A,rfl,rfl,k1,k2,k3⟩;have hp2:=hp.set hlo (ab:=.res 2 d2) (c:=c1) (.res hρ ((hO _ _ _).2 k1));have hp3:=hp2.set hlm (ab:=.res 0 [170,v']) (c:=c2) (.res E8 ((hM _ _ _).2 k2));refine⟨_,.inl ⟨_,_,AP.2 J,(p.set o (.res 2 d2) c1).set m (.res 0 [170,v']) c2,_,rfl,rfl,rfl,Pt.to.trans (.set p o _ _) (.set _ m _ _),hp3,.Ec (.cons (.agg (k3 _)) (.cons (Ea _ 0) .nil)),rfl⟩,?_⟩;show(c2::(p.live.erase m).map (Jw p.C o c1)).flatten.Perm _;have hnd:=hp.H.nd;have hom:o∈p.live.erase m:=(Be (Ne.symm hne)).2 hlo;have e1:((p.live.erase m).map (Jw p.C o c1)).Perm (c1::((p.live.erase m).erase o).map p.C):=by have h5:=(CL hom).map (Jw p.C o c1);rw[Ap,IS]at h5;refine h5.trans (List.Perm.cons _ ?_);rw[BB fun k hk=>Gj p.C c1 (fun e=>by subst e;exact((hnd.erase m).not_mem_erase) hk)]
         have e2:=(List.Perm.cons c2 e1).flatten;rw[List.erase_comm]at e2;refine e2.trans ?_;refine C2 fun _ x=> ?_
         simp only[AW,A0,Am,AQ,AS,Ax];omega
        ·cases hc
       ·cases hc
      ·cases hc
     ·cases hc
    ·cases hc
   ·cases hc
  ·cases hc
 ·cases hc
end
end
end Go.Proofs.YtfekkjbdcdnhlaaGreatDoor.Sep
