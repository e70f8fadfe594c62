/- Lemmas for TopScrubs. No condition but those that each states. -/
import Derived.Test.YtfekkjbdcdnhlaaGreatDoorMbc
import Derived.Test.YtfekkjbdcdnhlaaGreatDoorMav
import Derived.Test.YtfekkjbdcdnhlaaGreatDoorMax
import Derived.Test.YtfekkjbdcdnhlaaGreatDoorMay
set_option linter.all false
set_option maxHeartbeats 8000000
set_option maxRecDepth 100000
namespace Go.Proofs.YtfekkjbdcdnhlaaGreatDoor.Sep
noncomputable section
def ZU(Rl:Nat)(DK:List AV)(res:AV)(R:Nat):List AV->St->Option (List R1):=fun args s=>match s.hp.get 2 with
 |some (.res 2 [a])=>match s.hp.get 0 with
  |some (.res 0 [])=>bif G0 args DK&&Nat.ble (Nat.add a Rl) R then some [.val res ((s.set 2 (.res 2 [Nat.add a Rl])).set 0 (.res 0 []))]else none
  |_=>none
 |_=>none
variable{R:Nat}
theorem aA9{P:Program}{RS:EA}{f Rl:Nat}{DK:List AV}{res:AV}
 (H:∀(ρ:Nm) (b2 c2 b3 c3 a:Nat) (KJ OR:List CH) (vs:List Value),a+Rl<=R->ρ[2]? =some (b2,c2)->ρ[0]? =some (b3,c3)->RS 2 [a] b2 KJ->RS 0 [] b3 OR->Bt ρ DK vs->
  Fn P f vs [OR,KJ] (fun e S'=>∃v c2' c3',e=.returned v/\S'=[c3',c2']/\RS 2 [a+Rl] b2 c2'/\RS 0 [] b3 c3'/\EM ρ res v)):ET P RS f (ZU Rl DK res R):=by
 intro args s rs hc p hst hp vs hvs;subst hst;unfold ZU at hc;split at hc
 ·rename_i a IN;split at hc
  ·rename_i jA;cases hcond:G0 args DK&&Nat.ble (Nat.add a Rl) R<;>rw[hcond]at hc<;>simp only[AN,AO,reduceCtorEq,AH]at hc;subst hc;simp only[AI]at hcond;obtain⟨hle,ha⟩:=hcond;have ha:a+Rl<=R:=AL ha;obtain⟨hl2,hc2⟩:=hp.mem IN;obtain⟨hl3,hc3⟩:=hp.mem jA;generalize hC2:p.C 2=ck2 at hc2;generalize hC3:p.C 0=ck3 at hc3;cases hc2 with| @res _ b2 c2 _ cs2 IJ hr2=>
   cases hc3 with| @res _ b3 c3 _ cs3 Np hr3=>
   have hS:=Pt.two hp hl3 hl2 (by decide:(2:Nat)≠0);rw[hC2,hC3]at hS;have hnd:=hp.H.nd;have h2e:2∈p.live.erase 0:=(Be Ba).2 hl2;intro A U w hs;have hs':Ds A w ([ck3,ck2]++(((p.live.erase 0).erase 2).map p.C++U)):=by have:=hs.perm (hS.append_right U);simpa using this
   refine(H p.ρ b2 c2 b3 c3 a ck2 ck3 vs ha IJ Np hr2 hr3 (GR hvs hle) A _ w hs').mono ?_;rintro e w' ⟨h0,S',h1,v,c2',c3',rfl,rfl,h2,h3,h4⟩;have hp2:=hp.set hl2 (ab:=.res 2 [Nat.add a Rl]) (c:=c2') (.res IJ h2);have wJ:0∈(p.set 2 (.res 2 [Nat.add a Rl]) c2').live:=hl3;have hp3:=hp2.set wJ (ab:=.res 0 []) (c:=c3') (.res Np h3);refine⟨h0,_,?_,.inl ⟨res,_,AP.2 J,(p.set 2 (.res 2 [Nat.add a Rl]) c2').set 0 (.res 0 []) c3',v,rfl,rfl,rfl,Pt.to.trans (.set p 2 _ _) (.set _ 0 _ _),hp3,h4,rfl⟩⟩;show Ds A w' ((c3'::(p.live.erase 0).map (Jw p.C 2 c2'))++U);have e1:((p.live.erase 0).map (Jw p.C 2 c2')).Perm (c2'::((p.live.erase 0).erase 2).map p.C):=by have h5:=(CL h2e).map (Jw p.C 2 c2');rw[Ap,IS]at h5;refine h5.trans (List.Perm.cons _ ?_);rw[BB fun k hk=>Gj p.C c2' (fun e=>by subst e;exact((hnd.erase 0).not_mem_erase) hk)]
   have h6:Ds A w' ((c3'::c2'::((p.live.erase 0).erase 2).map p.C)++U):=by simpa using h1
   exact h6.perm ((List.Perm.cons _ e1.symm).append_right U)
  ·cases hc
 ·cases hc
def wO(ob K n:Nat):EA:=fun i d b cs=>if i=2 then G1 ob K d b cs else if i=0 then Ni n b cs else True
variable{ob K n:Nat}
theorem pH:∀d b cs,wO ob K n 2 d b cs↔G1 ob K d b cs:=fun d b cs=>by simp[wO]
theorem wP:∀b cs,wO ob K n 0 [] b cs↔Ni n b cs:=fun b cs=>by simp[wO]
def lM(R:Nat):List (Nat×F5):=(23,Iw 0 0 [] [mP] (iv 1 4096))::lD R
theorem aBa(hn:1<=n/\n<=4096)(h:K+R<=HM):Ol Tryz.prog (wO ob K n) (lM R):=⟨⟨aAm hn wP,Ba,kR⟩,⟨vP pH,Ba,kR⟩,⟨vQ pH h,Ba,kR⟩,⟨ZJ,Ba,kR⟩,trivial⟩
theorem aC0:Uy (DY (lM 1)) (E3 (DY (lM 1)) 100000) 187 [.res 0 [],.res 9 [],.res 2 [0]] [oP,mP,Bw,iv 0 0] EB 1=true:=kR
theorem aC1:L8 (DY (lD 1)) (E3 (DY (lD 1)) 100000) 188 (vd []) [oP,iv 0 127] (.Ec [HW,EB]) 1=true:=kR
theorem aC2:L8 (DY (lD 1)) (E3 (DY (lD 1)) 100000) 189 (vd []) [oP,iv 1 127,HW,HW] (.Ec [HW,EB]) 1=true:=kR
theorem aC3:HU (DY []) (E3 (DY []) 100000) 191 [] [] [Bw,CB] [(false,Bw)] []=true:=kR
variable{mc:List CH}
theorem write_any{n b so sb st:Nat}{v:Int}{d:List Int}{cs:List Value}(hn:1<=n/\n<=4096)(hd:d.length=32/\BN d)(hv:0<=v/\v<=18446744073709551615)(hcs:(cs.drop so).take 32=bs d)(hm:Ni n b mc):
 Fn Tryz.prog 190 [Au b,.int .u64 v,.slice (some ⟨sb,so,none⟩) 32 32] [mc,A7 sb cs st] (Dv (ι:=Int×List CH) (fun i=>0<=i.1/\i.1<=30/\Ni n b i.2) (fun i=>.int .i64 i.1) (fun i=>[i.2,A7 sb cs st])):=by
 obtain⟨ab,B,rfl,hB,hb⟩:=hm;obtain⟨a,rfl⟩:=BO hv.1;have main:∃e B',0<=e/\e<=30/\Ni n b (Dy b ab n++EY ab B')/\Fn Tryz.prog 190 [Au b,.int .u64 a,.slice (some ⟨sb,so,none⟩) 32 32] [Dy b ab n,EY ab B,A7 sb cs st] (E4 (.int .i64 e) [Dy b ab n,EY ab B',A7 sb cs st]):=by
  by_cases hin:a+32<=128*n
  ·exact⟨0,_,I,I,⟨ab,_,rfl,by rw[Ie I];exact hB,hb.pat hd.2 a⟩,OG a 32 hn hB hd.1 I I hcs I hin⟩
  ·exact⟨6,B,I,I,⟨ab,B,rfl,hB,hb⟩,TU a 32 hn I I I I⟩
 obtain⟨e,B',he1,he2,hr',hf⟩:=main;refine hf.Cd (F:=[]) DI ?_;rintro e' S' ⟨rfl,rfl⟩;exact⟨_,⟨(e,Dy b ab n++EY ab B'),⟨he1,he2,hr'⟩,rfl,rfl⟩,by simp⟩
variable{b0:Nat}
theorem pI{j:Nat}{nd:Int}{oc:List CH}(hn:1<=n/\n<=4096)(hO:G1 ob K [j] ob oc)(hM:Ni n b0 mc)(hnd:0<=nd/\nd<=18446744073709551615)(hK:K+j+300<=HM):
 Fn Tryz.prog 124 [Au ob,Au b0,.int .u64 nd] [oc,mc] (Dv (ι:=LyI) (fun i=>i.1.length=32/\BN i.1/\0<=i.2.1/\i.2.1<=30/\G1 ob K [j+300] ob i.2.2.1/\Ni n b0 i.2.2.2) (fun i=>.tuple #[.agg (bs i.1).toArray,.int .i64 i.2.1]) (fun i=>[i.2.2.1,i.2.2.2])):=by
 refine(jz (O:=fun k oc=>G1 ob K [j+(k+2)] ob oc) (Mm:=fun _ mc=>Ni n b0 mc) (Dg:=fun _ d=>d.length=32/\BN d) (PL:=fun _ v=>0<=v/\v<=18446744073709551615) (E:=fun e=>0<=e/\e<=30) (fun _ _ h=>h.1) ?_ ?_ ?_ ?_ ?_ (FQ I hO) hM).mono ?_
 ·intro oc mc h1 h2;have I7:K+(j+(0+2))+1<=HM:=I;have hE:=DU (aBa (ob:=ob) (K:=K+(j+(0+2))) (R:=1) hn I7);have hBL:NG (wO ob (K+(j+(0+2))) n) [(b0,0),(0,0),(ob,0)] 0 [.res 0 [],.res 9 [],.res 2 [0]] [mc,[],oc]:=.cons (.res (b:=b0) (c:=0) J ((wP _ _).2 h2)) (.cons (.res (b:=0) (c:=0) J (by simp[wO])) (.cons (.res (b:=ob) (c:=0) J ((pH _ _ _).2 (KH.1 h1))) .nil))
  refine(pG hE (FG hE 100000) aC0 (ρ:=[(b0,0),(0,0),(ob,0)]) (S:=[mc,[],oc]) J J (fun k hk hk'=>by simpa using hBL.at_ k hk hk') (.cons (.Au J) (.cons (.Au J) (.cons (K8 hnd) (.cons (.int Ba Ba) .nil)))) (b2:=ob) (c2:=0) (b0:=b0) (c0:=0) J J).Cd (F:=[]) (by
   refine C2 fun _ x=> ?_
   simp only[AW,A0,Am,AQ,AS,Ax];omega) ?_
  rintro e S' ⟨v,c',d',x,hc,rfl,rfl,hx,hr,hr0⟩;cases hc with| @int _ _ _ er a1 a2=>
  refine⟨_,⟨(er,c',d'),⟨⟨a1,a2⟩,?_,(wP _ _).1 hr0⟩,rfl,rfl⟩,?_⟩
  ·have:=KH.2 (FQ hx ((pH _ _ _).1 hr));exact this
  ·refine C2 fun _ x=> ?_
   simp only[Cf,List.set_cons_zero,AW,A0,Am,AQ,AS,Ax];omega
 ·intro p oc hp h1;refine(ON (ρ:=[]) (vs:=[Au ob,.int .i64 (p:Int)]) aC1 J .nil h1 (.cons (.Au J) (.cons (.int (by show(0:Int)<=p;omega) (by show(p:Int)<=127;omega)) .nil)) I).mono ?_;rintro e S' ⟨⟨d,er,oc'⟩,⟨g1,g2,g3,g4,g5⟩,rfl,rfl⟩;exact⟨(d,er,oc'),⟨⟨g1,g2⟩,by simp only;rw[show j+(2+p+2)=j+(1+p+2)+1 by omega];exact g5⟩,rfl,rfl⟩
 ·intro k a b oc hk1 hk2 ha hb h1;refine(ON (ρ:=[]) (vs:=[Au ob,.int .i64 (k:Int),.agg (bs a).toArray,.agg (bs b).toArray]) aC2 J .nil h1 (.cons (.Au J) (.cons (.int (by show(1:Int)<=k;omega) (by show(k:Int)<=127;omega)) (.cons (.agg (JZ ha)) (.cons (.agg (JZ hb)) .nil)))) I).mono ?_;rintro e S' ⟨⟨d,er,oc'⟩,⟨g1,g2,g3,g4,g5⟩,rfl,rfl⟩;exact⟨(d,er,oc'),⟨⟨g1,g2⟩,by simp only;rw[show j+(256-k+1+2)=j+(256-k+2)+1 by omega];exact g5⟩,rfl,rfl⟩
 ·intro k hk1 hk2;refine(IF aC3 (vs:=[.int .u64 nd,.int .i64 (k:Int)]) (.cons (K8 hnd) (.cons (QQ I) .nil)) J).mono ?_;rintro e S' ⟨v,hv,rfl,rfl⟩;cases hv with| @int _ _ _ z a1 a2=>
  exact⟨z,JX ⟨a1,a2⟩,rfl,rfl⟩
 ·intro k v d mc sb so cs hk1 hk2 hv hd hcs hm;refine(write_any hn hd hv hcs hm).mono ?_;rintro e S' ⟨⟨er,mc'⟩,⟨h1,h2,h3⟩,rfl,rfl⟩;exact⟨(er,mc'),h3,rfl,rfl⟩
 ·rintro e S' ⟨⟨d,er,oc',mc'⟩,h,rfl,rfl⟩;dsimp only at h;refine⟨(d,er,oc',mc'),?_,rfl,rfl⟩;rcases h with⟨h1,h2,rfl,h3,h4⟩|⟨rfl,h2,h3,h4⟩
  ·exact⟨Bn _,E0 _,h2.1,h2.2,FQ I h3,h4⟩
  ·exact⟨h2.1,h2.2,(show(0:Int)<=0 by decide),(show(0:Int)<=30 by decide),FQ I h3,h4⟩
section
variable{ob K R n:Nat} {RS:EA} (hn:1<=n/\n<=4096) (hO:∀d b cs,RS 2 d b cs↔G1 ob K d b cs) (hM:∀b cs,RS 0 [] b cs↔Ni n b cs) (I7:K+R<=HM)
include hn hO hM I7
theorem aBb:ET Tryz.prog RS 124 (ZU 300 [.Au 2 0,.Au 0 0,Bw] (.Ec [HW,EB]) R):=aA9 fun ρ b2 c2 b3 c3 a KJ OR vs ha IJ Np hr2 hr3 hv=>by
 cases hv with|cons h1 hv=>cases hv with|cons h2 hv=>cases hv with|cons h3 hv=>
 cases hv;cases h1 with|Au h1=>
 rw[IJ]at h1;cases h1;cases h2 with|Au h2=>
 rw[Np]at h2;cases h2;cases h3 with| @int _ _ _ nd a1 a2=>
 have ho:=(hO _ _ _).1 hr2;have hb2:b2=ob:=by obtain⟨_,_,h,_⟩:=ho;exact h
 subst hb2;refine(pI hn ho ((hM _ _).1 hr3) (JX ⟨a1,a2⟩) (by simp only[HM]at I7⊢;omega)).Cd (F:=[]) (by
  refine C2 fun _ x=> ?_
  simp only[AW,A0,Am,AQ,AS,Ax];omega) ?_
 rintro e S' ⟨⟨d,er,oc',mc'⟩,⟨g1,g2,g3,g4,g5,g6⟩,rfl,rfl⟩;refine⟨[mc',oc'],⟨_,oc',mc',rfl,rfl,(hO _ _ _).2 g5,(hM _ _).2 g6,.Ec (.cons (.agg (JZ ⟨g1,g2⟩)) (.cons (Fa ⟨g3,g4⟩) .nil))⟩,?_⟩;refine C2 fun _ x=> ?_
 simp only[AW,A0,Am,AQ,AS,Ax];omega
end
variable{dm:Nat}{key:List Int}{dv:Value}
theorem aBC(hk:key.length=32)(h1:dv.oneCell'=true)(hdm:1<=dm/\dm<=16):Fn Tryz.prog 93 [.agg (qL 4 key dm dv).toArray] [] (E4 (.bool true) []):=by
 refine(IF qB (vs:=[.agg (qL 4 key dm dv).toArray]) (.cons (.agg (by have:=((Bt.cons (ρ:=[]) (EM.int (ρ:=[]) (k:=.i64) (lo:=.ofNat 4) (hi:=.ofNat 4) (z:=4) Ba Ba) .nil).app (show Bt [] (List.replicate 32 .junk) (bs key)from by have:=MB (ρ:=[]) (BV key);rwa [Aa,hk]at this)).app (.cons (EM.int (k:=.i64) (lo:=.ofNat 1) (hi:=.ofNat 16) (z:=dm) (by show(1:Int)<=dm;omega) (by show(dm:Int)<=16;omega)) (.cons (.junk h1) .nil));exact this)) .nil) J).mono ?_
 rintro e S' ⟨v,hv,rfl,rfl⟩;cases hv;exact⟨rfl,rfl⟩
theorem Zj{key dm m y:Nat}{d:List Nat}:∀{r r':Nat},r<=r'->(∃x,VC key dm m y r' d=some x)->∃x,VC key dm m y r d=some x
 |r,0,h,hx=>by obtain rfl:r=0:=I;exact hx
 |r,r'+1,h,hx=>by
  by_cases e:r=r'+1
  ·subst e;exact hx
  ·refine Zj (r':=r') I ?_;obtain⟨x,hx⟩:=hx;rw[VC]at hx;cases h1:VC key dm m y r' d with
   |none=>rw[h1]at hx;cases hx
   |some z=>exact⟨z,rfl⟩
def aDu(d':List Nat)(z:List AV)(b:Nat)(dC:List CH):Ending->A2->Prop:=fun e S'=>∃c' rb A ex,Im d' b c'/\A.length=128/\(∀ρ:Nm,Bt ρ z (bs A))/\e=.returned (.tuple #[.slice (some ⟨rb,0,none⟩) 128 128,.int .i64 0])/\S'=[c',dC,A7 rb (bs A++ex) 5]
theorem lR{d d':List Nat}{z:List AV}{comp dC:List CH}{X:List Int}(hr:Im d b0 comp)(hk:key.length=32)(hkb:FB key)(hd:G9 X dv dC)(Ix:FB X)(Hw:X.length<1000000)(hdm:1<=dm/\dm<=16)(hN:VC (nB key) dm X.length (nB X) 4 d=some (z,d')):
 Fn Tryz.prog 309 [Au b0,.agg (qL (4:Nat) key dm dv).toArray,.int .i64 128] [comp,dC] (aDu d' z b0 dC):=by
 have SI:=Ee (k:=(4:Nat)) (dm:=dm) (dv:=dv) hk;have h1:=hd.one;have hmay:=aBC (key:=key) (dv:=dv) hk h1 hdm;refine Fn.of Tryz.func309 J J [_,_] J ?_
 (refine W ?_;intro b;refine W ?_;intro b;refine W ?_;refine DL.BS J J J pK (Of hr) kR aP kO ?_;refine W ?_)
 rename_i b1;obtain⟨b2,hb2⟩:∃b2,b2=b:=⟨_,rfl⟩
 subst hb2;refine DL.LJ tt J J J J J iN SI ?_;refine DL.BS J J J .nil hmay kR .nil kO ?_;refine W ?_;obtain⟨M,ds,u,kb,ls,r0,hM,hcomp⟩:∃M ds u kb ls r,M.length=32/\comp=oB b0 M ds u kb ls++r:=by obtain⟨es,⟨ds,kb,clk,ls,L,IH,lC,Hv,dH,e2,hM,_⟩,_⟩:=hr;exact⟨_,ds,es.length,kb,ls,[DX Gq kb L clk,lC,Hv,dH.flatten].flatten,hM,by rw[e2];simp only[AW]⟩
 refine ZK tt J J J J J (by(try simp only[EN,B0]);(repeat(first|with_reducible exact Gg.here|with_reducible apply Gg.there))) hcomp J ?_;refine W ?_;refine CW.FK (T:=[comp,A7 b2 [.int .i64 128] 3,A7 b1 (qL (4:Nat) key dm dv) 159,dC,[]]) DI ?_;refine CW.loop (ι:=Nat×List Int×Value×List CH×List CH) (fun i=>4-i.1) (fun i=>i.1<=4/\i.2.1.length=32*i.1/\IK i.2.1 i.2.2.1 i.2.2.2.1/\∃l d1,VC (nB key) dm X.length (nB X) i.1 d=some (l,d1)/\Im d1 b0 i.2.2.2.2/\∀ρ:Nm,Bt ρ l (bs i.2.1)) (fun i=>[(0,Au b0),(4,Au b1),(5,Au b2),(8,i.2.2.1),(9,.int .u64 i.1)]) (fun i=>[A7 b2 [.int .i64 128] 3,A7 b1 (qL (4:Nat) key dm dv) 159,i.2.2.2.2,dC,i.2.2.2.1]) (0,[],.slice none 0 0,[],comp) ⟨by simp,rfl,IK.nil,[],d,rfl,hr,fun _=>.nil⟩ sF pK ?_;rintro⟨r,acc,v,c,Rf⟩ ⟨g1,g2,g4,l,d1,g5,g6,g7⟩;dsimp only at g1 g2 g4 g5 g6 g7⊢;obtain⟨p,cap,rfl⟩:=g4.form;rw[g2]at g4⊢;refine W ?_;by_cases hr4:r<4
 ·refine CW.Gp J I ?_;refine W ?_;refine DL.LJ tt J J J J J iN SI ?_
  (refine W ?_;intro b)
  refine DL.Bj tt J J J J uP (by rw[SI]) (iI h1) HS kO ?_;refine W ?_;refine DL.ld1 tt J J J J J iN (KB hk) ?_;refine DL.B7 J J J (F:=[dC]) pK (Tf hd I) kR (fun _=>aP) (fun _=>kO) ?_;rintro⟨dv1,c1⟩ hc1;dsimp only at hc1⊢;refine W ?_;refine DL.B7 J J J .nil (UN (x:=(r:Int)) I) kR (fun _=>aP) (fun _=>kO) ?_;rintro⟨wb,ED,IU⟩ ⟨w1,w2⟩;dsimp only at w1 w2⊢;obtain⟨wn,hw8,hwA⟩:=MW r 8;refine Js tt (v:=dv1) (X:=X) (c:=c1) (Y:=Ek r 8) J J J W5 J hc1 Es (DO.slice (news:=bs (Ek r 8)) tt J iN (by simp[Aa,hw8]) (by rw[Aa,hw8]) (BV _)) Ba (by rw[hw8]) I I (fun _=>kO) ?_;intro dv2 c2 hc2;refine W ?_;obtain⟨p2,cap2,rfl⟩:=hc2.form;refine DL.Br (cs':=qL (4:Nat) key dm (.slice p2 (X++Ek r 8).length cap2)) tt J J J J J uP (by simpa using KC hk _) J J (by rw[SI];decide) kO ?_;refine W ?_;refine DL.LJ tt J J J J J iN (Ee hk) ?_;obtain⟨x5,hx5⟩:=Zj (r:=r+1) (r':=4) I ⟨_,hN⟩;have hx6:=hx5;rw[VC,g5]at hx6;dsimp only at hx6;have hxl:(X++Ek r 8).length=Nat.add X.length 8:=by rw[Aq,hw8]
  have hxn:nB (X++Ek r 8)=Nat.add (nB X) (Nat.mul r (Nat.pow 256 X.length)):=by rw[Iy,wn,Dh (show r<256^8 by omega),Nat.mul_comm];rfl
  rw[<-hxl,<-hxn]at hx6;split at hx6
  ·rename_i a d2 hask;simp only[AH]at hx6;subst hx6;refine DL.call J J J (F:=[Rf,c2]) pK (lQ (k:=4) (dm:=dm) (key:=key) (X:=X++Ek r 8) (dv:=.slice p2 (X++Ek r 8).length cap2) g6 hk hkb hc2.ok (Fp Ix hwA) (by rw[Aq,hw8];omega) Ba I hask) kR (fun ch S1 hc=>by obtain⟨_,_,hc,_⟩:=hc;cases hc) ?_;rintro v S1 ⟨KJ,A,hv,rfl,hr2,ha,hab,_,hcon⟩;cases hv;refine⟨kO,?_⟩;simp only[AQ,AS,Dc]
   (refine W ?_;intro b)
   refine DL.Bj tt J J J J uP (by rw[Aa,ha]) (BV _) HS kO ?_;refine W ?_;refine DL.Ld tt (l:=0) (m:=32) (c:=32) J J J J J J J .all ?_;rw[Ah Ba];refine Js tt (v:=.slice p (32*r) cap) (X:=acc) (c:=c) (Y:=A) J J J W5 J g4 Es (DO.slice (news:=bs A) tt J iN (by rw[BL,AX (by rw[Aa,ha];decide)]) (by rw[Aa,ha]) (BV _)) Ba ha (by rw[g2];omega) (by rw[g2];omega) (fun _=>kO) ?_;intro v3 c3 hc3;refine W ?_;exact⟨(r+1,acc++A,v3,c3,KJ),_,by simp only;omega,⟨by simp only;omega,by simp only[Aq,g2,ha];omega,hc3,_,_,hx5,hr2,fun ρ=>by dsimp only;rw[<-H8];exact(g7 ρ).app (hcon ρ)⟩,sF,pK⟩
  ·cases hx6
 ·refine CW.GM J I ?_;obtain rfl:r=4:=I;rw[hN]at g5;simp only[AH,Af]at g5;obtain⟨rfl,rfl⟩:=g5;rcases g4 with⟨rfl,h,_⟩|⟨rb,cap',ex,h,h2,h3,rfl⟩
  ·simp at g2
  ·simp only[Value.slice.injEq]at h;obtain⟨rfl,_,rfl⟩:=h;refine W ?_;refine DL.Qj tt (l:=0) (m:=128) (c:=128) J J J J J J J (.Lc J J Ba I) ?_;rw[Ah Ba];refine W ?_;refine⟨_,[Rf,dC,A7 rb (bs acc++ex) 5],_,Fb (RV.tmp J) (RV.tmp J),pK,Rf,rb,acc,ex,g6,g2,g7,rfl,rfl⟩
section
variable{RS:EA} (hO:∀d b cs,RS 2 d b cs↔Im d b cs)
include hO
theorem aBD:ET Tryz.prog RS 309 xO:=by
 intro args s rs hc p hst hp vs hvs;subst hst;unfold xO at hc;split at hc
 ·rename_i k l ca;split at hc
  ·rename_i d hd;split at hc
   ·rename_i key dm m y hask;split at hc
    ·rename_i hca;split at hc
     ·rename_i z d' hN;cases hb:Nat.ble 1 dm&&Nat.ble dm 16&&p.st.room<;>rw[hb]at hc<;>simp only[AN,AO,reduceCtorEq,AH]at hc;subst hc;simp only[AI]at hb;obtain⟨⟨hb1,hb2⟩,hroom⟩:=hb;have hb1:=AL hb1;have hb2:=AL hb2;cases hvs with|cons h1 hvs=>cases hvs with|cons h2 hvs=>cases hvs with| @cons _ cv _ _ h3 hvs=>
      cases hvs;obtain rfl:=Gw hca h3;cases h1 with|Au h1=>
      cases h2 with| @agg _ ws h2=>
      have hget:=MX hd;obtain⟨dB,dv,x,rfl,hkl,hkb,rfl,hxv,hdat,hk8,hd8⟩:=Zi hask h2;obtain⟨X,dC,T,hD,Ix,rfl,hm,rfl,hS,hS2⟩:=Zh hp hget hdat hxv;obtain⟨hlive,hcb⟩:=hp.mem hget;generalize hC:p.C k=ck at hcb;cases hcb with| @res _ b c _ cs hρ hr=>
      rw[hρ]at h1;cases h1;rw[hC]at hS;refine(lR ((hO _ _ _).1 hr) hkl hkb hD Ix I ⟨hb1,hb2⟩ hN).Cd (F:=T) hS ?_;rintro e S' ⟨c',rb,A,ex,hr',hA,hcon,rfl,rfl⟩;have hp2:=hp.set hlive (ab:=.res 2 d') (c:=c') (.res hρ ((hO _ _ _).2 hr'));have hzl:z.length=128:=by have:=(hcon []).len;rw[Aa,hA]at this;exact this.symm
      have hcb:Da RS ((p.set k (.res 2 d') c').ρ++[(rb,128+ex.length)]) (p.set k (.res 2 d') c').st.nx (.grown z 5 1) (A7 rb (bs A++ex) 5):=by refine .grown (Pt.EZ hp2 _) (hcon _) ?_;rw[Aa,hA];omega
      refine⟨_,.inl ⟨_,_,AP.2 J,(p.set k (.res 2 d') c').new (rb,128+ex.length) (.grown z 5 1) (A7 rb (bs A++ex) 5),_,rfl,rfl,rfl,Pt.to.trans (.set p k _ _) (.new hp2 _ _ _),hp2.new hroom _ hcb,.Ec (.cons (.sl (Pt.EZ hp2 _)) (.cons (Ea _ 0) .nil)),rfl⟩,?_⟩;have:=(hS2 c').append_left (A7 rb (bs A++ex) 5);show(A7 rb (bs A++ex) 5::c'::(p.live.erase k).map p.C).flatten.Perm _;rw[AW];refine this.trans ?_;refine C2 fun _ x=> ?_
      simp only[AW,A0,Am,AQ,AS,Ax];omega
     ·cases hc
    ·cases hc
   ·cases hc
  ·cases hc
 ·cases hc
end
end
end Go.Proofs.YtfekkjbdcdnhlaaGreatDoor.Sep
