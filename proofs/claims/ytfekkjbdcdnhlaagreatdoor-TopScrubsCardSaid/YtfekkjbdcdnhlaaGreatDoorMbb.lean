/- Lemmas for TopScrubs. No condition but those that each states. -/
import Derived.Test.YtfekkjbdcdnhlaaGreatDoorMba
import Derived.Test.YtfekkjbdcdnhlaaGreatDoorMaz
set_option linter.all false
set_option maxHeartbeats 8000000
set_option maxRecDepth 100000
namespace Go.Proofs.YtfekkjbdcdnhlaaGreatDoor.Sep
noncomputable section
def Ph(Rl nR:Nat)(DK:List AV)(res:AV)(R:Nat):List AV->St->Option (List R1):=fun args s=>match s.hp.get 2 with
 |some (.res 2 [a])=>match s.hp.get 3 with
  |some (.res 3 [b])=>bif G0 args DK&&Nat.ble (Nat.add a Rl) R&&Nat.ble (Nat.add b nR) R then some [.val res ((s.set 2 (.res 2 [Nat.add a Rl])).set 3 (.res 3 [Nat.add b nR]))]else none
  |_=>none
 |_=>none
theorem X5{P:Program}{RS:EA}{f Rl nR R:Nat}{DK:List AV}{res:AV}
 (H:∀(ρ:Nm) (b2 c2 b3 c3 a b:Nat) (KJ OR:List CH) (vs:List Value),a+Rl<=R->b+nR<=R->ρ[2]? =some (b2,c2)->ρ[3]? =some (b3,c3)->RS 2 [a] b2 KJ->RS 3 [b] b3 OR->Bt ρ DK vs->
  Fn P f vs [OR,KJ] (fun e S'=>∃v c2' c3',e=.returned v/\S'=[c3',c2']/\RS 2 [a+Rl] b2 c2'/\RS 3 [b+nR] b3 c3'/\EM ρ res v)):ET P RS f (Ph Rl nR DK res R):=by
 intro args s rs hc p hst hp vs hvs;subst hst;unfold Ph at hc;split at hc
 ·rename_i a IN;split at hc
  ·rename_i b jA;cases hcond:G0 args DK&&Nat.ble (Nat.add a Rl) R&&Nat.ble (Nat.add b nR) R<;>rw[hcond]at hc<;>simp only[AN,AO,reduceCtorEq,AH]at hc;subst hc;simp only[AI]at hcond;obtain⟨⟨hle,ha⟩,hb⟩:=hcond;have ha:a+Rl<=R:=AL ha;have hb:b+nR<=R:=AL hb;obtain⟨hl2,hc2⟩:=hp.mem IN;obtain⟨hl3,hc3⟩:=hp.mem jA;generalize hC2:p.C 2=ck2 at hc2;generalize hC3:p.C 3=ck3 at hc3;cases hc2 with| @res _ b2 c2 _ cs2 IJ hr2=>
   cases hc3 with| @res _ b3 c3 _ cs3 Np hr3=>
   have hS:=Pt.two hp hl3 hl2 (by decide:(2:Nat)≠3);rw[hC2,hC3]at hS;have hnd:=hp.H.nd;have h2e:2∈p.live.erase 3:=(Be Ba).2 hl2;intro A U w hs;have hs':Ds A w ([ck3,ck2]++(((p.live.erase 3).erase 2).map p.C++U)):=by have:=hs.perm (hS.append_right U);simpa using this
   refine(H p.ρ b2 c2 b3 c3 a b ck2 ck3 vs ha hb IJ Np hr2 hr3 (GR hvs hle) A _ w hs').mono ?_;rintro e w' ⟨h0,S',h1,v,c2',c3',rfl,rfl,h2,h3,h4⟩;have hp2:=hp.set hl2 (ab:=.res 2 [Nat.add a Rl]) (c:=c2') (.res IJ h2);have wJ:3∈(p.set 2 (.res 2 [Nat.add a Rl]) c2').live:=hl3;have hp3:=hp2.set wJ (ab:=.res 3 [Nat.add b nR]) (c:=c3') (.res Np h3);refine⟨h0,_,?_,.inl ⟨res,_,AP.2 J,(p.set 2 (.res 2 [Nat.add a Rl]) c2').set 3 (.res 3 [Nat.add b nR]) c3',v,rfl,rfl,rfl,Pt.to.trans (.set p 2 _ _) (.set _ 3 _ _),hp3,h4,rfl⟩⟩;show Ds A w' ((c3'::(p.live.erase 3).map (Jw p.C 2 c2'))++U);have e1:((p.live.erase 3).map (Jw p.C 2 c2')).Perm (c2'::((p.live.erase 3).erase 2).map p.C):=by have h5:=(CL h2e).map (Jw p.C 2 c2');rw[Ap,IS]at h5;refine h5.trans (List.Perm.cons _ ?_);rw[BB fun k hk=>Gj p.C c2' (fun e=>by subst e;exact((hnd.erase 3).not_mem_erase) hk)]
   have h6:Ds A w' ((c3'::c2'::((p.live.erase 3).erase 2).map p.C)++U):=by simpa using h1
   exact h6.perm ((List.Perm.cons _ e1.symm).append_right U)
  ·cases hc
 ·cases hc
abbrev Rm:AV:=.agg al
abbrev rpA:AV:=.agg (List.replicate 32 OF++[Bw])
section
variable{ob K R:Nat} {RS:EA} (hO:∀d b cs,RS 2 d b cs↔G1 ob K d b cs) (Sv:∀d b cs,RS 3 d b cs↔M9 ob K d b cs) (I7:K+R<=HM)
include Sv
theorem aAY:ET Tryz.prog RS 128 (K4 3 3 0 [.Au 3 0,CB] EB R):=Jq fun ρ b c j comp vs hj hρ hr hv=>by
 cases hv with|cons h1 hv=>cases hv with|cons h2 hv=>
 cases hv;cases h1 with|Au h1=>
 rw[hρ]at h1;cases h1;cases h2 with| @int _ _ _ z a1 a2=>
 refine(f128 ((Sv _ _ _).1 hr)).mono ?_;rintro e S' ⟨⟨er,c'⟩,⟨h1,h2,h3⟩,rfl,rfl⟩;exact⟨_,_,rfl,rfl,(Sv _ _ _).2 h3,Fa ⟨h1,h2⟩⟩
theorem aAZ:ET Tryz.prog RS 129 (K4 3 3 0 [.Au 3 0,CB] EB R):=Jq fun ρ b c j comp vs hj hρ hr hv=>by
 cases hv with|cons h1 hv=>cases hv with|cons h2 hv=>
 cases hv;cases h1 with|Au h1=>
 rw[hρ]at h1;cases h1;cases h2 with| @int _ _ _ z a1 a2=>
 refine(f129 ((Sv _ _ _).1 hr)).mono ?_;rintro e S' ⟨⟨er,c'⟩,⟨h1,h2,h3⟩,rfl,rfl⟩;exact⟨_,_,rfl,rfl,(Sv _ _ _).2 h3,Fa ⟨h1,h2⟩⟩
theorem aA0:ET Tryz.prog RS 132 (K4 3 3 0 [.Au 3 0,CB] EB R):=Jq fun ρ b c j comp vs hj hρ hr hv=>by
 cases hv with|cons h1 hv=>cases hv with|cons h2 hv=>
 cases hv;cases h1 with|Au h1=>
 rw[hρ]at h1;cases h1;cases h2 with| @int _ _ _ z a1 a2=>
 refine(f132 ((Sv _ _ _).1 hr)).mono ?_;rintro e S' ⟨⟨er,c'⟩,⟨h1,h2,h3⟩,rfl,rfl⟩;exact⟨_,_,rfl,rfl,(Sv _ _ _).2 h3,Fa ⟨h1,h2⟩⟩
theorem aA1:ET Tryz.prog RS 151 (K4 3 3 0 [.Au 3 0,CB] EB R):=Jq fun ρ b c j comp vs hj hρ hr hv=>by
 cases hv with|cons h1 hv=>cases hv with|cons h2 hv=>
 cases hv;cases h1 with|Au h1=>
 rw[hρ]at h1;cases h1;cases h2 with| @int _ _ _ z a1 a2=>
 refine(f151 ((Sv _ _ _).1 hr)).mono ?_;rintro e S' ⟨⟨er,c'⟩,⟨h1,h2,h3⟩,rfl,rfl⟩;exact⟨_,_,rfl,rfl,(Sv _ _ _).2 h3,Fa ⟨h1,h2⟩⟩
theorem aA2:ET Tryz.prog RS 242 (K4 3 3 0 [.Au 3 0,CB] (.Ec [Bw,EB]) R):=Jq fun ρ b c j comp vs hj hρ hr hv=>by
 cases hv with|cons h1 hv=>cases hv with|cons h2 hv=>
 cases hv;cases h1 with|Au h1=>
 rw[hρ]at h1;cases h1;cases h2 with| @int _ _ _ z a1 a2=>
 refine(f242 ((Sv _ _ _).1 hr)).mono ?_;rintro e S' ⟨⟨n,er,c'⟩,⟨g1,g2,h1,h2,h3⟩,rfl,rfl⟩;exact⟨_,_,rfl,rfl,(Sv _ _ _).2 h3,.Ec (.cons (K8 ⟨g1,g2⟩) (.cons (Fa ⟨h1,h2⟩) .nil))⟩
theorem aA3:ET Tryz.prog RS 125 (K4 3 3 0 [.Au 3 0,CB,HW] EB R):=Jq fun ρ b c j comp vs hj hρ hr hv=>by
 cases hv with|cons h1 hv=>cases hv with|cons h2 hv=>cases hv with|cons h3 hv=>
 cases hv;cases h1 with|Au h1=>
 rw[hρ]at h1;cases h1;cases h2 with| @int _ _ _ z a1 a2=>
 cases h3 with|agg h3=>
 obtain⟨D,rfl,hD,hDl⟩:=J0 (m:=32) h3;refine(f125 ((Sv _ _ _).1 hr) hDl hD).mono ?_;rintro e S' ⟨⟨er,c'⟩,⟨h1,h2,h3⟩,rfl,rfl⟩;exact⟨_,_,rfl,rfl,(Sv _ _ _).2 h3,Fa ⟨h1,h2⟩⟩
include I7
theorem aA4:ET Tryz.prog RS 194 (K4 3 3 0 [.Au 3 0,CB] (.Ec [Rm,EB]) R):=Jq fun ρ b c j comp vs hj hρ hr hv=>by
 cases hv with|cons h1 hv=>cases hv with|cons h2 hv=>
 cases hv;cases h1 with|Au h1=>
 rw[hρ]at h1;cases h1;cases h2 with| @int _ _ _ z a1 a2=>
 simp only[HM]at I7;refine(f194 ((Sv _ _ _).1 hr) I).mono ?_;rintro e S' ⟨⟨r,lv,er,c'⟩,⟨g1,g2,h1,h2,h3⟩,rfl,rfl⟩;exact⟨_,_,rfl,rfl,(Sv _ _ _).2 h3,.Ec (.cons (.agg (Uo g1 g2)) (.cons (Fa ⟨h1,h2⟩) .nil))⟩
include hO
theorem aA5:ET Tryz.prog RS 148 (Ph 1 1 [.Au 3 0,CB,.agg WI] EB R):=X5 fun ρ b2 c2 b3 c3 a b KJ OR vs ha hb IJ Np hr2 hr3 hv=>by
 cases hv with|cons h1 hv=>cases hv with|cons h2 hv=>cases hv with|cons h3 hv=>
 cases hv;cases h1 with|Au h1=>
 rw[Np]at h1;cases h1;cases h2 with| @int _ _ _ z a1 a2=>
 cases h3 with| @agg _ T h3=>
 have hT:Bt [] WI T:=Nh (N:=0) (fun n hn=>I) Ba h3;have ho:=(hO _ _ _).1 hr2;have hb2:b2=ob:=by obtain⟨_,_,h,_⟩:=ho;exact h
 subst hb2;simp only[HM]at I7;refine(f148 ((Sv _ _ _).1 hr3) hT ho I (by simp only[HM];omega)).mono ?_;rintro e S' ⟨⟨er,c',oc'⟩,⟨h1,h2,h3,h4⟩,rfl,rfl⟩;exact⟨_,_,_,rfl,rfl,(hO _ _ _).2 h4,(Sv _ _ _).2 h3,Fa ⟨h1,h2⟩⟩
theorem aA6:ET Tryz.prog RS 214 (Ph 1 1 [.Au 3 0,CB,CB,XA] EB R):=X5 fun ρ b2 c2 b3 c3 a b KJ OR vs ha hb IJ Np hr2 hr3 hv=>by
 cases hv with|cons h1 hv=>cases hv with|cons h2 hv=>cases hv with|cons h3 hv=>cases hv with|cons h4 hv=>
 cases hv;cases h1 with|Au h1=>
 rw[Np]at h1;cases h1;cases h2 with| @int _ _ _ z a1 a2=>
 cases h3 with| @int _ _ _ z2 a3 a4=>
 cases h4 with|agg h4=>
 obtain⟨G,rfl,hG,hGl⟩:=J0 (m:=128) h4;have ho:=(hO _ _ _).1 hr2;have hb2:b2=ob:=by obtain⟨_,_,h,_⟩:=ho;exact h
 subst hb2;simp only[HM]at I7;refine(f214 ((Sv _ _ _).1 hr3) hGl hG ho I (by simp only[HM];omega)).mono ?_;rintro e S' ⟨⟨er,c',oc'⟩,⟨h1,h2,h3,h4⟩,rfl,rfl⟩;exact⟨_,_,_,rfl,rfl,(hO _ _ _).2 h4,(Sv _ _ _).2 h3,Fa ⟨h1,h2⟩⟩
theorem aA7:ET Tryz.prog RS 123 (Ph 2 1 [.Au 3 0,CB,CB,rpA,HW] (.Ec [Rm,EB]) R):=X5 fun ρ b2 c2 b3 c3 a b KJ OR vs ha hb IJ Np hr2 hr3 hv=>by
 cases hv with|cons h1 hv=>cases hv with|cons h2 hv=>cases hv with|cons h3 hv=>cases hv with|cons h4 hv=>cases hv with|cons h5 hv=>
 cases hv;cases h1 with|Au h1=>
 rw[Np]at h1;cases h1;cases h2 with| @int _ _ _ z a1 a2=>
 cases h3 with| @int _ _ _ z2 a3 a4=>
 cases h5 with|agg h5=>
 obtain⟨D,rfl,hD,hDl⟩:=J0 (m:=32) h5;cases h4 with| @agg _ T h4=>
 have e1:=h4.take 32;have e2:=h4.drop 32;obtain⟨V,eV,hV,hVl⟩:=J0 (m:=32) e1;have e2':Bt ρ [Bw] (T.drop 32):=e2;generalize hq:T.drop 32=t at e2';cases e2' with|cons h6 h7=>
 cases h7;cases h6 with| @int _ _ _ nd b1 b2'=>
 have hT:T=bs V++[.int .u64 nd]:=by rw[<-CS 32 T,eV,hq]
 subst hT;have ho:=(hO _ _ _).1 hr2;have hb2:b2=ob:=by obtain⟨_,_,h,_⟩:=ho;exact h
 subst hb2;simp only[HM]at I7;refine(Fn.pB (R:=fun e S'=>∃v c2' c3',e=.returned v/\S'=[c3',c2']/\RS 2 [a+2] b2 c2'/\RS 3 [b+1] b3 c3'/\EM ρ (.Ec [Rm,EB]) v) (f123 ((Sv _ _ _).1 hr3) ⟨hVl,hV⟩ (JX ⟨b1,b2'⟩) ⟨hDl,hD⟩ (vK ⟨a3,a4⟩) ho I (by simp only[HM];omega)) ?_);rintro e S' ⟨r,lv,er,c',oc',G,g1,g2,g3,g4,g5,g6,rfl,g7⟩;exact⟨[c',oc'],[G],⟨_,oc',c',rfl,rfl,(hO _ _ _).2 g6,(Sv _ _ _).2 g5,.Ec (.cons (.agg (Uo g1 g2)) (.cons (Fa ⟨g3,g4⟩) .nil))⟩,by simpa using g7⟩
end
noncomputable def Ft:Nat->List (Nat×F5):=fun R=>(194,K4 3 3 0 [.Au 3 0,CB] (.Ec [Rm,EB]) R)::(123,Ph 2 1 [.Au 3 0,CB,CB,rpA,HW] (.Ec [Rm,EB]) R)::(214,Ph 1 1 [.Au 3 0,CB,CB,XA] EB R)::(148,Ph 1 1 [.Au 3 0,CB,.agg WI] EB R)::(151,K4 3 3 0 [.Au 3 0,CB] EB R)::(128,K4 3 3 0 [.Au 3 0,CB] EB R)::(129,K4 3 3 0 [.Au 3 0,CB] EB R)::(132,K4 3 3 0 [.Au 3 0,CB] EB R)::(242,K4 3 3 0 [.Au 3 0,CB] (.Ec [Bw,EB]) R)::(125,K4 3 3 0 [.Au 3 0,CB,HW] EB R)::(209,jD)::iu R
abbrev GL:AV:=.agg [oP,mP,tP,xP,rP]
abbrev PN:AV:=.agg (al++[iv 0 3,CB,iv 0 3,CB,CB])
abbrev J2:AV:=.LU 144 (.agg [iv 0 100])
abbrev Nq:AV:=.agg ([CB,Bw]++List.replicate 8 Bw++[Bw,.boo none,CB])
abbrev Ht:List AB:=[.res 0 [],.res 1 [],.res 2 [0],.res 3 [0],.cells [.Au 0 0,.Au 1 0] 134,.cells [oP,mP,tP,xP,rP,.mp 6,.junk,CB,Bw,.junk] 89,.Hl Nq]
abbrev nP:AV:=.Au 5 0
abbrev HV:AV:=.agg (List.replicate 6 Bw)
abbrev LZ:AV:=.agg (List.replicate 4 Bw)
def jE:=nG Ft 233 Eb [2,3,0,1] [GL] [(false,.boo none)] 0
theorem bH:Sm Ft jE:=.g .refl
def jF:=nG jE 217 Eb [2,3,0,1] [GL,CB,CB] [(false,.Ec [PN,EB])] 0
theorem bI:Sm Ft jF:=.g bH
def jG:=nG jF 287 Eb [2,3,1] [GL,CB] [(false,EB)] 0
theorem bJ:Sm Ft jG:=.g bI
def jH:=nG jG 213 Eb [2,3,1] [GL,PN,.boo none,CB,CB] [(false,EB)] 0
theorem bK:Sm Ft jH:=.g bJ
def jI:=nG jH 215 Eb [2,3,0,1] [GL,PN,CB,CB,XA] [(false,WE)] 0
theorem bL:Sm Ft jI:=.g bK
def jJ:=nG jI 218 Eb [2,3,0,1] [GL,PN,CB,CB] [(false,CB)] 0
theorem bM:Sm Ft jJ:=.g bL
def jK:=nG jJ 220 Eb [2,3,0] [GL,PN,iv 0 127,HW,EB] [(false,.boo none)] 20
theorem bN:Sm Ft jK:=.g bM
def jL:=nG jK 222 Eb [2,3,0] [GL,CB,PN,iv 0 127,HW] [(false,WE)] 20
theorem bO:Sm Ft jL:=.g bN
def jM:=nG jL 141 Eb [2,3,0,1] [GL,CB,iv 0 127,CB,XA] [(false,EB)] 5
theorem bP:Sm Ft jM:=.g bO
def jN:=nG jM 142 Eb [2,3,0,1] [GL,CB,iv 0 127,CB] [(false,EB)] 5
theorem bQ:Sm Ft jN:=.g bP
def jO:=nG jN 157 Eb [2,3,0,1] [GL,CB,iv 0 127,CB] [(false,.Ec [Bw,EB])] 100
theorem bR:Sm Ft jO:=.g bQ
def jP:=nG jO 158 Eb [2,3,0,1] [GL,CB,iv 0 127,CB,CB,Bw] [(false,EB)] 100
theorem bS:Sm Ft jP:=.g bR
def jQ:=nG jP 143 Eb [2,3,0,1] [GL,CB,iv 0 127] [(false,.Ec [CB,EB])] 100
theorem bT:Sm Ft jQ:=.g bS
def jR:=nG jQ 369 Eb [2,3,0,1] [GL,CB,CB] [(false,.Ec [.boo none,EB])] 5
theorem bU:Sm Ft jR:=.g bT
def jS:=nG jR 145 Eb [2,3,0,1] [GL,CB,CB,CB] [(false,EB)] 5
theorem bV:Sm Ft jS:=.g bU
def jT:=nG jS 146 Eb [2,3,0,1] [GL,CB,CB] [(false,.Ec [CB,EB])] 5
theorem bW:Sm Ft jT:=.g bV
def jU:=nG jT 299 Eb [2,3,0,1] [GL,CB,Bw] [(false,.Ec [Bw,.boo none])] 5
theorem bX:Sm Ft jU:=.g bW
def jV:=nG jU 342 Eb [2,3,0,1] [GL,CB,Bw,Bw] [(false,.Ec [.boo none,.boo none])] 5
theorem bY:Sm Ft jV:=.g bX
def jW:=nG jV 296 Eb [2,3,0,1] [GL,CB,Bw] [(false,.Ec [Bw,.boo none])] 5
theorem bZ:Sm Ft jW:=.g bY
def jX:=nC jW 120 [XA] [(false,.Ec [rpA,EB])]
theorem bf:Sm Ft jX:=.c bZ
def jY:=nC jX 147 [XA] [(false,.Ec [.agg (List.replicate 8 Bw++[Bw,.boo none]),EB])]
theorem bh:Sm Ft jY:=.c bf
def jZ:=nG jY 139 Eb [2,3,0,1] [xP,CB,CB,iv 1 3] [(false,.Ec [CB,EB])] 0
theorem bi:Sm Ft jZ:=.g bh [3]
def ja:=nG jZ 115 Ht [2,3,0] [nP,Bw] [(false,CB),(true,J2)] 0
theorem bj:Sm Ft ja:=.g bi
def jb:=nG ja 116 Ht [2,3,1] [nP,CB] [(false,WE),(true,J2)] 0
theorem br:Sm Ft jb:=.g bj
def jc:=nG jb 119 Ht [2,3,1] [nP,CB] [(false,WE),(true,J2)] 0
theorem bu:Sm Ft jc:=.g br
def sG:=nG jc 73 Ht [2,3,0,1] [nP,HV] [(false,LZ),(true,J2)] 200
theorem jd:Sm Ft sG:=.g bu
def sH:=nG sG 74 Ht [2,3,0,1] [nP,HV] [(false,LZ),(true,J2)] 200
theorem je:Sm Ft sH:=.g jd
def sJ:=nG sH 76 Ht [2,3,0,1] [nP,HV] [(false,LZ),(true,J2)] 200
theorem jf:Sm Ft sJ:=.g je
def sK:=nG sJ 77 Ht [2,3,0,1] [nP,HV] [(false,LZ),(true,J2)] 200
theorem jg:Sm Ft sK:=.g jf
def sL:=nG sK 78 Ht [2,3,0,1] [nP,HV] [(false,LZ),(true,J2)] 200
theorem jh:Sm Ft sL:=.g jg
def sM:=nG sL 79 Ht [2,3,0,1] [nP,HV] [(false,LZ),(true,J2)] 200
theorem ji:Sm Ft sM:=.g jh
def sN:=nG sM 80 Ht [2,3,0,1] [nP,HV] [(false,LZ),(true,J2)] 200
theorem jj:Sm Ft sN:=.g ji
def sO:=nG sN 81 Ht [2,3,0,1] [nP,HV] [(false,LZ),(true,J2)] 200
theorem jk:Sm Ft sO:=.g jj
def sP:=nG sO 82 Ht [2,3,0,1] [nP,HV] [(false,LZ),(true,J2)] 200
theorem jl:Sm Ft sP:=.g jk
def sQ:=nG sP 83 Ht [2,3,0,1] [nP,HV] [(false,LZ),(true,J2)] 200
theorem jm:Sm Ft sQ:=.g jl
def sR:=nG sQ 84 Ht [2,3,0,1,6] [nP,HV] [(false,LZ),(true,J2)] 200
theorem jo:Sm Ft sR:=.g jm
def sS:=nG sR 85 Ht [2,3,0,1,6] [nP,HV] [(false,LZ),(true,J2)] 200
theorem jq:Sm Ft sS:=.g jo
def sU:=nG sS 87 Ht [2,3,0,1] [nP,HV] [(false,LZ),(true,J2)] 200
theorem jr:Sm Ft sU:=.g jq
def sV:=nG sU 88 Ht [2,3,0,1] [nP,HV] [(false,LZ),(true,J2)] 200
theorem js:Sm Ft sV:=.g jr
def sW:=nG sV 89 Ht [2,3,0,1] [nP,HV] [(false,LZ),(true,J2)] 200
theorem ju:Sm Ft sW:=.g js
def sX:=nG sW 90 Ht [2,3,0,1] [nP,HV] [(false,LZ),(true,J2)] 200
theorem jv:Sm Ft sX:=.g ju
def jw:=nC sX 153 [XA] [(false,.Ec [.agg (List.replicate 4 Bw),EB])]
theorem bw:Sm Ft jw:=.c jv
def jx:=nC jw 155 [.agg ([CB]++List.replicate 4 Bw++[Bw,.boo none,CB])] [(false,.Ec [XA,EB])]
theorem bz:Sm Ft jx:=.c bw
def jy:=nC jx 234 [Nq,.agg (List.replicate 4 Bw)] [(false,.Ec [Nq,EB])]
theorem cB:Sm Ft jy:=.c bz
end
end Go.Proofs.YtfekkjbdcdnhlaaGreatDoor.Sep
