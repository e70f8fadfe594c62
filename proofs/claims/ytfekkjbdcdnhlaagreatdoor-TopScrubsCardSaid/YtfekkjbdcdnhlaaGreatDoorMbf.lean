/- Lemmas for TopScrubs. No condition but those that each states. -/
import Derived.Test.YtfekkjbdcdnhlaaGreatDoorMbb
import Derived.Test.YtfekkjbdcdnhlaaGreatDoorMbe
import Derived.Test.YtfekkjbdcdnhlaaGreatDoorMbd
import Derived.Test.YtfekkjbdcdnhlaaGreatDoorMaw
set_option linter.all false
set_option maxHeartbeats 8000000
set_option maxRecDepth 100000
namespace Go.Proofs.YtfekkjbdcdnhlaaGreatDoor.Sep
noncomputable section
noncomputable def OT:Nat->List (Nat×F5):=fun R=>(124,ZU 300 [.Au 2 0,.Au 0 0,Bw] (.Ec [HW,EB]) R)::jy R
def sZ:=nG OT 72 Ht [2,3,0,1] [nP,HV] [(false,LZ),(true,J2)] 400
theorem j9:Sm OT sZ:=.g .refl
def spW(ord:Nat->Nat->List Nat)(f id:Nat):Option (List Nat×List Nat):=bif(Nat.beq f 239&&Nat.beq id 1)||(Nat.beq f 301&&Nat.beq id 5)||(Nat.beq f 236&&Nat.beq id 28)then some ((ord f id).takeWhile (fun k=> !Nat.beq k 3),(ord f id).dropWhile (fun k=> !Nat.beq k 3))else none
noncomputable def cM(l:List (Nat×F5)):Ih:=L9 (DY l) (we (DY l) (E3 (DY l) 100000) (spW (DY l).ord)) 100000
theorem Rq{RS:EA}{l:List (Nat×F5)}(h:Ol Tryz.prog RS l):GK Tryz.prog RS (cM l):=KI (DU h) (Ro (DU h) (FG (DU h) _)) _
variable{RS:Nat->EA}{l:Nat->List (Nat×F5)}{f:Nat}{B:List AB}{M:List Nat}{DK:List AV}{IB:RN}
theorem Rr(h:Gv RS l)(is:List Nat)(hs:HU (DY (l 0)) (cM (l 0)) f B M DK IB is=true)(hf:f<2^24)(hc:E5 Tryz.prog f=true):Gv RS (fun R=>(f,Si B M DK IB)::l R):=fun K R hR=>⟨⟨Ub (DU (h K 0 I)) (Rq (h K 0 I)) is hs,hf,hc⟩,h K R hR⟩
noncomputable def ihL(L:SK)(l:Nat->List (Nat×F5))(δ R:Nat):Ih:=L9 (DY (l R)) (cK (Xj L (cM (l δ)) δ R) (we (DY (l R)) (E3 (DY (l R)) 100000) (spW (DY (l R)).ord))) 100000
theorem kQ(hR:GX RS)(h:Gv RS l)(δ:Nat)(L:SK)(δ0:Nat)(is:List Nat)(hs:PD (DY (l δ)) (ihL L l δ0 δ) f B M DK IB δ is=true)(hf:f<2^24)(hc:E5 Tryz.prog f=true):Gv RS (fun R=>(f,aJ B M DK IB δ R)::l R):=fun K R I7=>⟨⟨ZD (E:=fun R=>DY (l R)) (ih:=fun R=>ihL L l δ0 R) hR (fun K R h2=>DU (h K R h2)) (fun K R h2=>KI (DU (h K R h2)) (QS (wY hR h2 (fun K' h3=>Rq (h K' δ0 h3))) (Ro (DU (h K R h2)) (FG (DU (h K R h2)) _))) _) is hs K R I7,hf,hc⟩,h K R I7⟩
noncomputable def pO:Nat->List (Nat×F5):=fun R=>(62,wR)::(297,wS)::(302,wT)::sZ R
theorem pP(hR:GX RS)(h:Gv RS OT):Gv RS pO:=fun K R I7=>⟨⟨aC4,Ba,kR⟩,⟨aBd,Ba,kR⟩,⟨aBe,Ba,kR⟩,j9.ok hR h K R I7⟩
abbrev P7:List AV:=List.replicate 9 Bw
abbrev aBg:AV:=.agg ([CB]++List.replicate 4 Bw++[Bw,.boo none,CB])
theorem kS:HU (DY (pO 0)) (cM (pO 0)) 298 [] [] [.agg P7,.agg kA] [(false,.agg [iv 0 2,Bw,Bw])] []=true:=kR
noncomputable def U3:Nat->List (Nat×F5):=fun R=>(298,Si [] [] [.agg P7,.agg kA] [(false,.agg [iv 0 2,Bw,Bw])])::pO R
theorem cN(hR:GX RS)(h:Gv RS OT):Gv RS U3:=Rr (pP hR h) [] kS Ba kR
theorem kT:HU (DY (U3 0)) (cM (U3 0)) 301 [] [] [.agg P7,.agg kA,Bw] [(false,.Ec [.agg P7,.agg [iv 0 3,CB]])] []=true:=kR
noncomputable def U4:Nat->List (Nat×F5):=fun R=>(301,Si [] [] [.agg P7,.agg kA,Bw] [(false,.Ec [.agg P7,.agg [iv 0 3,CB]])])::U3 R
theorem cO(hR:GX RS)(h:Gv RS OT):Gv RS U4:=Rr (cN hR h) [] kT Ba kR
theorem kU:HU (DY (U4 0)) (cM (U4 0)) 239 [] [] [Nq,.agg P7,aBg] [(false,.Ec [Nq,EB])] []=true:=kR
noncomputable def kV:Nat->List (Nat×F5):=fun R=>(239,Si [] [] [Nq,.agg P7,aBg] [(false,.Ec [Nq,EB])])::U4 R
theorem cQ(hR:GX RS)(h:Gv RS OT):Gv RS kV:=Rr (cO hR h) [] kU Ba kR
def Zb:List AB:=Eb++[.unk (some Bw) 43]
def Nr:List AV:=[.Au 2 0,.Au 0 0,.Au 1 0,.Au 4 0,.Au 3 0,CB]++al++List.replicate 9 Bw++[.junk]++[CB]++List.replicate 4 Bw++[Bw,.boo none,.junk]++[.junk,.junk]
def aBn:SK:=⟨154,1,3,[5,6,7,10,12,14,15],12,5,Nr,Bw⟩
theorem Rt(hR:GX RS)(h:Gv RS l){gen:List AV}{H:Nat}{av:List AV}{IB:kW}(δ dj:Nat)(hs:runK (DY (l δ)) (cM (l δ)) f B gen H av IB δ dj=true)(hf:f<2^24)(hc:E5 Tryz.prog f=true):Gv RS (fun R=>(f,PO B gen H av IB δ dj R)::l R):=fun K R I7=>⟨⟨cT (E:=fun R=>DY (l R)) (ih:=fun R=>cM (l R)) hR (fun K R h2=>DU (h K R h2)) (fun K R h2=>Rq (h K R h2)) hs K R I7,hf,hc⟩,h K R I7⟩
noncomputable def pX:Nat->List (Nat×F5):=fun R=>(101,pW R)::(380,wx)::kV R
def WV(RS:Nat->EA):Prop:=∀K R,K+R<=HM->ET Tryz.prog (RS K) 101 (pW R)
theorem pY(hR:GX RS)(h:Gv RS OT)(h1:WV RS):Gv RS pX:=fun K R I7=>⟨⟨h1 K R I7,Ba,kR⟩,⟨aBl,Ba,kR⟩,cQ hR h K R I7⟩
theorem kh:runK (DY (pX 5)) (cM (pX 5)) 300 Eb Nr 10 [Bw,Bw] [(.boo none,0)] 5 1=true:=kR
noncomputable def U6:Nat->List (Nat×F5):=fun R=>(300,PO Eb Nr 10 [Bw,Bw] [(.boo none,0)] 5 1 R)::pX R
theorem cY(hR:GX RS)(h:Gv RS OT)(h1:WV RS):Gv RS U6:=Rt hR (pY hR h h1) 5 1 kh Ba kR
theorem ki:runK (DY (U6 10)) (cM (U6 10)) 347 Eb Nr 10 [.agg P7] [(.boo (some true),1)] 10 1=true:=kR
noncomputable def U7:Nat->List (Nat×F5):=fun R=>(347,PO Eb Nr 10 [.agg P7] [(.boo (some true),1)] 10 1 R)::U6 R
theorem cZ(hR:GX RS)(h:Gv RS OT)(h1:WV RS):Gv RS U7:=Rt hR (cY hR h h1) 10 1 ki Ba kR
theorem kj:runK (DY (U7 200)) (cM (U7 200)) 346 Eb Nr 100 [.agg P7] [(.boo (some true),1),(.boo (some false),0)] 200 40=true:=kR
noncomputable def U8:Nat->List (Nat×F5):=fun R=>(346,PO Eb Nr 100 [.agg P7] [(.boo (some true),1),(.boo (some false),0)] 200 40 R)::U7 R
theorem ce(hR:GX RS)(h:Gv RS OT)(h1:WV RS):Gv RS U8:=Rt hR (cZ hR h h1) 200 40 kj Ba kR
abbrev aBo:List AV:=([CB,Bw]++List.replicate 8 Bw++[Bw,.boo none,CB])++([CB]++List.replicate 4 Bw++[Bw,.boo none,CB])++[iv 0 20000,.junk]
theorem kl:PD (DY (U8 2300000)) (ihL aBn U8 220 2300000) 154 Zb [0,1,2,3,4,5] [GL,Nq,.agg (List.replicate 4 Bw),iv 0 10000,.GY 5 5 0 1 0] [(false,.Ec [.agg aBo,EB])] 2300000 []=true:=kR
noncomputable def km:Nat->List (Nat×F5):=fun R=>(154,aJ Zb [0,1,2,3,4,5] [GL,Nq,.agg (List.replicate 4 Bw),iv 0 10000,.GY 5 5 0 1 0] [(false,.Ec [.agg aBo,EB])] 2300000 R)::U8 R
theorem cf(hR:GX RS)(h:Gv RS OT)(h1:WV RS):Gv RS km:=kQ hR (ce hR h h1) 2300000 aBn 220 [] kl Ba kR
theorem Ol.filter{P:Program}{RS:EA}(g:Nat×F5->Bool):∀{l:List (Nat×F5)},Ol P RS l->Ol P RS (l.filter g)
 |[],h=>h
 |(f,c)::r,h=>by
  rw[List.filter_cons];split
  ·exact⟨h.1,Ol.filter g h.2⟩
  ·exact Ol.filter g h.2
noncomputable def xA:Nat->List (Nat×F5):=fun R=>(km R).filter fun x=> !(Gu x.1 [115,116,119,72,73,74,76,77,78,79,80,81,82,83,84,85,87,88,89,90])
theorem YE(hR:GX RS)(h:Gv RS OT)(h1:WV RS):Gv RS xA:=fun K R I7=>(cf hR h h1 K R I7).filter _
abbrev Pm(U:Nat):List AB:=Eb++[.unk (some Bw) 43,.cells [oP,mP,tP,xP,rP,.mp 7,.GY 5 5 0 1 2,iv 0 U,Bw,.junk] 89,.Hl Nq]
abbrev Pn:List AB:=Eb++[.unk (some Bw) 43,.cells [oP,mP,tP,xP,rP,.mp 7,.GY 5 5 0 1 2,CB,Bw,.junk] 89,.Hl Nq]
abbrev dE:Nat:=2400000
noncomputable def cE(f:Nat):List AV->St->Option (List R1):=B7 (DY (xA dE)) (cM (xA dE)) f
variable{K:Nat}
theorem kp(hR:GX RS)(h:Gv RS OT)(h1:WV RS)(hK:K+dE<=HM):ET Tryz.prog (RS K) f (cE f):=fun args s rs hc p hst hp vs hvs=>by subst hst;exact(FD (DU (YE hR h h1 K dE hK)) (Rq (YE hR h h1 K dE hK)) hp hc).2 vs hvs
abbrev cg:RN:=[(false,LZ),(true,J2)]
theorem pe:([72,73,74,76,77,78,79,80,81,82,83,84,85,87,88,89,90].all fun f=>LA (cE f) Pn Pn [0,1,2,3,7] [.Au 6 0,HV] cg dE)=true:=kR
theorem aBp:((List.range 125).all fun k=>LA (cE 86) (Pm (Nat.mul 20000 k)) (Pm (Nat.mul 20000 (Nat.succ k))) [0,1,2,3,4,5,6,7] [.Au 6 0,HV] cg dE)=true:=kR
def OX(n ob:Nat)(z:Nat->Bool)(K:Nat):EA:=fun i d b c=>
 if i=0 then d=[]/\Ni n b c
 else if i=1 then d=[]/\aI n z b c
 else if i=2 then G1 ob K d b c
 else if i=3 then M9 ob K d b c
 else if i=8 then∃H,d=[H]/\c=[]/\GQ b+H<4294967296
 else True
section
variable{n ob:Nat} {z:Nat->Bool} {K:Nat}
theorem kq(b:Nat)(c:List CH):OX n ob z K 0 [] b c↔Ni n b c:=by simp[OX]
theorem YF(b:Nat)(c:List CH):OX n ob z K 1 [] b c↔aI n z b c:=by simp[OX]
theorem OY(d:List Nat)(b:Nat)(c:List CH):OX n ob z K 2 d b c↔G1 ob K d b c:=by simp[OX]
theorem PP(d:List Nat)(b:Nat)(c:List CH):OX n ob z K 3 d b c↔M9 ob K d b c:=by simp[OX]
theorem aDh(d:List Nat)(b:Nat)(c:List CH):OX n ob z K 9 d b c:=by simp[OX]
end
theorem YG(n ob:Nat)(z:Nat->Bool):GX (OX n ob z) where
 same:=fun i h2 h3 K K' d b c h=>by simpa only[OX,h2,h3,Cc]using h
 shift:=fun i hi K AC a b c=>by
  rcases hi with rfl|rfl
  ·simp only[OY];exact KH
  ·simp only[PP];exact aO
 mono:=fun i hi K a a' b c haa h=>by
  rcases hi with rfl|rfl
  ·rw[OY]at h⊢;exact FQ haa h
  ·rw[PP]at h⊢;exact L6 haa h
 room:=fun K H b c=>by
  have e:OX n ob z K 8 [H] b c=∃H',[H]=[H']/\c=[]/\GQ b+H'<4294967296:=rfl;rw[e];constructor
  ·rintro⟨H',h1,h2⟩;cases h1;exact h2
  ·exact fun h=>⟨H,rfl,h⟩
variable{n ob:Nat}{z:Nat->Bool}
theorem Zc(hn:1<=n/\n<=4096):Gv (OX n ob z) OT/\WV (OX n ob z):=by
 have hR:=YG n ob z;have h1:Gv (OX n ob z) NA:=fun K R _=>vY hn kq YF
 have h2:Gv (OX n ob z) PK:=fun K R I7=>⟨⟨vP OY,Ba,kR⟩,⟨vQ OY I7,Ba,kR⟩,⟨aAV OY I7,Ba,kR⟩,⟨aCV OY aDh I7,Ba,kR⟩,⟨aAE,Ba,kR⟩,⟨ZJ,Ba,kR⟩,ai.ok hR h1 K R I7⟩
 have h3:Gv (OX n ob z) Ft:=fun K R I7=>⟨⟨aA4 PP I7,Ba,kR⟩,⟨aA7 OY PP I7,Ba,kR⟩,⟨aA6 OY PP I7,Ba,kR⟩,⟨aA5 OY PP I7,Ba,kR⟩,⟨aA1 PP,Ba,kR⟩,⟨aAY PP,Ba,kR⟩,⟨aAZ PP,Ba,kR⟩,⟨aA0 PP,Ba,kR⟩,⟨aA2 PP,Ba,kR⟩,⟨aA3 PP,Ba,kR⟩,⟨aA8,Ba,kR⟩,bG.ok hR h2 K R I7⟩
 exact⟨fun K R I7=>⟨⟨aBb hn OY kq I7,Ba,kR⟩,cB.ok hR h3 K R I7⟩,fun K R I7=>aBm OY I7⟩
theorem H48:Fn Tryz.prog 48 [] [] (fun e S'=>∃b L' clk,e=.returned (.map (some b))/\S'=[DX (Value.int .i64) b L' clk]/\∀k:Nat,1<=k->k<=21->E9 L' (k:Int)=some (.func (.func (69+k)) #[] #[])):=(Ti (DU (l:=[]) trivial) (FG (DU (l:=[]) trivial) 100000) o8).mono fun e S' ⟨b,L,L',clk,ρ,h1,h2,h3,h4,h5⟩=>⟨b,L',clk,h1,h2,Tj h3 h4 h5⟩
abbrev six:List AV:=List.replicate 6 Bw
theorem xB:HU (DY []) (E3 (DY []) 100000) 47 [] [] [.agg (.int .i64 (.negSucc 9223372036854775807) (.ofNat 0)::six)] [(false,.boo (some false))] []=true:=kR
theorem xC:HU (DY []) (E3 (DY []) 100000) 47 [] [] [.agg (iv 22 9223372036854775807::six)] [(false,.boo (some false))] []=true:=kR
theorem pj:((List.range 22).all fun k=>Nat.beq k 0||(HU (DY []) (E3 (DY []) 100000) 47 [] [] [.agg (iv k k::six)] [(false,.boo none)] []&&G0 [.agg (iv k k::six)] [.agg (iv k k::six)]))=true:=kR
def W6(a:Nat->Nat):Prop:=∀i,a i<=18446744073709551615
abbrev P8(a:Nat->Nat):List Value:=[.int .u64 (a 0:Int),.int .u64 (a 1:Int),.int .u64 (a 2:Int),.int .u64 (a 3:Int),.int .u64 (a 4:Int),.int .u64 (a 5:Int)]
variable{ρ:Nm}{a:Nat->Nat}
theorem OZ(h:W6 a):Bt ρ six (P8 a):=by
 have e:∀i,EM ρ Bw (.int .u64 (a i:Int)):=fun i=>.int (by rw[Fj];exact Int.natCast_nonneg _) (by rw[F2];have:=h i;show(a i:Int)<=18446744073709551615;omega)
 exact .cons (e 0) (.cons (e 1) (.cons (e 2) (.cons (e 3) (.cons (e 4) (.cons (e 5) .nil)))))
variable{op:Int}
theorem H47(ho: -9223372036854775808<=op/\op<=9223372036854775807)(ha:W6 a):
 Fn Tryz.prog 47 [.agg (.int .i64 op::P8 a).toArray] [] (Dv (ι:=Bool) (fun b=>b=true->1<=op/\op<=21) (fun b=>.bool b) (fun _=>[])):=by
 by_cases h1:op<=0
 ·refine(IF xB (.cons (.agg (.cons (.int (by show(-9223372036854775808:Int)<=op;omega) (by show op<=0;omega)) (OZ ha))) .nil) kR).mono ?_;rintro e S' ⟨v,hv,rfl,rfl⟩;cases hv;exact⟨false,fun h=>(by cases h),rfl,rfl⟩
 ·by_cases h2:22<=op
  ·refine(IF xC (.cons (.agg (.cons (.int (by show(22:Int)<=op;omega) (by show op<=9223372036854775807;omega)) (OZ ha))) .nil) kR).mono ?_;rintro e S' ⟨v,hv,rfl,rfl⟩;cases hv;exact⟨false,fun h=>(by cases h),rfl,rfl⟩
  ·obtain⟨k,rfl⟩:=BO (show 0<=op by omega);have hm:=AY.1 pj k (Ak.2 I);simp only[BI,AI]at hm;rcases hm with hm|hm
   ·have:=AK hm;omega
   ·refine(IF hm.1 (.cons (.agg (.cons (.int (A4 _) (A4 _)) (OZ ha))) .nil) hm.2).mono ?_;rintro e S' ⟨v,hv,rfl,rfl⟩;cases hv with| @Jh b=>exact⟨b,fun _=>I,rfl,rfl⟩
variable{P:Program}{args:List Value}{S:A2}
theorem Fn.sg{T:A2}{R:Ending->A2->Prop}(h:Fn P f args S R)(hp:S.Perm T):Fn P f args T R:=fun A U w hs=>h A U w (hs.perm (hp.symm.append_right U))
theorem Fn.aBq{R:Ending->A2->Prop}(h:Fn P f args S (fun e S'=>∃T,S'.Perm T/\R e T)):Fn P f args S R:=fun A U w hs=>(h A U w hs).mono fun e w' ⟨h0,S',h1,T,hp,hr⟩=>⟨h0,T,h1.perm (hp.append_right U),hr⟩
def zR(R:List Rw)(g:Nat):Bool:=match R[g]? with
 |some r=>decide (r.1=0)
 |none=>false
variable{R:List Rw}{r:Rw}
theorem Tt{g:Nat}(h:R[g]? =some r):r.1=0↔zR R g=true:=by simp[zR,h]
structure IZ (n ob K U:Nat) (ρ:Nm) (R:List Rw) (B:List Int) (S:A2):Prop where
 at_:Ru (OX n ob (zR R) K) ρ (Pm U) S
 rows:(∀r∈R,Lt r)/\R.length=n
 mem:B.length=128*n/\BN B
 s0:∃m0 x ab,ρ[0]? =some (m0,x)/\S[0]? =some (Dy m0 ab n++EY ab B)
 s1:∃r0 x rb,ρ[1]? =some (r0,x)/\S[1]? =some (Ei r0 rb n++Em rb R)
def Oa(R R':List Rw)(B':List Int):Prop:=∀(g:Nat) (r r':Rw),R[g]? =some r->R'[g]? =some r'->(r.1≠0->r'.1=0->r.1=1/\sub B' g=BQ 128)/\(r.1=0->r'.1<=1)
variable{R':List Rw}{B':List Int}
theorem Oa.same(h:∀j r,R'[j]? =some r->(r.1=0↔zR R j=true)):Oa R R' B':=fun g r r' h1 h2=>by have e1:=Tt h1;have e2:=h g r' h2;refine⟨fun a b=>absurd (e1.2 (e2.1 b)) a,fun a=> ?_⟩;rw[e2.2 (e1.1 a)];decide
section
variable{n ob K U:Nat} {z:Nat->Bool} {ρ:Nm} {S:A2}
theorem Ru.at8{RS:EA}(h:Ru RS ρ (Pm U) S):∃c0 c1 c2 c3 c4 c5 c6 c7,S=[c0,c1,c2,c3,c4,c5,c6,c7]/\Da RS ρ 0 (.res 0 []) c0/\Da RS ρ 1 (.res 1 []) c1/\Da RS ρ 2 (.res 2 [0]) c2/\Da RS ρ 3 (.res 3 [0]) c3/\Da RS ρ 4 (.cells [.Au 0 0,.Au 1 0] 134) c4/\Da RS ρ 5 (.unk (some Bw) 43) c5/\Da RS ρ 6 (.cells [oP,mP,tP,xP,rP,.mp 7,.GY 5 5 0 1 2,iv 0 U,Bw,.junk] 89) c6/\Da RS ρ 7 (.Hl Nq) c7/\ρ.length=8:=by
 obtain⟨h0,h1,h2⟩:=h;have h1:S.length=8:=h1
 match S,h1,h2 with
 |[c0,c1,c2,c3,c4,c5,c6,c7],_,h2=>exact⟨c0,c1,c2,c3,c4,c5,c6,c7,rfl,h2 0 (show 0<8 by decide) DI,h2 1 (show 1<8 by decide) DI,h2 2 (show 2<8 by decide) DI,h2 3 (show 3<8 by decide) DI,h2 4 (show 4<8 by decide) DI,h2 5 (show 5<8 by decide) DI,h2 6 (show 6<8 by decide) DI,h2 7 (show 7<8 by decide) DI,h0⟩
theorem Ru.pn{RS:EA}{c0 c1 c2 c3 c4 c5 c6 c7:List CH}{B:AB}(h0:Da RS ρ 0 (.res 0 []) c0)(h1:Da RS ρ 1 (.res 1 []) c1)(h2:Da RS ρ 2 (.res 2 [0]) c2)(h3:Da RS ρ 3 (.res 3 [0]) c3)(h4:Da RS ρ 4 (.cells [.Au 0 0,.Au 1 0] 134) c4)(h5:Da RS ρ 5 (.unk (some Bw) 43) c5)(h6:Da RS ρ 6 B c6)(h7:Da RS ρ 7 (.Hl Nq) c7)(hl:ρ.length=8):Ru RS ρ (Eb++[.unk (some Bw) 43,B,.Hl Nq]) [c0,c1,c2,c3,c4,c5,c6,c7]:=by
 refine⟨hl,rfl,fun k hk hk'=> ?_⟩;have hk:k<8:=hk
 match k,hk,hk' with
 |0,_,_=>exact h0
 |1,_,_=>exact h1
 |2,_,_=>exact h2
 |3,_,_=>exact h3
 |4,_,_=>exact h4
 |5,_,_=>exact h5
 |6,_,_=>exact h6
 |7,_,_=>exact h7
variable{z':Nat->Bool}{b:Nat}
theorem YH{z:Nat->Bool}{c:List CH}(hz:∀j,j<n->z j=z' j)(h:aI n z b c):aI n z' b c:=by obtain⟨rb,R,e,hR,hk,hj⟩:=h;refine⟨rb,R,e,hR,hk,fun j r hr=> ?_⟩;rw[<-hz j (by rw[<-hR];exact(Ae.1 hr).1)];exact hj j r hr
variable{k:Nat}
theorem KN{z:Nat->Bool}{ab:AB}{c:List CH}(hn:∀d,ab≠.res 1 d)(h:Da (OX n ob z K) ρ k ab c):Da (OX n ob z' K) ρ k ab c:=
 V5 h fun i d e b hb=>by
  have h1:i≠1:=fun h=>hn d (by rw[e,h])
  simpa only[OX,h1,Cc]using hb
theorem QT(h:Ru (OX n ob z K) ρ (Pm U) S):∃R B,IZ n ob K U ρ R B S/\∀j r,R[j]? =some r->(r.1=0↔z j=true):=by
 obtain⟨c0,c1,c2,c3,c4,c5,c6,c7,rfl,h0,h1,h2,h3,h4,h5,h6,h7,hl⟩:=h.at8;have h0':=h0;have h1':=h1;cases h0' with|res p0 q0=>
 cases h1' with|res p1 q1=>
 obtain⟨ab,B,e0,hB,hb⟩:=(kq _ _).1 q0;obtain⟨rb,R,e1,hR,hk,hz⟩:=(YF _ _).1 q1;have hzz:∀j,j<n->z j=zR R j:=fun j hj=>by have hr:=AZ (l:=R) (i:=j) I;have a1:=hz j _ hr;have a2:=Tt hr;have:z j=true↔zR R j=true:=a1.symm.trans a2;cases hzj:z j<;>cases hRj:zR R j<;>simp[hzj,hRj]at this⊢
 refine⟨R,B,⟨Ru.pn (KN DI h0) (.res p1 ((YF _ _).2 (YH hzz ((YF _ _).1 q1)))) (KN DI h2) (KN DI h3) (KN DI h4) (KN DI h5) (KN DI h6) (KN DI h7) hl,⟨hk,hR⟩,⟨hB,hb⟩,⟨_,_,ab,p0,by rw[e0];rfl⟩,⟨_,_,rb,p1,by rw[e1];rfl⟩⟩,hz⟩
variable{m0 x r0:Nat}
theorem IZ.put{B:List Int}{ab y rb:Nat}{c0 c1 c2 c3 c4 c5 c6 c7:List CH}(h:IZ n ob K U ρ R B [c0,c1,c2,c3,c4,c5,c6,c7])(HK:ρ[0]? =some (m0,x))(aBr:ρ[1]? =some (r0,y))(hR:(∀r∈R',Lt r)/\R'.length=n)(hB:B'.length=128*n/\BN B'):
 IZ n ob K U ρ R' B' [Dy m0 ab n++EY ab B',Ei r0 rb n++Em rb R',c2,c3,c4,c5,c6,c7]:=by
 obtain⟨d0,d1,d2,d3,d4,d5,d6,d7,e,h0,h1,h2,h3,h4,h5,h6,h7,hl⟩:=h.at_.at8;cases e;exact⟨Ru.pn (.res HK ((kq _ _).2 ⟨ab,B',rfl,hB.1,hB.2⟩)) (.res aBr ((YF _ _).2 ⟨rb,R',rfl,hR.2,hR.1,fun j r hr=>Tt hr⟩)) (KN DI h2) (KN DI h3) (KN DI h4) (KN DI h5) (KN DI h6) (KN DI h7) hl,hR,hB,⟨_,_,ab,HK,rfl⟩,⟨_,_,rb,aBr,rfl⟩⟩
theorem IZ.aDi{U':Nat}{B:List Int}{c0 c1 c2 c3 c4 c5 c6 c7 d6:List CH}(h:IZ n ob K U ρ R B [c0,c1,c2,c3,c4,c5,c6,c7])(h6:Da (OX n ob (zR R) K) ρ 6 (.cells [oP,mP,tP,xP,rP,.mp 7,.GY 5 5 0 1 2,iv 0 U',Bw,.junk] 89) d6):
 IZ n ob K U' ρ R B [c0,c1,c2,c3,c4,c5,d6,c7]:=by
 obtain⟨e0,e1,e2,e3,e4,e5,e6,e7,e,h0,h1,h2,h3,h4,h5,_,h7,hl⟩:=h.at_.at8;cases e;exact⟨Ru.pn h0 h1 h2 h3 h4 h5 h6 h7 hl,h.rows,h.mem,h.s0,h.s1⟩
theorem IZ.more{B:List Int}(h:IZ n ob K U ρ R B S)(d U':Nat)(hU:U<=U'):IZ n ob (K+d) U' ρ R B S:=by
 obtain⟨c0,c1,c2,c3,c4,c5,c6,c7,e,h0,h1,h2,h3,h4,h5,h6,h7,hl⟩:=h.at_.at8;have hF:=YG n ob (zR R);have up:∀i,i=2\/i=3->∀k c,Da (OX n ob (zR R) K) ρ k (.res i [0]) c->Da (OX n ob (zR R) (K+d)) ρ k (.res i [0]) c:=fun i hi k c hc=>by
  cases hc with|res f1 f2=>
  exact .res f1 ((hF.shift i hi K d 0 _ _).1 (hF.mono i hi K 0 (d+0) _ _ (Cj _) f2))
 have h6':Da (OX n ob (zR R) (K+d)) ρ 6 (.cells [oP,mP,tP,xP,rP,.mp 7,.GY 5 5 0 1 2,iv 0 U',Bw,.junk] 89) c6:=by
  cases h6 with|cells g1 g2=>
  obtain⟨v,v1,v2⟩:=g2.at (n:=7) J;cases v2 with| @int _ _ _ u w1 w2=>
  have w2:u<=(U:Int):=w2;have:=g2.set 7 (EM.int (ρ:=ρ) (k:=.i64) (lo:=.ofNat 0) (hi:=.ofNat U') (z:=u) w1 (by show u<=(U':Int);omega));rw[Fo v1]at this;exact .cells g1 this
 subst e;exact⟨Ru.pn (hF.non J h0) (hF.non J h1) (up 2 (.inl J) _ _ h2) (up 3 (.inr J) _ _ h3) (hF.non J h4) (hF.non J h5) h6' (hF.non J h7) hl,h.rows,h.mem,h.s0,h.s1⟩
end
def IG(n ob K U:Nat)(ρ:Nm)(R:List Rw):Ending->A2->Prop:=fun e S'=>(∃R' B',IZ n ob K U ρ R' B' S'/\Oa R R' B')/\((∃a b d g:Int,e=.returned (.agg [.int .u64 a,.int .u64 b,.int .u64 d,.int .u64 g].toArray))\/∃c:Int,e=.panicked [{v:=Nj c,recovered:=false}])
variable{e:Ending}
theorem xE(h:wU ρ cg e):(∃a b d g:Int,e=.returned (.agg [.int .u64 a,.int .u64 b,.int .u64 d,.int .u64 g].toArray))\/∃c:Int,e=.panicked [{v:=Nj c,recovered:=false}]:=by
 obtain⟨v,x,hx,hc,h⟩:=h;simp only[cg,Ab,Az,BX]at hx;rcases hx with rfl|rfl
 ·rcases h with⟨_,rfl⟩|⟨h,_⟩
  ·cases hc with|agg hc=>
   cases hc with|cons a1 hc=>cases hc with|cons a2 hc=>cases hc with|cons a3 hc=>cases hc with|cons a4 hc=>
   cases hc;cases a1;cases a2;cases a3;cases a4;exact .inl ⟨_,_,_,_,rfl⟩
  ·cases h
 ·rcases h with⟨h,_⟩|⟨_,rfl⟩
  ·cases h
  ·cases hc with|LU hc=>
   cases hc with|agg hc=>
   cases hc with|cons a1 hc=>
   cases hc;cases a1;exact .inr ⟨_,rfl⟩
section
variable{n ob K U mb xb:Nat} {ρ:Nm} {S:A2} {R:List Rw} {B:List Int} {a:Nat->Nat}
theorem Ru.toU{RS:EA}(hU:U<=9223372036854775807)(h:Ru RS ρ (Pm U) S):Ru RS ρ Pn S:=by
 obtain⟨c0,c1,c2,c3,c4,c5,c6,c7,rfl,h0,h1,h2,h3,h4,h5,h6,h7,hl⟩:=h.at8;refine Ru.pn h0 h1 h2 h3 h4 h5 ?_ h7 hl;cases h6 with|cells g1 g2=>
 obtain⟨v,v1,v2⟩:=g2.at (n:=7) J;cases v2 with| @int _ _ _ u w1 w2=>
 have w1:(0:Int)<=u:=w1;have w2:u<=(U:Int):=w2;have hc:EM ρ CB (.int .i64 u):=.int (by rw[Fj];show(-9223372036854775808:Int)<=u;omega) (by rw[F2];show u<=(9223372036854775807:Int);omega);have:=g2.set 7 hc;rw[Fo v1]at this;exact .cells g1 this
theorem Ru.u8{RS:EA}(h:Ru RS ρ Pn S):∃c0 c1 c2 c3 c4 c5 c6 c7,S=[c0,c1,c2,c3,c4,c5,c6,c7]/\Da RS ρ 0 (.res 0 []) c0/\Da RS ρ 1 (.res 1 []) c1/\Da RS ρ 2 (.res 2 [0]) c2/\Da RS ρ 3 (.res 3 [0]) c3/\Da RS ρ 4 (.cells [.Au 0 0,.Au 1 0] 134) c4/\Da RS ρ 5 (.unk (some Bw) 43) c5/\Da RS ρ 7 (.Hl Nq) c7/\ρ.length=8:=by
 obtain⟨h0,h1,h2⟩:=h;have h1:S.length=8:=h1
 match S,h1,h2 with
 |[c0,c1,c2,c3,c4,c5,c6,c7],_,h2=>exact⟨c0,c1,c2,c3,c4,c5,c6,c7,rfl,h2 0 (show 0<8 by decide) DI,h2 1 (show 1<8 by decide) DI,h2 2 (show 2<8 by decide) DI,h2 3 (show 3<8 by decide) DI,h2 4 (show 4<8 by decide) DI,h2 5 (show 5<8 by decide) DI,h2 7 (show 7<8 by decide) DI,h0⟩
theorem xF{ρ:Nm}(hρ:ρ[6]? =some (mb,xb))(ha:W6 a):Bt ρ [.Au 6 0,HV] [Au mb,.agg (P8 a).toArray]:=.cons (.Au hρ) (.cons (.agg (OZ ha)) .nil)
theorem Oa.refl(R:List Rw)(B:List Int):Oa R R B:=.same fun j r hr=>Tt hr
theorem cj(hf:LA (cE f) Pn Pn [0,1,2,3,7] [.Au 6 0,HV] cg dE=true)(hn:1<=n/\n<=4096)(hX:IZ n ob K U ρ R B S)(hU:U<=9223372036854775807)(hK:K+dE<=HM)(hρ:ρ[6]? =some (mb,xb))(ha:W6 a):
 Fn Tryz.prog f [Au mb,.agg (P8 a).toArray] S (IG n ob (K+dE) U ρ R):=by
 have hF:=YG n ob (zR R);obtain⟨hroot,YI⟩:=Zc (ob:=ob) (z:=zR R) hn;refine(U9 hF (kp hF hroot YI hK) hf (hX.at_.toU hU) (xF hρ ha)).mono ?_;rintro e S' ⟨he,hS,hk⟩;refine⟨?_,xE he⟩;obtain⟨d0,d1,d2,d3,d4,d5,d6,d7,e0,h0,h1,h2,h3,h4,h5,h6,h7,hl⟩:=hX.at_.at8;obtain⟨c0,c1,c2,c3,c4,c5,c6,c7,rfl,g0,g1,g2,g3,g4,g5,g7,_⟩:=hS.u8;subst e0;have e6:c6=d6:=hk 6 DI DI Ba;subst e6;obtain⟨R',B',hL,hz⟩:=QT (Ru.pn g0 g1 g2 g3 g4 g5 (hF.non J h6) g7 hl);exact⟨R',B',hL,.same hz⟩
variable{k:Nat}
theorem YJ(hk:k<125)(hn:1<=n/\n<=4096)(hX:IZ n ob K (20000*k) ρ R B S)(hK:K+dE<=HM)(hρ:ρ[6]? =some (mb,xb))(ha:W6 a):
 Fn Tryz.prog 86 [Au mb,.agg (P8 a).toArray] S (IG n ob (K+dE) (20000*(k+1)) ρ R):=by
 have hF:=YG n ob (zR R);obtain⟨hroot,YI⟩:=Zc (ob:=ob) (z:=zR R) hn;have hf:=AY.1 aBp k (Ak.2 hk);refine(U9 hF (kp hF hroot YI hK) hf hX.at_ (xF hρ ha)).mono ?_;rintro e S' ⟨he,hS,_⟩;refine⟨?_,xE he⟩;obtain⟨R',B',hL,hz⟩:=QT hS;exact⟨R',B',hL,.same hz⟩
variable{j:Nat}
theorem WW{x:Rw}(h:(∀r∈R,Lt r)/\R.length=n)(hx:Lt x):(∀r∈R.set j x,Lt r)/\(R.set j x).length=n:=
 ⟨fun y hy=>by
  rcases List.mem_or_eq_of_mem_set hy with hy|rfl
  ·exact h.1 y hy
  ·exact hx,by simpa using h.2⟩
theorem IZ.own(hX:IZ n ob K U ρ R B S):∃m0 x0 r0 x1 ab rb mb x6 v0 v3 v4 rc v6 v7 v8 v9 c2 c3 c4 c5 c7,ρ[0]? =some (m0,x0)/\ρ[1]? =some (r0,x1)/\ρ[6]? =some (mb,x6)/\S=[Dy m0 ab n++EY ab B,Ei r0 rb n++Em rb R,c2,c3,c4,c5,A7 mb (X1 v0 m0 r0 v3 v4 (.map (some rc)) v6 v7 v8 v9) 89,c7]/\IZ n ob K U ρ R B [Dy m0 ab n++EY ab B,Ei r0 rb n++Em rb R,c2,c3,c4,c5,A7 mb (X1 v0 m0 r0 v3 v4 (.map (some rc)) v6 v7 (.int .u64 0) (.slice none 0 0)) 89,c7]:=by
 obtain⟨c0,c1,c2,c3,c4,c5,c6,c7,rfl,h0,h1,h2,h3,h4,h5,h6,h7,hl⟩:=hX.at_.at8;obtain⟨m0,x0,ab,p0,q0⟩:=hX.s0;obtain⟨r0,x1,rb,p1,q1⟩:=hX.s1;simp only[Ci,DR,AH]at q0 q1;subst q0 q1;cases h6 with| @cells _ _ mb x6 vs g1 g2=>
 cases g2 with|cons k0 g2=>cases g2 with|cons k1 g2=>cases g2 with|cons k2 g2=>cases g2 with|cons k3 g2=>cases g2 with|cons k4 g2=>cases g2 with|cons k5 g2=>cases g2 with|cons k6 g2=>cases g2 with|cons k7 g2=>cases g2 with|cons k8 g2=>cases g2 with|cons k9 g2=>
 cases g2;cases k1 with|Au k1=>
 cases k2 with|Au k2=>
 cases k5 with|mp k5=>
 rw[p0]at k1;cases k1;rw[p1]at k2;cases k2;refine⟨m0,x0,r0,x1,ab,rb,mb,x6,_,_,_,_,_,_,_,_,_,_,_,_,_,p0,p1,g1,rfl,hX.aDi (.cells g1 (.cons k0 (.cons (.Au p0) (.cons (.Au p1) (.cons k3 (.cons k4 (.cons (.mp k5) (.cons k6 (.cons k7 (.cons (.int ?_ ?_) (.cons (.junk J) .nil)))))))))))⟩
 ·rw[Fj];decide
 ·rw[F2];decide
theorem po(hn:1<=n/\n<=4096)(hX:IZ n ob K U ρ R B S)(hρ:ρ[6]? =some (mb,xb))(ha:W6 a):Fn Tryz.prog 70 [Au mb,.agg (P8 a).toArray] S (IG n ob K U ρ R):=by
 obtain⟨m0,x0,r0,x1,ab,rb,mb',x6,v0,v3,v4,rc,v6,v7,v8,v9,c2,c3,c4,c5,c7,p0,p1,p6,rfl,_⟩:=hX.own;rw[hρ]at p6;cases p6;refine(f70 (R:=R) (B:=B) (ab:=ab) (rb:=rb) (n:=n) (a1:=.int .u64 (a 1)) (a2:=.int .u64 (a 2)) (a3:=.int .u64 (a 3)) (a4:=.int .u64 (a 4)) (a5:=.int .u64 (a 5)) (v0:=v0) (m0:=m0) (r0:=r0) (v3:=v3) (v4:=v4) (v5:=.map (some rc)) (v6:=v6) (v7:=v7) (v8:=v8) (v9:=v9) (a:=a 0) (by have:=ha 0;omega) hX.rows.2 hn.2).Cd (F:=[c2,c3,c4,c5,c7]) ?_ ?_
 ·simp only[P6,AW,A0,Am,AQ,AS,AU];exact C2 fun _ x=>by simp only[Ax,Db];omega
 ·rintro e S' (⟨c,_,_,rfl,rfl⟩|⟨rfl,j,r,hr,h0,rfl⟩)
  ·refine⟨_,⟨⟨R,B,hX,.refl R B⟩,.inr ⟨c,rfl⟩⟩,?_⟩;simp only[P6,AW,A0,Am,AQ,AS,AU];exact C2 fun _ x=>by simp only[Ax,Db];omega
  ·have hjn:=(Ae.1 hr).1;have hro:=hX.rows.1 r (EQ hr);refine⟨_,⟨⟨R.set j (1,0,r.2.2),B,hX.put (ab:=ab) (rb:=rb) p0 p1 (WW hX.rows ⟨⟨(show(0:Int)<=1 by decide),(show(1:Int)<=5 by decide)⟩,⟨(show(0:Int)<=0 by decide),(show(0:Int)<=18446744073709551615 by decide)⟩,hro.2.2⟩) hX.mem,fun g s s' h1 h2=> ?_⟩,.inl ⟨0,0,0,0,rfl⟩⟩,?_⟩
   ·by_cases hg:g=j
    ·subst hg;rw[hr]at h1;cases h1;rw[List.getElem?_set_self hjn]at h2;cases h2;exact⟨fun h=>absurd h0 h,fun _=>(show(1:Int)<=1 by decide)⟩
    ·rw[List.getElem?_set_ne (fun e=>hg e.symm)]at h2;exact Oa.refl R B g s s' h1 h2
   ·simp only[P6,AW,A0,Am,AQ,AS,AU];exact C2 fun _ x=>by simp only[Ax,Db];omega
theorem pp(hn:1<=n/\n<=4096)(hX:IZ n ob K U ρ R B S)(hρ:ρ[6]? =some (mb,xb))(ha:W6 a):Fn Tryz.prog 71 [Au mb,.agg (P8 a).toArray] S (IG n ob K U ρ R):=by
 obtain⟨m0,x0,r0,x1,ab,rb,mb',x6,v0,v3,v4,rc,v6,v7,v8,v9,c2,c3,c4,c5,c7,p0,p1,p6,rfl,_⟩:=hX.own;rw[hρ]at p6;cases p6;refine(f71 (R:=R) (B:=B) (ab:=ab) (rb:=rb) (n:=n) (a1:=.int .u64 (a 1)) (a2:=.int .u64 (a 2)) (a3:=.int .u64 (a 3)) (a4:=.int .u64 (a 4)) (a5:=.int .u64 (a 5)) (v0:=v0) (m0:=m0) (r0:=r0) (v3:=v3) (v4:=v4) (v5:=.map (some rc)) (v6:=v6) (v7:=v7) (v8:=v8) (v9:=v9) (a:=a 0) (by have:=ha 0;omega) hX.rows.2 hn.2 hX.mem.1).Cd (F:=[c2,c3,c4,c5,c7]) ?_ ?_
 ·simp only[P6,AW,A0,Am,AQ,AS,AU];exact C2 fun _ x=>by simp only[Ax,Db];omega
 ·rintro e S' (⟨c,_,_,rfl,rfl⟩|⟨rfl,j,r,hj,hr,h1,rfl⟩)
  ·refine⟨_,⟨⟨R,B,hX,.refl R B⟩,.inr ⟨c,rfl⟩⟩,?_⟩;simp only[P6,AW,A0,Am,AQ,AS,AU];exact C2 fun _ x=>by simp only[Ax,Db];omega
  ·have hjn:=(Ae.1 hr).1;have hro:=hX.rows.1 r (EQ hr);have hB:=hX.mem;refine⟨_,⟨⟨R.set j (0,0,r.2.2),ins B j (BQ 128),hX.put (ab:=ab) (rb:=rb) p0 p1 (WW hX.rows ⟨⟨(show(0:Int)<=0 by decide),(show(0:Int)<=5 by decide)⟩,⟨(show(0:Int)<=0 by decide),(show(0:Int)<=18446744073709551615 by decide)⟩,hro.2.2⟩) ⟨Y8 hB.1 hj (Bn _),hB.2.ins (E0 _) j⟩,fun g s s' h2 h3=> ?_⟩,.inl ⟨0,0,0,0,rfl⟩⟩,?_⟩
   ·by_cases hg:g=j
    ·subst hg;rw[hr]at h2;cases h2;rw[List.getElem?_set_self hjn]at h3;cases h3;refine⟨fun _ _=>⟨h1,?_⟩,fun h=>absurd h (by rw[h1];decide)⟩;unfold sub ins;rw[AU,List.drop_left' (by simp;omega),List.take_left' (Bn _)]
    ·rw[List.getElem?_set_ne (fun e=>hg e.symm)]at h3;rw[h2]at h3;cases h3;exact⟨fun a b=>absurd b a,fun a=>by rw[a];decide⟩
   ·simp only[P6,AW,A0,Am,AQ,AS,AU];exact C2 fun _ x=>by simp only[Ax,Db];omega
end
def xG:Prop:=∀(n ob K U mb xb:Nat) (ρ:Nm) (S:A2) (R:List Rw) (B:List Int) (a:Nat->Nat),1<=n/\n<=4096->IZ n ob K U ρ R B S->U<=9223372036854775807->K+dE<=HM->ρ[6]? =some (mb,xb)->W6 a->Fn Tryz.prog 75 [Au mb,.agg (P8 a).toArray] S (IG n ob (K+dE) U ρ R)
section
variable{n ob K mb xb:Nat} {ρ:Nm} {S:A2} {R:List Rw} {B:List Int} {a:Nat->Nat}
theorem IG.more{U:Nat}{S':A2}(h:IG n ob K U ρ R e S')(d U':Nat)(hU:U<=U'):IG n ob (K+d) U' ρ R e S':=by obtain⟨⟨R',B',h1,h2⟩,h3⟩:=h;exact⟨⟨R',B',h1.more d U' hU,h2⟩,h3⟩
variable{j k:Nat}
theorem ks(H:xG)(hj:j<125)(hk1:1<=k)(hk2:k<=21)(hn:1<=n/\n<=4096)(hX:IZ n ob K (20000*j) ρ R B S)(hK:K+dE<=HM)(hρ:ρ[6]? =some (mb,xb))(ha:W6 a):
 Fn Tryz.prog (69+k) [Au mb,.agg (P8 a).toArray] S (IG n ob (K+dE) (20000*(j+1)) ρ R):=by
 have hU:20000*j<=9223372036854775807:=I;have hm:=AY.1 pe;have most:69+k∈[72,73,74,76,77,78,79,80,81,82,83,84,85,87,88,89,90]->Fn Tryz.prog (69+k) [Au mb,.agg (P8 a).toArray] S (IG n ob (K+dE) (20000*(j+1)) ρ R):=fun hmem=>(cj (hm _ hmem) hn hX hU hK hρ ha).mono fun e S' h=>h.more 0 _ I
 have hkk:k=1\/k=2\/k=6\/k=17\/(69+k∈[72,73,74,76,77,78,79,80,81,82,83,84,85,87,88,89,90]):=by simp only[Ab,Az,BX];omega
 rcases hkk with rfl|rfl|rfl|rfl|h
 ·exact(po hn hX hρ ha).mono fun e S' h=>h.more dE _ I
 ·exact(pp hn hX hρ ha).mono fun e S' h=>h.more dE _ I
 ·exact(H n ob K _ mb xb ρ S R B a hn hX hU hK hρ ha).mono fun e S' h=>h.more 0 _ I
 ·exact YJ hj hn hX hK hρ ha
 ·exact most h
theorem pq:((List.range 22).all fun k=>Nat.beq k 0||E5 Tryz.prog (Nat.add 69 k))=true:=kR
def QU(n ob K U:Nat)(ρ:Nm)(R:List Rw):Ending->A2->Prop:=fun e S'=>(∃R' B',IZ n ob K U ρ R' B' S'/\Oa R R' B')/\∃(c a b d g x:Int) (ok:Bool) (i:Int),e=.returned (.agg (Ri c a b d g x ok i).toArray)
theorem law27(H:xG)(hj:j<125)(ho: -9223372036854775808<=op/\op<=9223372036854775807)(hn:1<=n/\n<=4096)(hX:IZ n ob K (20000*j) ρ R B S)(hK:K+dE<=HM)(hρ:ρ[6]? =some (mb,xb))(ha:W6 a):
 Fn Tryz.prog 27 [Au mb,.agg (.int .i64 op::P8 a).toArray] S (QU n ob (K+dE) (20000*(j+1)) ρ R):=by
 obtain⟨m0,x0,r0,x1,ab,rb,mb',x6,v0,v3,v4,rc,v6,v7,v8,v9,c2,c3,c4,c5,c7,p0,p1,p6,rfl,hX2⟩:=hX.own;rw[hρ]at p6;cases p6;have pm:∀c6:List CH,[Dy m0 ab n++EY ab B,Ei r0 rb n++Em rb R,c2,c3,c4,c5,c6,c7].Perm (c6::[Dy m0 ab n++EY ab B,Ei r0 rb n++Em rb R,c2,c3,c4,c5,c7]):=fun c6=>C2 fun _ x=>by simp only[Db];omega
 refine Fn.sg (Fn.aBq (aAP (v0:=v0) (v1:=Au m0) (v2:=Au r0) (v3:=v3) (v4:=v4) (rb:=rc) (v6:=v6) (v7:=v7) (v8:=v8) (v9:=v9) (RC:=IG n ob (K+dE) (20000*(j+1)) ρ R) (H47 ho ha) H48 ?_ ?_ ?_)) (pm _).symm
 ·intro h;obtain⟨h1,h2⟩:=h J;obtain⟨k,rfl⟩:=BO (show 0<=op by omega);have hk1:1<=k:=I;have hk2:k<=21:=I;have hc:=AY.1 pq k (Ak.2 I);simp only[BI]at hc;refine⟨k,hk1,hk2,rfl,?_,?_⟩
  ·rcases hc with hc|hc
   ·have:=AK hc;omega
   ·exact hc
  ·exact(ks H hj hk1 hk2 hn hX2 hK hρ ha).sg (pm _)
 ·intro _;exact⟨_,(pm _).symm,⟨R,B,hX2.more dE _ I,.refl R B⟩,_,_,_,_,_,_,_,_,rfl⟩
 ·rintro e S' ⟨h1,⟨x,y,u,w,rfl⟩|⟨c,rfl⟩⟩
  ·exact .inl ⟨x,y,u,w,rfl,S',.refl _,h1,_,_,_,_,_,_,_,_,rfl⟩
  ·exact .inr ⟨c,rfl,S',.refl _,h1,_,_,_,_,_,_,_,_,rfl⟩
end
abbrev aBs:AV:=.agg [CB,Bw,Bw,Bw,Bw,Bw,.boo none,Bw]
abbrev si(k:AV):AV:=.agg ([k,CB]++six++[Bw,Bw,.junk])
theorem aDj:((List.range 125).all fun k=>[iv 2 2,iv 3 3,.int .i64 (.negSucc 9223372036854775807) (.ofNat 0),iv 5 9223372036854775807].all fun x=>LA (cE 9) (Pm (Nat.mul 20000 k)) (Pm (Nat.mul 20000 (Nat.succ k))) [0,1,2,3,4,5,6,7] [.Au 6 0,si x] [(false,aBs)] dE)=true:=kR
abbrev Zd(kind op:Int)(a:Nat->Nat)(ad wd:Nat)(bv:Value):Value:=.agg [.int .i64 kind,.int .i64 op,.int .u64 (a 0:Int),.int .u64 (a 1:Int),.int .u64 (a 2:Int),.int .u64 (a 3:Int),.int .u64 (a 4:Int),.int .u64 (a 5:Int),.int .u64 (ad:Int),.int .u64 (wd:Int),bv].toArray
theorem aDk(h:wU ρ [(false,aBs)] e):∃(c a b d g x:Int) (ok:Bool) (i:Int),e=.returned (.agg (Ri c a b d g x ok i).toArray):=by
 obtain⟨v,x,hx,hc,h⟩:=h;obtain rfl:=AP.1 hx;rcases h with⟨_,rfl⟩|⟨h,_⟩
 ·cases hc with|agg hc=>
  cases hc with|cons a1 hc=>cases hc with|cons a2 hc=>cases hc with|cons a3 hc=>cases hc with|cons a4 hc=>cases hc with|cons a5 hc=>cases hc with|cons a6 hc=>cases hc with|cons a7 hc=>cases hc with|cons a8 hc=>
  cases hc;cases a1;cases a2;cases a3;cases a4;cases a5;cases a6;cases a7;cases a8;exact⟨_,_,_,_,_,_,_,_,rfl⟩
 ·cases h
section
variable{n ob K mb xb ad wd:Nat} {ρ:Nm} {S:A2} {R:List Rw} {B:List Int} {a:Nat->Nat} {bv:Value} {op kind:Int}
variable{x:Nat}
theorem QV{ρ:Nm}(h:x<=18446744073709551615):EM ρ Bw (.int .u64 (x:Int)):=.int (by rw[Fj];exact Int.natCast_nonneg _) (by rw[F2];show(x:Int)<=18446744073709551615;omega)
theorem kw{ρ:Nm}{k:AV}(hk:EM ρ k (.int .i64 kind))(ho: -9223372036854775808<=op/\op<=9223372036854775807)(ha:W6 a)(had:ad<=18446744073709551615)(hwd:wd<=18446744073709551615)(hb:bv.oneCell'=true):EM ρ (si k) (Zd kind op a ad wd bv):=.agg (.cons hk (.cons (.int (by rw[Fj];exact ho.1) (by rw[F2];exact ho.2)) ((OZ ha).app (.cons (QV had) (.cons (QV hwd) (.cons (.junk hb) .nil))))))
variable{j:Nat}
theorem VA{k:AV}(hj:j<125)(hk:k∈[iv 2 2,iv 3 3,.int .i64 (.negSucc 9223372036854775807) (.ofNat 0),iv 5 9223372036854775807])(hc:EM ρ k (.int .i64 kind))(ho: -9223372036854775808<=op/\op<=9223372036854775807)(had:ad<=18446744073709551615)(hwd:wd<=18446744073709551615)(hb:bv.oneCell'=true)(hn:1<=n/\n<=4096)(hX:IZ n ob K (20000*j) ρ R B S)(hK:K+dE<=HM)(hρ:ρ[6]? =some (mb,xb))(ha:W6 a):
 Fn Tryz.prog 9 [Au mb,Zd kind op a ad wd bv] S (QU n ob (K+dE) (20000*(j+1)) ρ R):=by
 have hF:=YG n ob (zR R);obtain⟨hroot,YI⟩:=Zc (ob:=ob) (z:=zR R) hn;have hf:=AY.1 (AY.1 aDj j (Ak.2 hj)) k hk;refine(U9 hF (kp hF hroot YI hK) hf hX.at_ (.cons (.Au hρ) (.cons (kw hc ho ha had hwd hb) .nil))).mono ?_;rintro e S' ⟨he,hS,_⟩;refine⟨?_,aDk he⟩;obtain⟨R',B',hL,hz⟩:=QT hS;exact⟨R',B',hL,.same hz⟩
theorem cp(H:xG)(hj:j<125)(ho: -9223372036854775808<=op/\op<=9223372036854775807)(hb:bv.oneCell'=true)(hn:1<=n/\n<=4096)(hX:IZ n ob K (20000*j) ρ R B S)(hK:K+dE<=HM)(hρ:ρ[6]? =some (mb,xb))(ha:W6 a):
 Fn Tryz.prog 9 [Au mb,Zd 1 op a ad wd bv] S (QU n ob (K+dE) (20000*(j+1)) ρ R):=by
 refine Fn.of Tryz.func9 J J [_] J ?_
 (refine W ?_;intro b;refine W ?_;intro b;refine W ?_)
 refine DL.HQ tt (cs:=[.int .i64 1,.int .i64 op,.int .u64 (a 0:Int),.int .u64 (a 1:Int),.int .u64 (a 2:Int),.int .u64 (a 3:Int),.int .u64 (a 4:Int),.int .u64 (a 5:Int),.int .u64 (ad:Int),.int .u64 (wd:Int),bv]) (vs:=(.int .i64 op::P8 a)) J J J J J (.tail _ (.head _)) J J ?_;skip
 refine DL.call J J J (Hn [_,_] S) (law27 H hj ho hn hX hK hρ ha) kR ?_ ?_
 ·rintro ch S1 ⟨_,_,_,_,_,_,_,_,_,h⟩;cases h
 ·rintro v S1 ⟨h1,c,x1,x2,x3,x4,x5,ok,i,hv⟩;cases hv;refine⟨D9,?_⟩;refine DL.congr (S:=[_,_]++S1) ?_ (Eo.refl _) CC;simp only[AQ,AS,Dc];skip
  refine wW ?_;exact⟨_,S1,_,DC (RV.D8 tt J J J (In.mem iN) J),Hn [_,_] S1,h1,_,_,_,_,_,_,_,_,rfl⟩
end
theorem lG(m:Nat)(zs:List Int):(List.replicate m (bs zs)).flatten=bs (List.replicate m zs).flatten:=by
 induction m with
 |zero=>rfl
 |succ m ih=>rw[CJ,AW,ih,CJ,AW,H8]
theorem YK(m k:Nat):(List.replicate m (BQ k)).flatten=BQ (k*m):=by
 induction m with
 |zero=>rfl
 |succ m ih=>rw[CJ,AW,ih];simp only[BQ];rw[List.replicate_append_replicate,Nat.mul_succ,Nat.add_comm]
theorem sj(hn:1<=n/\n<=4096):Fn Tryz.prog 16 [.int .i64 (n:Int)] [] (Dv (ι:=Nat×Nat) (fun _=>True) (fun i=>.tuple #[Au i.1,.int .i64 0]) (fun i=>[Dy i.1 i.2 n,EY i.2 (BQ (128*n))])):=by
 refine Fn.of Tryz.func16 J J [_,_] J ?_;refine W ?_;refine DL.tm tt hz J J J Le J J J J I I D9 ?_;intro ab
 (refine W ?_;intro b;refine W ?_)
 rw[lG,YK];exact BD (b,ab) trivial (Fb (RV.tmp J) (RV.tmp J)) pK
theorem lH(m:Nat):(List.replicate m (P1 (0,0,0))).flatten=Ez (List.replicate m (0,0,0)):=by
 induction m with
 |zero=>rfl
 |succ m ih=>rw[CJ,AW,ih,CJ];rfl
theorem sn(hn:1<=n/\n<=4096):Fn Tryz.prog 17 [.int .i64 (n:Int)] [] (Dv (ι:=Nat×Nat) (fun _=>True) (fun i=>.tuple #[Au i.1,.int .i64 0]) (fun i=>[Ei i.1 i.2 n,Em i.2 (List.replicate n (0,0,0))])):=by
 refine Fn.of Tryz.func17 J J [_,_] J ?_;refine W ?_;refine DL.tm tt hz J J J tc J J J J I I D9 ?_;intro rb
 (refine W ?_;intro b;refine W ?_)
 rw[show(List.replicate n [Value.int .i64 0,Value.int .u64 0,Value.int .i64 0]).flatten=Ez (List.replicate n (0,0,0))from lH n];exact BD (b,rb) trivial (Fb (RV.tmp J) (RV.tmp J)) pK
variable{m0 r0:Nat}
theorem aBt:Fn Tryz.prog 19 [Au m0,Au r0] [] (Dv (ι:=Nat) (fun _=>True) (fun i=>Au i) (fun i=>[A7 i [Au m0,Au r0] 134])):=by
 refine Fn.of Tryz.func19 J J [_] J ?_
 (refine W ?_;intro b;refine W ?_)
 have hp:DV [A7 b [Au m0,Au r0] 134] [A7 b [Au m0,Au r0] 134] []:=pK;exact BD b trivial (DC (RV.tmp J)) hp
variable{j:Nat}
theorem aBu{comp:List CH}(hK:K+j<=HM)(hr:G1 ob K [j] ob comp):Fn Tryz.prog 20 [Au ob] [comp] (fun e S'=>∃b mb c,e=.returned (Au b)/\S'=[comp,JF b ob mb 0,DX (Value.int .i64) mb [] 0,c]):=by
 refine Fn.of Tryz.func20 J J [_] J ?_;refine W ?_;refine DL.call J J J pK (Ut hK hr) kR (fun ch S1 hc=>by obtain⟨_,_,hc,_⟩:=hc;cases hc) ?_;rintro v S1 ⟨nb,c,hv,rfl⟩;cases hv;refine⟨D9,?_⟩;simp only[AQ,AS,Am,Dc];refine W ?_;refine DL.makeMap (enc:=Value.int .i64) J J ?_;intro mb
 (refine W ?_;intro b;refine W ?_)
 have hp:DV [JF b ob mb 0,DX (Value.int .i64) mb [] 0,comp,c] [comp,JF b ob mb 0,DX (Value.int .i64) mb [] 0,c] []:=pK;exact⟨_,_,_,DC (RV.tmp J),hp,b,mb,c,rfl,rfl⟩
section
variable{P:Program} {n:Nat} {fr:Fr} {S:A2}
variable{T:Tr}{o:Oper}{av:Array Operand}{t tx CU GN sz m b:Nat}{ts:Array TypeId}
theorem WX(hT:Dp P T=true){e:Nat}{x z z0:Value}{news:List Value}{U:A2}(ho:o.op=.call ⟨.builtin .append,av,ts⟩)(hts:ts= #[t,tx])
 (ht:T.get t=some ⟨.sl e CU,sz⟩) (hE:Ew P e CU GN=true) (hz:(P.info? e).bind (·.zero)=some z) (hzs:z.cells= #[z0]) (ha:FP fr av.toList=some [.slice (some ⟨b,0,none⟩) 0 0,x]) (hx:DO P CU S tx x m news)
 (hp:Gg (A7 b [] e) S U) (hm:0<m) (hbd:m*GN<=140737488355328) (hbd2:m<=9223372036854775807):
 Eff P n o fr S (fun v S'=>∃b' k,v=.slice (some ⟨b',0,none⟩) m (m+k)/\S'=A7 b' (news++List.replicate k z0) e::U) (fun _ _=>False):=by
 intro A V a w hk hs;obtain⟨ie,z',hi,h1,h2,hz',h3⟩:=Gy hE;have hzz:z'=z:=by rw[hi]at hz;simp only[Option.bind_some]at hz;rw[hz']at hz;exact Option.some.inj hz
 subst hzz;obtain⟨hu,_⟩:=Et hT ht J;have hargs:av.map a.eval= #[.slice (some ⟨b,0,none⟩) 0 0,x]:=Bl.1 (by simpa using EV hk ha);have hsrc:Src P ie.size tx x m news w:=by rw[h1];exact hx A V w hs
 have hrun:(execOp a.eval o).run P w=((Builtin.append_ #[t,tx] o.type #[.slice (some ⟨b,0,none⟩) 0 0,x]).run P w).andThen fun v w'=>.ok (.value v) w':=by simp only[execOp,ho,resolve,invoke,builtin,Ag,BA,Ad,hargs,hts]
 have hs1:=hs.perm (hp.perm.append_right V);have hblk:w.heap[b]? =some (.cells ([]:List Value).toArray e (0,0)):=hs1.has (b,_) (by simp[A7]);have hold:(Builtin.firstCells ie.size 0 (.slice (some ⟨b,0,none⟩) 0 0)).run P w.drew=.ok ([]:List Value).toArray w.drew:=by refine run_firstCells_some w.drew ie.size 0 _ 0 0 [] DI (fun j u hj=> ?_);simp at hj
 have hval:=run_append_grow_src w t tx o.type e ie z' hu hi hz' (some ⟨b,0,none⟩) 0 0 [] hold x m news hsrc I I (growslice_fits I (by rw[h2,BM];exact hbd));rw[Fq,hrun,hval];have hcap:0+m<=grownCap w (0+m) 0 e:=by unfold grownCap;simp only[Question.cut];omega
 have hs2:Ds A w.drew (U++V):=hs1.drop.drawn _;generalize hk':grownCap w (0+m) 0 e-(0+m)=k;have hc2:grownCap w (0+m) 0 e=m+k:=I;have UG:((([]:List Value)++news).toArray++Builtin.zeroCells z'.cells k)=(news++List.replicate k z0).toArray:=by rw[hzs];apply Array.ext';simp only[Builtin.zeroCells,List.append_toArray,AS];simp[Nat.mod_one];rw[List.map_const',List.length_range]
 refine⟨A7 w.heap.size (news++List.replicate k z0) e::U,?_,w.heap.size,k,by rw[hc2,BM],rfl⟩;rw[UG];exact hs2.new _
theorem VB(hT:Dp P T=true){e:Nat}{x:Value}(ho:o.op=.call ⟨.builtin .append,av,ts⟩)(hts:ts= #[t,tx])
 (ht:T.get t=some ⟨.sl e CU,sz⟩) (hE:Ew P e CU GN=true) (ha:FP fr av.toList=some [.slice (some ⟨b,0,none⟩) 0 0,x]) (hx:DO P CU S tx x 0 []):
 Eff P n o fr S (fun v S'=>v=.slice (some ⟨b,0,none⟩) 0 0/\S'=S) (fun _ _=>False):=by
 intro A V a w hk hs;obtain⟨ie,z',hi,h1,h2,hz',h3⟩:=Gy hE;obtain⟨hu,_⟩:=Et hT ht J;have hargs:av.map a.eval= #[.slice (some ⟨b,0,none⟩) 0 0,x]:=Bl.1 (by simpa using EV hk ha);have hsrc:Src P ie.size tx x 0 [] w:=by rw[h1];exact hx A V w hs
 have hrun:(execOp a.eval o).run P w=((Builtin.append_ #[t,tx] o.type #[.slice (some ⟨b,0,none⟩) 0 0,x]).run P w).andThen fun v w'=>.ok (.value v) w':=by simp only[execOp,ho,resolve,invoke,builtin,Ag,BA,Ad,hargs,hts]
 have hval:=run_append_room_src (P:=P) (w:=w) t tx o.type e ie hu hi b 0 0 0 x 0 [] hsrc (Ao _) (fun j hj=>absurd hj (Nat.not_lt_zero _)) (fun j hj=>absurd hj (Nat.not_lt_zero _));rw[Fq,hrun,hval];exact⟨S,hs,rfl,rfl⟩
end
def Ze(v:Value)(c:List CH):Prop:=(v=.slice none 0 0/\c=[])\/∃b off len cap cs,v=.slice (some ⟨b,off,none⟩) len cap/\len<=cap/\off+cap<=cs.length/\len<=100/\c=A7 b cs 43/\∀u∈cs,∃x:Nat,u=.int .u64 (x:Int)/\x<=18446744073709551615
structure Pq (s:ByteArray) (c:UInt8) (m:Nat) (R:Nat->ByteArray) (AE:Nat->Nat):Prop where
 zero:R 0=s
 at_:∀i,i<m->Lib.indexByte (R i).data.toList c=(AE i:Int)
 lt:∀i,i<m->AE i+1<=(R i).size
 step:∀i,i<m->R (i+1)=(R i).extract (AE i+1) (R i).size
 cnt:Lib.countByte s.data.toList c=m
 len:m<=s.size/\s.size<=1000
 sz:∀i,i<=m->(R i).size<=1000
def PQ(R:Nat->ByteArray)(AE:Nat->Nat)(m:Nat):List Value:=(List.range m).map (fun i=>Value.string ((R i).extract 0 (AE i)))++[.string (R m)]
def Rx(R:Nat->ByteArray)(AE:Nat->Nat)(m i:Nat):List Value:=(List.range i).map (fun i=>Value.string ((R i).extract 0 (AE i)))++List.replicate (m+1-i) (.string ⟨#[]⟩)
variable{AE:Nat->Nat}{m i:Nat}
theorem WY{R:Nat->ByteArray}(h:i<=m):(Rx R AE m i).length=m+1:=by simp[Rx];omega
theorem WZ{R:Nat->ByteArray}(h:i<=m)(v:Value):(Rx R AE m i).set i v=(List.range i).map (fun i=>Value.string ((R i).extract 0 (AE i)))++v::List.replicate (m-i) (.string ⟨#[]⟩):=by unfold Rx;rw[DN _ _ DI,show m+1-i=(m-i)+1 by omega,CJ];simp
theorem cq{R:Nat->ByteArray}(h:i<m):(Rx R AE m i).set i (.string ((R i).extract 0 (AE i)))=Rx R AE m (i+1):=by rw[WZ I];unfold Rx;rw[List.range_succ,Ai,AU,show m+1-(i+1)=m-i by omega];rfl
variable{s:ByteArray}
theorem f56{c:UInt8}{R:Nat->ByteArray}(h:Pq s c m R AE):Fn Tryz.prog 56 [.string s,.string ⟨#[c]⟩,.int .i64 0,.int .i64 (-1)] [] (Dv (ι:=Nat) (fun _=>True) (fun b=>.slice (some ⟨b,0,none⟩) (m+1) (m+1)) (fun b=>[A7 b (PQ R AE m) 9])):=by
 obtain⟨hm,hs⟩:=h.len;have hne:(((⟨#[c]⟩:ByteArray)).toList==((⟨#[]⟩:ByteArray)).toList)=false:=by rw[A5,A5];rfl
 refine Fn.of Tryz.func56 J J [_] J ?_;refine W ?_;rw[hne];refine W ?_;refine DL.BS J J J .nil (f104 (s:=s) (c:=c)) kR .nil kO ?_;rw[h.cnt];refine W ?_;rw[show(if(s.size:Int)+1<(m:Int)+1 then(s.size:Int)+1 else(m:Int)+1)=((m+1:Nat):Int) by rw[Ah I];omega];refine DL.tm tt (zs:=[Value.string ⟨#[]⟩]) hz J J J el9 J J J J I I D9 ?_;intro b;rw[show(List.replicate (m+1) [Value.string ⟨#[]⟩]).flatten=Rx R AE m 0 by simp[Rx]];refine W ?_;refine CW.loop (ι:=Nat) (fun i=>m-i) (fun i=>i<=m) (fun i=>[(0,.string (R i)),(1,.string ⟨#[c]⟩),(2,.int .i64 0),(3,.int .i64 (m:Int)),(9,.slice (some ⟨b,0,none⟩) (m+1) (m+1)),(10,.int .i64 (i:Int))]) (fun i=>[A7 b (Rx R AE m i) 9]) 0 I (by rw[h.zero];rw[show((m+1:Nat):Int)-1=(m:Int) by omega];(repeat(first|exact Eo.nil _|refine Eo.cons J ?_))) pK ?_;intro i hi;refine W ?_;by_cases hlt:i<m
 ·refine CW.Gp J I ?_;refine W ?_;have hI:=h.lt i hlt;have hz9:=h.sz i hi;have h1c:(⟨#[c]⟩:ByteArray).size=1:=rfl;refine DL.BS J J J .nil (f105 (s:=R i) (c:=c)) kR .nil kO ?_;rw[h.at_ i hlt];refine W ?_;refine DL.vj tt (l:=0) (m:=AE i) (c:=(R i).size) J J J J J J (.hi I I) ?_;refine DL.C3 tt i J J J J J J I ?_;refine DL.Br (cs':=Rx R AE m (i+1)) tt J J J J J uP (by rw[BM,Dk];exact cq hlt) J J (by rw[WY hi];omega) kO ?_;refine W ?_;refine DL.vj tt (l:=AE i+1) (m:=(R i).size) (c:=(R i).size) J J J J J J (.lo I I) ?_;rw[<-h.step i hlt];refine W ?_;refine⟨i+1,_,I,I,sF,pK⟩
 ·obtain rfl:i=m:=I;refine CW.GM J I ?_;refine W ?_;refine DL.C3 tt i J J J J J J I ?_;refine DL.Br (cs':=PQ R AE i) tt J J J J J uP (by rw[BM,Dk,WZ (Ao _),Nat.sub_self];rfl) J J (by rw[WY (Ao _)];omega) kO ?_;refine W ?_;refine DL.Qj tt (l:=0) (m:=i+1) (c:=i+1) J J J J J J J (.hi I I) ?_;rw[Ah I];refine W ?_;exact BD b trivial (DC (RV.tmp J)) pK
theorem f33{c:UInt8}{R:Nat->ByteArray}(h:Pq s c m R AE):Fn Tryz.prog 33 [.string s,.string ⟨#[c]⟩] [] (Dv (ι:=Nat) (fun _=>True) (fun b=>.slice (some ⟨b,0,none⟩) (m+1) (m+1)) (fun b=>[A7 b (PQ R AE m) 9])):=by
 refine Fn.of Tryz.func33 J J [_] J ?_;refine W ?_;refine DL.B7 J J J .nil (f56 h) kR (fun _=>aP) (fun _=>kO) ?_;rintro b-
 refine W ?_;exact BD b trivial (DC (RV.tmp J)) pK
variable{k:Nat}
theorem aBv(h:k<10):(⟨#[48,49,50,51,52,53,54,55,56,57,97,98,99,100,101,102,103,104,105,106,107,108,109,110,111,112,113,114,115,116,117,118,119,120,121,122]⟩:ByteArray).extract k (k+1)=⟨#[UInt8.ofNat (48+k)]⟩:=by have hk:k=0\/k=1\/k=2\/k=3\/k=4\/k=5\/k=6\/k=7\/k=8\/k=9:=I;rcases hk with rfl|rfl|rfl|rfl|rfl|rfl|rfl|rfl|rfl|rfl<;>first|rfl|decide
theorem f267(h:k<10):Fn Tryz.prog 267 [.int .i64 (k:Int)] [] (E4 (.string ⟨#[UInt8.ofNat (48+k)]⟩) []):=by refine Fn.of Tryz.func267 J J [_] J ?_;refine W ?_;refine DL.vj tt (l:=k) (m:=k+1) (c:=36) J J J J J J (.UH I I I (by show k+1<=36;omega)) ?_;rw[aBv h];exact W trivial
theorem f111(h:k<10):Fn Tryz.prog 111 [.int .i64 (k:Int)] [] (E4 (.string ⟨#[UInt8.ofNat (48+k)]⟩) []):=by
 have aDl:Fn Tryz.prog 178 [.int .i64 (k:Int),.int .i64 10] [] (E4 (.string ⟨#[UInt8.ofNat (48+k)]⟩) []):=by refine Fn.of Tryz.func178 J J [_] J ?_;refine W ?_;refine DL.BS J J J .nil (f267 h) kR .nil kO ?_;exact W trivial
 have aDm:Fn Tryz.prog 177 [.int .i64 (k:Int)] [] (E4 (.string ⟨#[UInt8.ofNat (48+k)]⟩) []):=by refine Fn.of Tryz.func177 J J [_] J ?_;refine W ?_;refine DL.BS J J J .nil aDl kR .nil kO ?_;exact W trivial
 refine Fn.of Tryz.func111 J J [_] J ?_;refine W ?_;refine DL.BS J J J .nil aDm kR .nil kO ?_;exact W trivial
end
end Go.Proofs.YtfekkjbdcdnhlaaGreatDoor.Sep
