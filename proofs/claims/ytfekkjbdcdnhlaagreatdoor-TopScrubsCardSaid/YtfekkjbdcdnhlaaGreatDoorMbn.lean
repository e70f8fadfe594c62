/- Lemmas for TopScrubs. No condition but those that each states. -/
import Derived.Test.YtfekkjbdcdnhlaaGreatDoorMbm
set_option linter.all false
set_option maxHeartbeats 8000000
set_option maxRecDepth 100000
namespace Go.Proofs.YtfekkjbdcdnhlaaGreatDoor.Sep
noncomputable section
theorem aEn:dK (DY lB) (YY lB) yp0=true:=kR
theorem aEo:dK (DY lB) (YY lB) yp1=true:=kR
theorem aEp:dK (DY lB) (YY lB) yp2=true:=kR
theorem aEq:dK (DY lB) (YY lB) yp3=true:=kR
theorem aEt:dK (DY lB) (YY lB) yp6=true:=kR
theorem aEu:dK (DY lB) (YY lB) yp7=true:=kR
def VM:List F5->F5
 |[]=>fun _ _=>none
 |c::r=>fun args s=>match c args s with
  |some x=>some x
  |none=>VM r args s
def c9:F5:=VM [yC yp0,yC yp1,yC yp2,yC yp3,yC yp4,yC yp5,yC yp6,yC yp7,yC yp8,yC yp9,yC aBV,B7 (DY lB) (YY lB) 9]
def lS:List (Nat×F5):=(9,c9)::lB
theorem aEy:(match B7 (yN lS) (ihB lS) 6 [] (EC [])with|some [.val (.boo (some true)) _]=>true|_=>false)=true:=kR
theorem aCp{Q:EX}{L:List Stp}{lv:Value}{old:List CH}{n ob mb q2 q7:Nat}{ρ:Nm}{R:List Rw}{B:List Int}{c0 sc bc:List CH}{sv hv bv:Value}{M:List Int}{ds ev:Value}(h75:xG)(h9:H9v)(hn:1<=n/\n<=400)(hL:Nw L lv old)(hB:∀s∈L,Oi s/\S5 s old)(g5:L.length<=120)(hρ:ρ[6]? =some (mb,0))(hC0:Yj n ob 0 (20000*0) ρ R B c0)(w1:LV 56 1 n (J4 R n) sv sc)(w2:hv.oneCell'=true)(w3:LV 58 128 n (bs (Jj B R n)) bv bc)
 (hq:∀fr sv sc hv bv bc cX,Q.go (.exit 0) fr [A7 q7 [sv,hv,bv] 40,sc,bc,cX,old,A7 q2 (setW (n:Int) true M ds ev) 27]):
 CW Tryz.prog Tryz.f3.ntmps (rI Tryz.f3 0) Q [(1,lv),(2,Au q2),(5,Au mb),(7,Au q7),(8,.int .i64 0)] [A7 q7 [sv,hv,bv] 40,sc,bc,c0,old,A7 q2 (setW (n:Int) true M ds ev) 27]:=by
 obtain⟨lp,lc,rfl⟩:=LG hL;simp only[rI,mh,Tryz.f3,NJ,reduceIte,Nat.reduceEqDiff,B0];refine CW.loop (ι:=Nat×List Rw×List Int×List CH×Value×List CH×Value×Value×List CH) (fun i=>L.length-i.1) (fun i=>i.1<=L.length/\Yj n ob (dE*i.1) (20000*i.1) ρ i.2.1 i.2.2.1 i.2.2.2.1/\LV 56 1 n (J4 i.2.1 n) i.2.2.2.2.1 i.2.2.2.2.2.1/\i.2.2.2.2.2.2.1.oneCell'=true/\LV 58 128 n (bs (Jj i.2.2.1 i.2.1 n)) i.2.2.2.2.2.2.2.1 i.2.2.2.2.2.2.2.2)
  (fun i=>[(1,.slice lp L.length lc),(2,Au q2),(5,Au mb),(7,Au q7),(8,.int .i64 (i.1:Int))])
  (fun i=>[A7 q7 [i.2.2.2.2.1,i.2.2.2.2.2.2.1,i.2.2.2.2.2.2.2.1] 40,i.2.2.2.2.2.1,i.2.2.2.2.2.2.2.2,i.2.2.2.1,old,A7 q2 (setW (n:Int) true M ds ev) 27])
  (0,R,B,c0,sv,sc,hv,bv,bc) ⟨Cj _,hC0,w1,w2,w3⟩ sF pK ?_
 clear w1 w2 w3 hC0;rintro⟨i,R,B,cX,sv,sc,hv,bv,bc⟩ ⟨hi,hX,w1,w2,w3⟩;dsimp only at hi hX w1 w2 w3⊢;refine wW ?_;by_cases hiL:i<L.length
 ·refine CW.Gp J I ?_;refine wW ?_;obtain⟨s,hs⟩:∃s,L[i]? =some s:=⟨_,AZ hiL⟩
  obtain⟨aET,hby⟩:=hB s (EQ hs);rcases hL with⟨rfl,_⟩|⟨lb,off,cap,hlv,hcs⟩
  ·simp at hiL
  ·cases hlv;have hcc:=mg hcs hs;refine DL.C3 tt i J J J J J J hiL ?_;skip
   refine DL.tK (k:=0) (vs:=s.cells) tt hcc J J J J J UK J J ?_;skip
   refine DL.call J J J pK (aCm h75 h9 ⟨hn.1,I⟩ (j:=i) I hX (by show 2400000*i+2400000<=2147483648;omega) hρ aET hby) kR (fun ch S1 hc=>by obtain⟨_,_,_,_,_,_,_,_,_,_,_,_,_,_,hc⟩:=hc;cases hc) ?_;rintro v S1 ⟨R',B',c',rfl,hX',htr,_,_,_,_,_,_,_,_,hv2⟩;cases hv2;refine⟨D9,?_⟩;refine DL.congr (S:=[A7 q7 [sv,hv,bv] 40,sc,bc,c',old,A7 q2 (setW (n:Int) true M ds ev) 27]) ?_ (Eo.refl _) (C2 fun _ y=>by simp only[Ax,Db,List.count_nil];omega)
   simp only[Dc];refine wW ?_;refine DL.B7 J J J (.cons (.there (.there (.there .here))) .nil) (aCn ⟨hn.1,I⟩ hX' hρ) kR (fun _=>aP) (fun _=>D9) ?_;rintro⟨sv',sc',hv',MH,bc'⟩ ⟨u1,u2,u3⟩;dsimp only at u1 u2 u3⊢;have hRl:R.length=n:=by obtain⟨S,_,hS⟩:=hX;exact hS.rows.2
   have aEU:R'.length=n:=by obtain⟨S,_,hS⟩:=hX';exact hS.rows.2
   have aEV:B'.length=128*n:=by obtain⟨S,_,hS⟩:=hX';exact hS.mem.1
   obtain⟨sb,sk,sx,rfl,rfl⟩:=w1.A7 I;obtain⟨bb,bk,bx,rfl,rfl⟩:=w3.A7 I;have u1':=u1;have u3':=u3;obtain⟨sb',zJ,zK,rfl,rfl⟩:=u1.A7 I;obtain⟨bb',bk',bx',rfl,rfl⟩:=u3.A7 I
   (refine wW ?_;intro b;refine wW ?_)
   obtain⟨q9,hq9⟩:∃q9,q9=b:=⟨_,rfl⟩
   subst hq9;skip
   refine CW.sub (fr:=[(1,.slice (some ⟨lb,off,none⟩) L.length lc),(2,Au q2),(5,Au mb),(7,Au q7),(8,.int .i64 (i:Int)),(9,Au q9),(10,.int .i64 0)]) ?_ sF;refine CW.perm (S:=[A7 q9 [.slice (some ⟨sb',0,none⟩) n zJ,hv',.slice (some ⟨bb',0,none⟩) n bk'] 40,A7 sb' (J4 R' n++zK) 56,A7 bb' (bs (Jj B' R' n)++bx') 58,A7 q7 [.slice (some ⟨sb,0,none⟩) n sk,hv,.slice (some ⟨bb,0,none⟩) n bk] 40,A7 sb (J4 R n++sx) 56,A7 q2 (setW (n:Int) true M ds ev) 27]++[c',A7 bb (bs (Jj B R n)++bx) 58,old]) ?_ (C2 fun _ y=>by simp only[Ax,Db,List.count_nil];omega)
   refine aCo (n:=n) ⟨hn.1,I⟩ hRl aEU aEV htr (fun fr hfr=> ?_);with_reducible apply Hr
   with_reducible apply KU
   refine CW.sub (fr:=[(1,.slice (some ⟨lb,off,none⟩) L.length lc),(2,Au q2),(5,Au mb),(7,Au q7),(8,.int .i64 (i:Int)),(9,Au q9)]) ?_ hfr;simp only[AQ,AS];refine wW ?_;exact⟨(i+1,R',B',c',.slice (some ⟨sb',0,none⟩) n zJ,A7 sb' (J4 R' n++zK) 56,hv',.slice (some ⟨bb',0,none⟩) n bk',A7 bb' (bs (Jj B' R' n)++bx') 58),_,by dsimp only;omega,⟨by dsimp only;omega,hX',u1',u2,u3'⟩,sF,pK⟩
 ·refine CW.GM J I ?_;refine wW ?_;exact hq _ _ _ _ _ _ _
section
variable{n0:Int} {ib:Bool} {M:List Int} {dp ep:Option Addr} {dl dc el ec:Nat} {D:List (List Int)} {L:List Stp} {lv:Value} {old:List CH}
theorem f3(h6:H6)(h75:xG)(h9:H9v)(hn0: -9223372036854775808<=n0/\n0<=9223372036854775807)(hM:M.length=32)(hMb:BN M)(hdr:tL D (.slice dp dl dc) old)(ZG:∀x∈D,BN x)(hE:el<=100->dW (.slice ep el ec) old)(hL:Nw L lv old)(hB:∀s∈L,Oi s/\S5 s old)(hdl:dl<9223372036854775808)(hel:el<9223372036854775808)(tM:L.length<9223372036854775808):
 Fn Tryz.prog 3 [.agg (setW n0 ib M (.slice dp dl dc) (.slice ep el ec)).toArray,lv] [old] (E4 (.bool true) [old]):=by
 obtain⟨lp,lc,rfl⟩:=LG hL;refine Fn.of Tryz.func3 J J [_] J ?_
 (refine wW ?_;intro b;refine wW ?_)
 have eS:(setW n0 ib M (.slice dp dl dc) (.slice ep el ec)).set (0+1) (.bool true)=setW n0 true M (.slice dp dl dc) (.slice ep el ec):=rfl;rw[eS];obtain⟨q2,hq2⟩:∃q2,q2=b:=⟨_,rfl⟩
 subst hq2;refine DL.B7 J J J pK (aEO (n:=n0) (b:=true) hM hL hdl hel tM) kR (fun _=>aP) (fun _=>D9) ?_;intro r hr;refine wW ?_;cases r with
 |false=>refine wW ?_;refine DL.BS J J J .nil h6 kR .nil D9 ?_;exact wW trivial
 |true=>
  obtain⟨g1,g2,g3,g4,g5⟩:=hr J;refine wW ?_;refine DL.B7 J J J pK (rD hL tM) kR (fun _=>aP) (fun _=>D9) ?_;intro c hc;refine wW ?_;by_cases h4:(4:Int)<c
  ·refine wW ?_;refine DL.BS J J J .nil h6 kR .nil D9 ?_;exact wW trivial
  refine wW ?_;obtain⟨n,rfl⟩:=BO (show 0<=n0 by omega);have hn:1<=n/\n<=4096:=I;have hDl:=rG hdr;refine DL.call J J J pK (aEN hn hM hMb hdr ZG I (hE g4)) kR (fun ch S1 hc=>by obtain⟨_,_,_,_,_,_,_,_,_,_,_,_,_,hc,_⟩:=hc;cases hc) ?_;rintro v S1 ⟨mb,m0,ab,r0,rb,ob,x,rl,rc,rm,v',c2,c5,hv,hor,hE',rfl⟩;cases hv;refine⟨D9,?_⟩;simp only[AQ,AS,Dc];refine wW ?_;obtain⟨ρ,hρ,hX⟩:=mf (n:=n) (mb:=mb) (m0:=m0) (ab:=ab) (r0:=r0) (rb:=rb) (x:=x) (rl:=rl) (rc:=rc) (rm:=rm) hor hE' hn;obtain⟨c0,hc0⟩:∃c0:List CH,c0=List.flatten [Dy m0 ab n++EY ab (BQ (128*n)),Ei r0 rb n++Em rb (List.replicate n (0,0,0)),c2,[JF rl ob rm 0,DX (Value.int .i64) rm [] 0,[]].flatten,A7 x [Au m0,Au r0] 134,c5,A7 mb (X1 (Au ob) m0 r0 (Au x) (Au rl) (.map (some rc)) v' (.int .i64 0) (.int .u64 0) (.slice none 0 0)) 89,DX (Value.int .i64) rc [] 0]:=⟨_,rfl⟩
  have hC0:Yj n ob 0 (20000*0) ρ (List.replicate n (0,0,0)) (BQ (128*n)) c0:=⟨_,hc0,hX⟩
  have f8:Fn Tryz.prog 8 [Au mb] [Dy m0 ab n,EY ab (BQ (128*n)),Ei r0 rb n,Em rb (List.replicate n (0,0,0)),c2,JF rl ob rm 0,DX (Value.int .i64) rm [] 0,A7 x [Au m0,Au r0] 134,c5,A7 mb (X1 (Au ob) m0 r0 (Au x) (Au rl) (.map (some rc)) v' (.int .i64 0) (.int .u64 0) (.slice none 0 0)) 89,DX (Value.int .i64) rc [] 0] (Dv (ι:=HvI) (fun i=>LV 56 1 n (J4 (List.replicate n (0,0,0)) n) i.1 i.2.1/\i.2.2.1.oneCell'=true/\LV 58 128 n (bs (Jj (BQ (128*n)) (List.replicate n (0,0,0)) n)) i.2.2.2.1 i.2.2.2.2) (fun i=>.agg [i.1,i.2.2.1,i.2.2.2.1].toArray) (fun i=>[i.2.1,i.2.2.2.2,c0])):=by
   refine(aCn hn hC0 hρ).Cd (F:=[]) ?_ ?_
   ·rw[hc0];simp only[AW,A0,Am,AQ,AS,AU];exact .refl _
   ·rintro e S' ⟨i,hi,rfl,rfl⟩;exact⟨_,⟨i,hi,rfl,rfl⟩,by simp⟩
  refine DL.B7 J J J pK f8 kR (fun _=>aP) (fun _=>D9) ?_;rintro⟨sv,sc,hv,bv,bc⟩ ⟨w1,w2,w3⟩;dsimp only at w1 w2 w3⊢
  (refine wW ?_;intro b)
  obtain⟨q7,hq7⟩:∃q7,q7=b:=⟨_,rfl⟩
  subst hq7;refine DL.Bj tt J J J J uP J (by intro u hu;simp only[Ab,Az,BX]at hu;rcases hu with rfl|rfl|rfl<;>first|exact w1.one|exact w2|exact w3.one) J D9 ?_;refine wW ?_;refine CW.sub (fr:=[(1,.slice lp L.length lc),(2,Au q2),(5,Au mb),(7,Au q7),(8,.int .i64 0)]) ?_ sF;refine CW.perm (S:=[A7 q7 [sv,hv,bv] 40,sc,bc,c0,old,A7 q2 (setW (n:Int) true M (.slice dp dl dc) (.slice ep el ec)) 27]) ?_ (.refl _);refine aCp h75 h9 I hL hB g5 hρ hC0 w1 w2 w3 (fun fr sv sc hv bv bc cX=> ?_);with_reducible apply Hr
  with_reducible apply KU
  refine CW.sub (fr:=[]) ?_ sF;refine wW ?_;refine DL.BS J J J .nil h6 kR .nil D9 ?_;exact wW trivial
end
end
end Go.Proofs.YtfekkjbdcdnhlaaGreatDoor.Sep
