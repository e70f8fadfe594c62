/- Lemmas for TopScrubs. No condition but those that each states. -/
import Derived.Test.YtfekkjbdcdnhlaaGreatDoorMbh
set_option linter.all false
set_option maxHeartbeats 8000000
set_option maxRecDepth 100000
namespace Go.Proofs.YtfekkjbdcdnhlaaGreatDoor.Sep
noncomputable section
variable{key X:List Int}{b0 bp wb wo ED m:Nat}{comp old:List CH}
theorem yc{M:List Int}{D:List (List Int)}{u:Nat}{es:List OE}(hO:Sj M D u es b0 comp)(hk:key.length=32)(hX:X.length=m)(hm:1<=m/\m<=1000)(Ix:BN X)(hw:QC old wb wo (bs X))(hu:u<1099511627776)(hDl:D.length<1099511627776)(hn:es.length<4294967296):
 Fn Tryz.prog 102 [Au b0,.agg (bs key).toArray,.int .i64 7,.slice (some ⟨bp,0,none⟩) 1 1] [comp,A7 bp [.slice (some ⟨wb,wo,none⟩) m ED] 53,old] (wG M D b0 [A7 bp [.slice (some ⟨wb,wo,none⟩) m ED] 53,old] (.tuple #[.agg (bs (Ff D u es (qk 2 key 7 X hk)).1).toArray,.int .i64 0]) (Ff D u es (qk 2 key 7 X hk)).2.1 (Ff D u es (qk 2 key 7 X hk)).2.2):=by
 have hO0:=hO;obtain⟨ds,kb,clk,ls,L,IH,lC,Hv,dH,_,_,hdr,M5,hds,hkn,hes⟩:=hO0;have ha:(Ff D u es (qk 2 key 7 X hk)).1.length=32:=IC hdr.1 (fun e he=>(hes e he).1);refine Fn.of Tryz.func102 J J [_,_] J ?_
 (refine W ?_;intro b;refine W ?_;intro b;refine W ?_)
 rename_i q5;obtain⟨q8,hq8⟩:∃q8,q8=b:=⟨_,rfl⟩
 subst hq8;refine CW.db (id:=1) [0,1,2,3,4,5] [6,7,8,9,10] [A7 q5 (bs key) 23] [] mixed hz kR pK nD nD ?_;refine W ?_;refine DL.GG tt J J J J J iN (by rw[Aa,hk]) ?_;refine W ?_;refine DL.B7 J J J pK (mZ hX hm hw) kR (fun _=>aP) (fun _=>kO) ?_;rintro⟨nb,cap,ex⟩ ⟨h1,h2⟩;dsimp only at h1 h2⊢;refine DL.build hz tt J J J J J J (Uw hk) ?_;refine W ?_;refine Fe (Du pK) ?_;have hdat:G9 X (.slice (some ⟨nb,0,none⟩) m cap) (II nb X ex):=.inr ⟨nb,0,cap,_,_,by rw[hX],I,rfl,by rw[BL,hX,Ar (by rw[Aa,hX];exact Ao _),AX (by rw[Aa,hX];exact Ao _)]⟩;refine DL.call J J J (F:=[comp,II nb X ex]) pK (yb (dm:=7) J hO hk hdat Ix I hu hDl hn) kR (fun ch S1 hc=>by obtain⟨_,hc,_⟩:=hc;cases hc) ?_;rintro v S1 ⟨c',hv,rfl,Sr⟩;cases hv;refine⟨kO,?_⟩;simp only[AQ,AS,Dc];refine W ?_;refine DL.Bj tt J J J J uP (by rw[Aa,ha]) (BV _) HS kO ?_;refine W ?_;refine⟨_,[c',A7 bp [.slice (some ⟨wb,wo,none⟩) m ED] 53,old],_,Fb (RV.D8 tt J J J (In.mem iN) (by rw[Aa,ha])) (RV.tmp J),pK,c',rfl,rfl,Sr⟩
variable{ob K j:Nat}
theorem yd(hO:G1 ob K [j] b0 comp)(hK:K+j+1<=HM)(hk:key.length=32)(hX:X.length=m)(hm:1<=m/\m<=1000)(Ix:BN X)(hw:QC old wb wo (bs X)):
 Fn Tryz.prog 102 [Au b0,.agg (bs key).toArray,.int .i64 7,.slice (some ⟨bp,0,none⟩) 1 1] [comp,A7 bp [.slice (some ⟨wb,wo,none⟩) m ED] 53,old] (Dv (ι:=rq) (fun i=>i.1.length=32/\BN i.1/\0<=i.2.1/\i.2.1<=30/\G1 ob K [j+1] b0 i.2.2) (fun i=>.tuple #[.agg (bs i.1).toArray,.int .i64 i.2.1]) (fun i=>[i.2.2,A7 bp [.slice (some ⟨wb,wo,none⟩) m ED] 53,old])):=by
 obtain⟨j',e,hb,M,D,u,es,ZT,h1,h2,h3,h4,h5⟩:=hO;cases e;simp only[HM]at hK;have hO2:=ZT;obtain⟨ds,kb,clk,ls,L,IH,lC,Hv,dH,_,hM,hdr,M5,hds,hkn,hes⟩:=hO2;refine(yc (M:=M) (D:=D) (u:=u) (es:=es) (ED:=ED) (bp:=bp) ZT hk hX hm Ix hw I h1 I).mono ?_;rintro e S' ⟨c',rfl,rfl,h⟩;have g1:=Uj (D:=D) (u:=u) (es:=es) (q:=qk 2 key 7 X hk);have g2:=QN (D:=D) (u:=u) (es:=es) (q:=qk 2 key 7 X hk);exact⟨(_,0,c'),⟨IC hdr.1 (fun e he=>(hes e he).1),K5 h4 h5,(show(0:Int)<=0 by decide),(show(0:Int)<=30 by decide),⟨j+1,rfl,hb,M,D,_,_,h,h1,I,I,h4,OL h4 h5⟩⟩,rfl,rfl⟩
theorem f54(hO:G1 ob K [j] b0 comp)(hK:K+j+2<=HM)(hX:X.length=m)(hm:1<=m/\m<=1000)(Ix:BN X)(hw:QC old wb wo (bs X)):
 Fn Tryz.prog 54 [Au b0,.slice (some ⟨wb,wo,none⟩) m ED] [comp,old] (Dv (ι:=rq) (fun i=>i.1.length=32/\BN i.1/\0<=i.2.1/\i.2.1<=30/\G1 ob K [j+2] b0 i.2.2) (fun i=>.tuple #[.agg (bs i.1).toArray,.int .i64 i.2.1]) (fun i=>[i.2.2,old])):=by
 refine Fn.of Tryz.func54 J J [_,_] J ?_
 (refine W ?_;intro b;refine W ?_)
 refine DL.B7 J J J pK (Za (dm:=9) Ba hO I) kR (fun _=>aP) (fun _=>kO) ?_;rintro⟨dg,er,c1⟩ ⟨g1,g2,g3,g4,g5⟩;dsimp only at g1 g2 g3 g4 g5⊢
 (refine W ?_;intro b)
 refine DL.Bj tt J J J J uP (by rw[Aa,g1]) (BV _) HS kO ?_;refine W ?_;by_cases he:er=0
 ·subst he;refine W ?_;refine DL.LJ tt J J J J J iN (by rw[Aa,g1]) ?_
  (refine W ?_;intro b)
  refine DL.B7 J J J pK (yd (ED:=ED) (bp:=b) g5 I g1 hX hm Ix hw) kR (fun _=>aP) (fun _=>kO) ?_;rintro⟨ye,er2,c2⟩ ⟨k1,k2,k3,k4,k5⟩;dsimp only at k1 k2 k3 k4 k5⊢;refine W ?_;refine DL.Bj tt J J J J uP (by rw[Aa,k1]) (BV _) HS kO ?_;refine W ?_;exact BD (ye,er2,c2) ⟨k1,k2,k3,k4,k5⟩ (Fb (RV.D8 tt J J J (In.mem iN) (by rw[Aa,k1])) (RV.tmp J)) pK
 ·refine W ?_;refine DL.Bj tt J J J J uP (by rw[Aa];rfl) (BV _) HS kO ?_;refine W ?_;exact BD (BQ 32,er,c1) ⟨Bn _,E0 _,g3,g4,FQ I g5⟩ (Fb (RV.D8 tt J J J (In.mem iN) (by rw[Aa];rfl)) (RV.tmp J)) pK
abbrev HvI:=Value×List CH×Value×Value×List CH
theorem aCl{mb rb mm ab tb qb n:Nat}{B:List Int}{R:List Rw}{v0 v3 v4 v6 v7 v8 v9:Value}(hn:1<=n/\n<=4096)(hB:B.length=128*n)(hR:R.length=n)(h0:v0.oneCell'=true)(h3:v3.oneCell'=true)(h4:v4.oneCell'=true):
 Fn Tryz.prog 8 [Au mb] [A7 mb (X0 v0 (Au mm) (Au tb) v3 v4 rb v6 v7 v8 v9) 89,Dy mm ab n,EY ab B,Ei tb qb n,Em qb R]
  (Dv (ι:=HvI) (fun i=>LV 56 1 n (J4 R n) i.1 i.2.1/\i.2.2.1.oneCell'=true/\LV 58 128 n (bs (Jj B R n)) i.2.2.2.1 i.2.2.2.2) (fun i=>.agg [i.1,i.2.2.1,i.2.2.2.1].toArray) (fun i=>[i.2.1,i.2.2.2.2,A7 mb (X0 v0 (Au mm) (Au tb) v3 v4 rb v6 v7 v8 v9) 89,Dy mm ab n,EY ab B,Ei tb qb n,Em qb R])):=by
 refine Fn.of Tryz.func8 J J [_] J ?_
 (refine wW ?_;intro b;refine wW ?_;intro b;refine wW ?_)
 rename_i q2;obtain⟨q3,hq3⟩:∃q3,q3=b:=⟨_,rfl⟩
 subst hq3;refine DL.BS J J J (.cons (.there (.there .here)) .nil) (rE (by intro u hu;simp only[Ab,Az,BX]at hu;rcases hu with rfl|rfl|rfl|rfl|rfl<;>first|rfl|assumption)) kR aP D9 ?_
 (refine wW ?_;intro b;refine wW ?_)
 obtain⟨q4,hq4⟩:∃q4,q4=b:=⟨_,rfl⟩
 subst hq4;refine DL.BS J J J pK (FA (ab:=ab) (n:=n)) kR aP D9 ?_;refine wW ?_;refine CW.YA (CW.YA (CW.YA ?_));refine CW.loop (ι:=Nat×Value×List CH×Value×List CH×Value×List CH) (fun i=>n-i.1) (fun i=>i.1<=n/\LV 56 1 i.1 (J4 R i.1) i.2.1 i.2.2.1/\(∃hcs,LV 3 1 i.1 hcs i.2.2.2.1 i.2.2.2.2.1)/\LV 58 128 i.1 (bs (Jj B R i.1)) i.2.2.2.2.2.1 i.2.2.2.2.2.2)
  (fun i=>[(0,Au mb),(2,Au q2),(3,Au q3),(4,Au q4),(13,.int .i64 n),(14,.int .i64 (i.1:Int))])
  (fun i=>[A7 q3 [i.2.1,i.2.2.2.1,i.2.2.2.2.2.1] 40,i.2.2.1,i.2.2.2.2.1,i.2.2.2.2.2.2,A7 q4 [v0,Au mm,Au tb,v3,v4] 84,A7 q2 [.slice none 0 0,.slice none 0 0,.slice none 0 0] 40,A7 mb (X0 v0 (Au mm) (Au tb) v3 v4 rb v6 v7 v8 v9) 89,Dy mm ab n,EY ab B,Ei tb qb n,Em qb R])
  (0,.slice none 0 0,[],.slice none 0 0,[],.slice none 0 0,[]) ⟨Cj _,.nil,⟨[],.nil⟩,.nil⟩ sF pK ?_
 rintro⟨g,sv,sc,hv,hc,bv,bc⟩ ⟨g1,g2,⟨hcs,g3⟩,g4⟩;dsimp only at g1 g2 g3 g4⊢;refine wW ?_;by_cases hg:g<n
 ·refine CW.Gp J I ?_;refine wW ?_;obtain⟨r,hr⟩:∃r,R[g]? =some r:=⟨_,AZ I⟩
  refine DL.BS J J J pK (OB J hR hn.2 hr) kR aP D9 ?_
  (refine uU ?_;intro b;refine uU ?_)
  with_reducible apply CW.seq
  (refine uU ?_;intro b;refine uU ?_)
  rename_i q6;obtain⟨q8,hq8⟩:∃q8,q8=b:=⟨_,rfl⟩
  subst hq8;refine CW.cut (ι:=List Int) (fun X=>X.length=128/\QD B R g=X) (fun _=>[(0,Au mb),(2,Au q2),(3,Au q3),(4,Au q4),(6,Au q6),(8,Au q8),(13,.int .i64 n),(14,.int .i64 (g:Int))]) (fun X=>[A7 q8 (bs X) 58,A7 q6 (P1 r) 93,A7 q3 [sv,hv,bv] 40,sc,hc,bc,A7 q4 [v0,Au mm,Au tb,v3,v4] 84,A7 q2 [.slice none 0 0,.slice none 0 0,.slice none 0 0] 40,A7 mb (X0 v0 (Au mm) (Au tb) v3 v4 rb v6 v7 v8 v9) 89,Dy mm ab n,EY ab B,Ei tb qb n,Em qb R]) ?_ ?_
  ·with_reducible apply CW.seq
   refine uU ?_;refine DL.BS J J J pK (OC J hR hn.2 hr) kR aP D9 ?_;refine uU ?_;by_cases hz0:r.1=0
   ·rw[Bq hz0];refine wW ?_;have hsl:=N4 hB hg;refine DL.BS J J J pK (XQ hg hB) kR aP D9 ?_;refine wW ?_;exact⟨sub B g,_,⟨N4 hB hg,by simp[QD,hr,hz0]⟩,sF,pK⟩
   ·rw[BW hz0];refine wW ?_;exact⟨BQ 128,_,⟨Bn _,by simp[QD,hr,hz0]⟩,sF,pK⟩
  rintro X ⟨Hw,hX⟩;have hbl:(bs X).length=128:=(Aa _).trans Hw;have VV:List.take (1*128) (List.drop 0 (bs X))=bs X:=by rw[BL,AX I]
  refine Yi (r:=r) (X:=X) I g2 g3 g4 Hw sF ?_;intro sv' sc' hv' hc' MH bc' e1 e2 e3 fr' S' V hfr hS;refine CW.sub (fr:=[(0,Au mb),(2,Au q2),(3,Au q3),(4,Au q4),(13,.int .i64 n),(14,.int .i64 (g:Int))]) ?_ (.cons (hfr 0 _ Ba J) (.cons (hfr 2 _ Ba J) (.cons (hfr 3 _ Ba J) (.cons (hfr 4 _ Ba J) (.cons (hfr 13 _ Ba J) (.cons (hfr 14 _ Ba J) (.nil _)))))));refine CW.drop ?_ hS;refine wW ?_;exact⟨(g+1,sv',sc',hv',hc',MH,bc'),_,by simp only;omega,⟨by simp only;omega,by simp only;rw[dZ hr];exact e1,⟨_,e2⟩,by simp only;rw[MZ,hX,<-H8];exact e3⟩,sF,pK⟩
 ·obtain rfl:g=n:=I;refine CW.GM J I ?_;refine wW ?_;refine DL.Bj tt J J J J uP J (by intro u hu;simp only[Ab,Az,BX]at hu;rcases hu with rfl|rfl|rfl<;>first|exact g2.one|exact g3.one|exact g4.one) J D9 ?_;refine wW ?_;exact BD (sv,sc,hv,bv,bc) ⟨g2,g3.one,g4⟩ (DC (RV.D8 tt J J J (In.mem iN) J)) pK
end
end Go.Proofs.YtfekkjbdcdnhlaaGreatDoor.Sep
