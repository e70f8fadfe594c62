/- Lemmas for TopScrubs. No condition but those that each states. -/
import Derived.Test.YtfekkjbdcdnhlaaGreatDoorMay
set_option linter.all false
set_option maxHeartbeats 8000000
set_option maxRecDepth 100000
namespace Go.Proofs.YtfekkjbdcdnhlaaGreatDoor.Sep
noncomputable section
variable{comp:List CH}
theorem wH{X:List Int}{ob K j b0 bp wb ED:Nat}{IU:List Value}(hO:G1 ob K [j] b0 comp)(hX:X.length=8)(Ix:BN X)(hw:8<=ED/\IU.length=ED-8)(hK:K+j+1<=HM):
 Fn Tryz.prog 101 [Au b0,.int .i64 8,.slice (some ⟨bp,0,none⟩) 1 1] [comp,A7 bp [.slice (some ⟨wb,0,none⟩) 8 ED] 53,II wb X IU] (Dv (ι:=rq) (fun i=>i.1.length=32/\BN i.1/\0<=i.2.1/\i.2.1<=30/\G1 ob K [j+1] ob i.2.2) (fun i=>.tuple #[.agg (bs i.1).toArray,.int .i64 i.2.1]) (fun i=>[i.2.2,A7 bp [.slice (some ⟨wb,0,none⟩) 8 ED] 53,II wb X IU])):=by
 obtain⟨j',e,hb,M,D,u,es,ZT,h1,h2,h3,h4,h5⟩:=hO;cases e;simp only[HM]at hK;have hO2:=ZT;obtain⟨ds,kb,clk,ls,L,IH,lC,Hv,dH,_,hM,hdr,M5,hds,hkn,hes⟩:=hO2;refine(iz ZT hM hX Ix hw I h1 I).mono ?_;rintro e S' ⟨c',rfl,rfl,h⟩;have g1:=Uj (D:=D) (u:=u) (es:=es) (q:=qk 3 M 8 X hM);have g2:=QN (D:=D) (u:=u) (es:=es) (q:=qk 3 M 8 X hM);exact⟨(_,0,c'),⟨IC hdr.1 (fun e he=>(hes e he).1),K5 h4 h5,(show(0:Int)<=0 by decide),(show(0:Int)<=30 by decide),⟨j+1,rfl,rfl,M,D,_,_,hb▸h,h1,I,I,h4,OL h4 h5⟩⟩,rfl,rfl⟩
abbrev aAX:List Value:=[Value.int .u64 0,Value.int .i64 0,Value.int .i64 0,Value.int .u64 0]++bs (BQ 32)++[Value.slice none 0 0]++bs (BQ 32)++[Value.int .u64 0]++bs (BQ 32)++[Value.int .i64 0]
variable{nd:Int}
theorem pD{id st a:Int}{dg ky tr:List Int}{lv:Value}(h1:dg.length=32)(h2:ky.length=32)(h3:tr.length=32):F6 (Kd.st [(0,1),(1,1),(2,1),(3,1),(4,32),(36,1),(37,32),(69,1),(70,32),(102,1)]).place aAX [(0,[.int .u64 id]),(1,[.int .i64 st]),(2,[.int .i64 a]),(3,[.int .u64 nd]),(4,bs dg),(5,[lv]),(6,bs ky),(8,bs tr)]=some (Fv ⟨id,st,a,nd,dg,ky,0,tr,0⟩ lv):=by simp[F6,Kd.place,E1,Aa,Bn,h1,h2,h3,C4,CM,AX,BJ,Fv];rfl
def Made(ob K j j2 b:Nat):Ending->A2->Prop:=fun e S'=>∃r lv er c' oc' G,Rv.ok r/\lv.oneCell'=true/\(0:Int)<=er/\er<=30/\M9 ob K [j+1] b c'/\G1 ob K [j2+2] ob oc'/\e=.returned (.tuple #[.agg (Fv r lv).toArray,.int .i64 er])/\S'.flatten.Perm (c'++oc'++G)
theorem f123{ob K j j2 b0:Nat}{rd root:Int}{oc:List CH}{V D0:List Int}(h:M9 ob K [j] b0 comp)(hV:V.length=32/\BN V)(hnd:0<=nd/\nd<=18446744073709551615)(hD0:D0.length=32/\BN D0)(hroot: -9223372036854775808<=root/\root<=9223372036854775807)(hO:G1 ob K [j2] ob oc)(hK:K+j<=2147483648)(hK2:K+j2+2<=HM):
 Fn Tryz.prog 123 [Au b0,.int .i64 rd,.int .i64 root,.agg (bs V++[Value.int .u64 nd]).toArray,.agg (bs D0).toArray] [comp,oc] (Made ob K j j2 b0):=by
 have hmono:M9 ob K [j+1] b0 comp:=L6 (EG _) h;have Ux:G1 ob K [j2+2] ob oc:=FQ I hO;have h0:=h;obtain⟨j0,e,mb,x,L,clk,c,hcomp,hx0,hx1,hp⟩:=h0;cases e;have hl0:=EP (lv:=.slice none 0 0) Nn;refine Fn.of Tryz.func123 J J [_,_] J ?_;rw[hcomp];refine CW.FK (T:=[JF b0 ob mb x,DX (Value.int .i64) mb L clk,c,oc]) DI ?_
 (refine W ?_;intro b;refine W ?_;intro b;refine W ?_;intro b;refine W ?_)
 rw[Rk];rename_i q8 q9;obtain⟨q10,hq10⟩:∃q10,q10=b:=⟨_,rfl⟩
 subst hq10;refine DL.BS J J J pK (OM) kR aP kO ?_;refine W ?_;by_cases hrd:rd<0
 ·rw[show decide (rd<0)=true by simp[hrd]];refine W ?_;rw[Rk];refine DL.Bj tt J J J J uP (by rw[hl0]) (ID J) (by rw[hl0]) kO ?_;refine W ?_;exact⟨_,[JF b0 ob mb x,DX (Value.int .i64) mb L clk,c,oc],_,Fb (RV.D8 tt J J J (In.mem iN) (by rw[hl0])) (RV.tmp J),pK,pC,.slice none 0 0,2,comp,oc,[],Nn,rfl,Ba,Ba,hmono,Ux,rfl,by rw[hcomp];simp⟩
 rw[show decide (rd<0)=false by simp[hrd]];refine W ?_;by_cases hrt:root<0
 ·rw[show decide (root<0)=true by simp[hrt]];refine W ?_;rw[Rk];refine DL.Bj tt J J J J uP (by rw[hl0]) (ID J) (by rw[hl0]) kO ?_;refine W ?_;exact⟨_,[JF b0 ob mb x,DX (Value.int .i64) mb L clk,c,oc],_,Fb (RV.D8 tt J J J (In.mem iN) (by rw[hl0])) (RV.tmp J),pK,pC,.slice none 0 0,2,comp,oc,[],Nn,rfl,Ba,Ba,hmono,Ux,rfl,by rw[hcomp];simp⟩
 rw[show decide (root<0)=false by simp[hrt]];refine W ?_;refine DL.I0 (a:=rd) (L:=L) (clk:=clk) (IA tt (kt:=3) J) tt hz J J J J J J J UK ?_;cases hg:E9 L rd with
 |some v=>
  obtain⟨rv,lc,r,rfl,⟨rr,lv,rfl,Ss,I3⟩,_⟩:=hp.at_ hg;have hl1:=EP (lv:=lv) Ss;simp only[B0,Option.isSome_some]
  (refine W ?_;intro b)
  refine DL.Bj tt J J J J uP (by rw[hl1]) (ID I3.one) HS kO ?_;refine W ?_;rw[Rk];refine DL.Bj tt J J J J uP (by rw[hl0]) (ID J) (by rw[hl0]) kO ?_;refine W ?_;exact⟨_,[JF b0 ob mb x,DX (Value.int .i64) mb L clk,c,oc],_,Fb (RV.D8 tt J J J (In.mem iN) (by rw[hl0])) (RV.tmp J),pK,pC,.slice none 0 0,7,comp,oc,[],Nn,rfl,Ba,Ba,hmono,Ux,rfl,by rw[hcomp];simp⟩
 |none=>
  simp only[EN,Option.isSome_none,Rk]
  (refine W ?_;intro b)
  refine DL.Bj tt J J J J uP (by rw[hl0]) (ID J) HS kO ?_;refine W ?_;by_cases hx4:x=4294967296
  ·rw[show decide (x=4294967296)=true by simp[hx4]];refine W ?_;rw[Rk];refine DL.Bj tt J J J J uP (by rw[hl0]) (ID J) (by rw[hl0]) kO ?_;refine W ?_;exact⟨_,[JF b0 ob mb x,DX (Value.int .i64) mb L clk,c,oc],_,Fb (RV.D8 tt J J J (In.mem iN) (by rw[hl0])) (RV.tmp J),pK,pC,.slice none 0 0,12,comp,oc,[],Nn,rfl,Ba,Ba,hmono,Ux,rfl,by rw[hcomp];simp⟩
  rw[show decide (x=4294967296)=false by simp[hx4]];refine W ?_;refine DL.Br (cs':=[Au ob,.map (some mb),.int .u64 (x+1)]) tt J J J J J uP J J J DI kO ?_;refine W ?_;refine CW.dw (id:=11) [0,1,2,3,4,5,6,7,8,9,10,11,12,13] [JF b0 ob mb (x+1)] mixed hz kR pK nD ?_;refine W ?_;refine DL.Ld tt (l:=0) (m:=32) (c:=32) J J J J J J J .all ?_
  (refine W ?_;intro b)
  simp only[show((32:Nat)=0)=False from by decide,Cc,Nat.zero_mul,CV,BM,Df];refine DL.B7 J J J pK (oz hO hV hnd I) kR (fun _=>aP) (fun _=>kO) ?_;rintro⟨Dg,e1,oc1⟩ ⟨d1,d2,d3,d4,d5⟩;dsimp only at d1 d2 d3 d4 d5⊢
  (refine W ?_;intro b)
  refine DL.Bj tt J J J J uP (by rw[Aa,d1]) (BV _) HS kO ?_;refine W ?_;obtain⟨q14,aCY⟩:∃q14,q14=b:=⟨_,rfl⟩
  subst aCY;refine CW.dw (id:=12) [0,1,2,3,4,5,6,7,8,9,10,11,12,13,14,15,16] [JF b0 ob mb (x+1)] mixed hz kR pK nD ?_;refine W ?_;refine DL.B7 J J J .nil (ZL (x:=x+1) I) kR (fun _=>aP) (fun _=>kO) ?_;rintro⟨wb,ED,IU⟩ hw;dsimp only at hw⊢
  (refine W ?_;intro b)
  have hob:G1 ob K [j2+1] ob oc1:=d5;refine DL.B7 J J J pK (wH (X:=Ek (x+1) 8) hob (Ey _ _) (JE _ _) hw I) kR (fun _=>aP) (fun _=>kO) ?_;rintro⟨ky,e2,dq⟩ ⟨k1,k2,k3,k4,k5⟩;dsimp only at k1 k2 k3 k4 k5⊢
  (refine W ?_;intro b)
  refine DL.Bj tt J J J J uP (by rw[Aa,k1]) (BV _) HS kO ?_;refine W ?_;obtain⟨q16,wI⟩:∃q16,q16=b:=⟨_,rfl⟩
  subst wI;refine CW.dw (id:=13) [0,1,2,3,4,5,6,7,8,9,10,11,12,13,14,15,17,18,16,19,20] [JF b0 ob mb (x+1),A7 q8 (bs V++[.int .u64 nd]) 68,A7 q14 (bs Dg) 23,A7 q16 (bs ky) 23,A7 q9 (bs D0) 23] mixed hz kR pK nD ?_;refine W ?_;refine DL.G8 tt J J J J J iN (show E1 (bs V++[Value.int .u64 nd]) 32=some (.int .u64 nd) by rw[D5];simp[CX,Aa,hV.1]) ?_;refine DL.GG tt J J J J J iN (by rw[Aa,d1]) ?_;refine W ?_;refine DL.HQ tt (cs:=bs V++[Value.int .u64 nd]) (vs:=bs V) J J J J J (Aw _ BH) (by rw[BL,Ar (by rw[Aa,hV.1];decide),AX (by rw[Aa,hV.1];decide)]) (by rw[Aa,hV.1]) ?_;refine DL.build hz tt J J J J J J (iQ hV.1) ?_;refine DL.GG tt J J J J J iN (by rw[Aa,k1]) ?_;refine DL.GG tt J J J J J iN (by rw[Aa,hD0.1]) ?_;have hrl:=Ur (a:=.int .i64 1) (p:=.int .i64 0) (T:=t10) hV.1 (Bn 128) J;have hr1:=Us (a:=.int .i64 1) (p:=.int .i64 0) (Z:=V) (G:=BQ 128) (T:=t10) J J ZN;generalize iK (.int .i64 1) V (.int .i64 0) (BQ 128) t10=rec at hrl hr1⊢
  (refine W ?_;intro b)
  refine DL.build hz tt J J J J J J (pD d1 k1 hD0.1) ?_;refine DL.Ju (a:=rd) (IA tt (kt:=3) J) tt J J J J J J uP (Du pK) ?_;refine W ?_;obtain⟨lb,hlb⟩:∃lb,lb=b:=⟨_,rfl⟩
  subst hlb;have Ss:Rv.ok ⟨x+1,1,root,nd,Dg,ky,0,D0,0⟩:=⟨⟨by simp only;omega,by simp only;omega⟩,⟨by simp only;omega,by simp only;omega⟩,hroot,hnd,⟨d1,d2⟩,⟨k1,k2⟩,⟨by simp only;omega,by simp only;omega⟩,hD0,⟨by simp only;omega,by simp only;omega⟩⟩
  generalize(⟨x+1,1,root,nd,Dg,ky,0,D0,0⟩:Rv)=r at Ss⊢;have I3:J1 (K+(j+1)) (.slice (some ⟨lb,0,none⟩) 1 1) (A7 lb rec 301):=.inr ⟨lb,1,1,rec,[],rfl,Ao _,I,by simp,I,rfl,hr1⟩;refine DL.look (a:=rd) (L:=F8 L rd (.agg (Fv r (.slice (some ⟨lb,0,none⟩) 1 1)).toArray) clk) (clk:=J8 L rd clk) (IA tt (kt:=3) J) tt hz J J J J J J J UK ?_;rw[O8,BE J];simp only[B0];have hl1:=EP (lv:=.slice (some ⟨lb,0,none⟩) 1 1) Ss;refine DL.B7 J J J (F:=[A7 lb rec 301]) pK (gX Ss I3 I) kR (fun _=>aP) (fun _=>kO) ?_;rintro⟨Xv,Re⟩ g1;dsimp only at g1⊢;have hl2:=EP (lv:=Xv) Ss;refine DL.Bj tt J J J J uP (by rw[hl2]) (ID g1.one) (by rw[hl0]) kO ?_;refine W ?_;have hpn:=K6.new (m':=K+(j+1)) (clk:=clk) I ⟨r,.slice (some ⟨lb,0,none⟩) 1 1,rfl,Ss,I3⟩ hp hg;refine⟨_,[JF b0 ob mb (x+1),DX (Value.int .i64) mb (F8 L rd (.agg (Fv r (.slice (some ⟨lb,0,none⟩) 1 1)).toArray) clk) (J8 L rd clk),c,dq,A7 lb rec 301],_,Fb (RV.D8 tt J J J (In.mem iN) (by rw[hl2])) (RV.tmp J),pK,r,Xv,0,[JF b0 ob mb (x+1),DX (Value.int .i64) mb (F8 L rd (.agg (Fv r (.slice (some ⟨lb,0,none⟩) 1 1)).toArray) clk) (J8 L rd clk),c++A7 lb rec 301].flatten,dq,[],Ss,g1.one,Ba,Ba,⟨j+1,rfl,mb,x+1,_,_,_,rfl,I,I,hpn⟩,k5,rfl,?_⟩;refine C2 fun _ x=> ?_
  simp only[AW,A0,Am,AQ,AS,Ax];omega
end
end Go.Proofs.YtfekkjbdcdnhlaaGreatDoor.Sep
