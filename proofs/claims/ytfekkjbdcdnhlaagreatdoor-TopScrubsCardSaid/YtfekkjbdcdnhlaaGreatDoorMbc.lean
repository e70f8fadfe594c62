/- Lemmas for TopScrubs. No condition but those that each states. -/
import Derived.Test.YtfekkjbdcdnhlaaGreatDoorMat
import Derived.Test.YtfekkjbdcdnhlaaGreatDoorMau
set_option linter.all false
set_option maxHeartbeats 8000000
set_option maxRecDepth 100000
namespace Go.Proofs.YtfekkjbdcdnhlaaGreatDoor.Sep
noncomputable section
variable{A D:List Int}{k:Nat}
theorem OS(hD:D.length=32)(hk:32*k+32<=A.length):cut (pat A (32*k) D) (32*k) 32=D:=by
 have h1:(A.take (32*k)).length=32*k:=by rw[BP];omega
 rw[cut,pat,AU,List.drop_left' h1,List.take_left' hD]
variable{i:Nat}
theorem NH(hD:D.length=32)(hk:32*k+32<=A.length)(hi:32*i+32<=A.length)(hne:i≠k):cut (pat A (32*k) D) (32*i) 32=cut A (32*i) 32:=by
 refine List.ext_getElem? fun n=> ?_
 simp only[cut,pat,Bf,CG];by_cases hn:n<32
 ·simp only[hn,C9];by_cases hlt:i<k
  ·rw[AU,BG (by rw[BP];omega),List.getElem?_take_of_lt I]
  ·rw[BF (by rw[Aq,BP];omega),CG];congr 1
   rw[Aq,BP];omega
 ·simp[hn]
abbrev LyI:=List Int×Int×List CH×List CH
theorem jz{O Mm:Nat->List CH->Prop}{Dg:Nat->List Int->Prop}{PL:Nat->Int->Prop}{E:Int->Prop}{ov mv:Value}{nd:Int}{oc mc:List CH}
 (hDg:∀k d,Dg k d->d.length=32)
 (H0:∀oc mc,O 0 oc->Mm 0 mc->Fn Tryz.prog 187 [ov,mv,.int .u64 nd,.int .i64 0] [oc,mc] (Dv (ι:=Int×List CH×List CH) (fun i=>E i.1/\O 1 i.2.1/\Mm 0 i.2.2) (fun i=>.int .i64 i.1) (fun i=>[i.2.1,i.2.2])))
 (H1:∀(p:Nat) (oc:List CH),p<128->O (1+p) oc->Fn Tryz.prog 188 [ov,.int .i64 (p:Int)] [oc] (Dv (ι:=List Int×Int×List CH) (fun i=>Dg (128+p) i.1/\O (2+p) i.2.2) (fun i=>.tuple #[.agg (bs i.1).toArray,.int .i64 i.2.1]) (fun i=>[i.2.2])))
 (H2:∀(k:Nat) (a b:List Int) (oc:List CH),1<=k->k<=127->Dg (2*k) a->Dg (2*k+1) b->O (256-k) oc->Fn Tryz.prog 189 [ov,.int .i64 (k:Int),.agg (bs a).toArray,.agg (bs b).toArray] [oc] (Dv (ι:=List Int×Int×List CH) (fun i=>Dg k i.1/\O (256-k+1) i.2.2) (fun i=>.tuple #[.agg (bs i.1).toArray,.int .i64 i.2.1]) (fun i=>[i.2.2])))
 (H3:∀(k:Nat),2<=k->k<256->Fn Tryz.prog 191 [.int .u64 nd,.int .i64 (k:Int)] [] (Dv (ι:=Int) (fun v=>PL k v) (fun v=>.int .u64 v) (fun _=>[])))
 (H4:∀(k:Nat) (v:Int) (d:List Int) (mc:List CH) (sb so:Nat) (cs:List Value),2<=k->k<256->PL k v->Dg k d->(cs.drop so).take 32=bs d->Mm (k-2) mc->Fn Tryz.prog 190 [mv,.int .u64 v,.slice (some ⟨sb,so,none⟩) 32 32] [mc,A7 sb cs 304] (Dv (ι:=Int×List CH) (fun i=>Mm (k-1) i.2) (fun i=>.int .i64 i.1) (fun i=>[i.2,A7 sb cs 304])))
 (hO:O 0 oc) (hM:Mm 0 mc):
 Fn Tryz.prog 124 [ov,mv,.int .u64 nd] [oc,mc] (Dv (ι:=LyI) (fun i=>(i.2.1≠0/\E i.2.1/\i.1=BQ 32/\O 1 i.2.2.1/\Mm 0 i.2.2.2)\/(i.2.1=0/\Dg 1 i.1/\O 256 i.2.2.1/\Mm 254 i.2.2.2)) (fun i=>.tuple #[.agg (bs i.1).toArray,.int .i64 i.2.1]) (fun i=>[i.2.2.1,i.2.2.2])):=by
 refine Fn.of Tryz.func124 J J [_,_] J ?_
 (refine W ?_;intro b;refine W ?_)
 obtain⟨q6,hq6⟩:∃q6,q6=b:=⟨_,rfl⟩
 subst hq6;refine DL.B7 J J J (F:=[oc,mc]) pK (H0 oc mc hO hM) kR (fun _=>aP) (fun _=>kO) ?_;rintro⟨e,oc1,mc1⟩ ⟨hE,ZT,hM1⟩;dsimp only at hE ZT hM1⊢;refine W ?_;by_cases he:e=0
 ·rw[show decide (¬e=0)=false by simp[he]]
  (refine W ?_;intro b;refine W ?_)
  obtain⟨q9,hq9⟩:∃q9,q9=b:=⟨_,rfl⟩
  subst hq9;refine CW.loop (ι:=Nat×List Int×List CH) (fun i=>128-i.1) (fun i=>i.1<=128/\i.2.1.length=8192/\O (1+i.1) i.2.2/\∀k,128<=k->k<128+i.1->Dg k (cut i.2.1 (32*k) 32)) (fun i=>[(0,ov),(1,mv),(2,.int .u64 nd),(6,Au q6),(9,Au q9),(21,.int .i64 (i.1:Int))]) (fun i=>[A7 q9 (bs i.2.1) 304,i.2.2,mc1,A7 q6 (bs (BQ 32)) 23]) (0,BQ 8192,oc1) ⟨I,Bn _,ZT,fun k h1 h2=>I⟩ sF pK ?_;rintro⟨p,A,dq⟩ ⟨g1,g2,g3,g4⟩;dsimp only at g1 g2 g3 g4⊢;refine W ?_;by_cases hp:p<128
  ·refine CW.Gp J I ?_;refine W ?_;refine DL.B7 J J J (F:=[dq]) pK (H1 p dq hp g3) kR (fun _=>aP) (fun _=>kO) ?_;rintro⟨d,e2,oc3⟩ ⟨g5,g6⟩;dsimp only at g5 g6⊢;have hd:=hDg _ _ g5;refine W ?_;refine DL.Fg tt (128+p) J J J J J I I ?_;refine DL.NM (vs:=bs d) (cs':=bs (pat A (32*(128+p)) d)) tt J J J J uP (by rw[show 0+(128+p)*32=32*(128+p) by omega];exact Ug A d _) (by rw[Aa,hd]) (BV _) (by rw[Aa,Aa,hd,g2];omega) kO ?_;refine W ?_;refine⟨(p+1,pat A (32*(128+p)) d,oc3),_,by simp only;omega,⟨by simp only;omega,by simp only;rw[Ie (by rw[hd,g2];omega)];exact g2,by simp only;rw[show 1+(p+1)=2+p by omega];exact g6,fun k h1 h2=> ?_⟩,sF,pK⟩;dsimp only at h2⊢;by_cases hk:k=128+p
   ·subst hk;rw[OS hd (by rw[g2];omega)];exact g5
   ·rw[NH hd (by rw[g2];omega) (by rw[g2];omega) hk];exact g4 k h1 I
  ·obtain rfl:p=128:=I;refine CW.GM J I ?_;refine W ?_;refine CW.loop (ι:=Nat×List Int×List CH) (fun i=>i.1) (fun i=>i.1<=127/\i.2.1.length=8192/\O (256-i.1) i.2.2/\∀k,i.1<k->k<256->Dg k (cut i.2.1 (32*k) 32)) (fun i=>[(0,ov),(1,mv),(2,.int .u64 nd),(6,Au q6),(9,Au q9),(11,.int .i64 (i.1:Int))]) (fun i=>[A7 q9 (bs i.2.1) 304,i.2.2,mc1,A7 q6 (bs (BQ 32)) 23]) (127,A,dq) ⟨I,g2,g3,fun k h1 h2=>g4 k I I⟩ sF pK ?_;clear g1 g2 g3 g4 hp;clear A dq;rintro⟨i,A,dq⟩ ⟨g1,g2,g3,g4⟩;dsimp only at g1 g2 g3 g4⊢;refine W ?_;by_cases hi:0<i
   ·rw[show decide (0<(i:Int))=true by simp;omega];refine W ?_;refine CW.db (id:=13) [0,1,2,3,4,5,6,7,8,9,10,11,12,13] [14,15,16,17] [A7 q9 (bs A) 304] [] mixed hz kR pK nD nD ?_;refine W ?_;have h2a:cut A (32*(2*i)) 32=cut A (32*(2*i)) 32:=rfl;refine DL.Fg tt (2*i) J J J J J (by push_cast;rfl) I ?_;refine DL.HQ tt (cs:=bs A) (vs:=bs (cut A (32*(2*i)) 32)) J J J J J BH (by rw[show 0+2*i*32=32*(2*i) by omega];exact Lu A _ _) (by rw[Aa,F9 (by rw[g2];omega)]) ?_;refine W ?_;refine DL.Fg tt (2*i+1) J J J J J (by push_cast;rfl) I ?_;refine DL.HQ tt (cs:=bs A) (vs:=bs (cut A (32*(2*i+1)) 32)) J J J J J BH (by rw[show 0+(2*i+1)*32=32*(2*i+1) by omega];exact Lu A _ _) (by rw[Aa,F9 (by rw[g2];omega)]) ?_;refine DL.B7 J J J (F:=[dq]) pK (H2 i _ _ dq I g1 (g4 (2*i) I I) (g4 (2*i+1) I I) g3) kR (fun _=>aP) (fun _=>kO) ?_;rintro⟨d,e2,oc3⟩ ⟨g5,g6⟩;dsimp only at g5 g6⊢;have hd:=hDg _ _ g5;refine W ?_;refine Fe (Du pK) ?_;refine W ?_;refine DL.Fg tt i J J J J J J I ?_;refine DL.NM (vs:=bs d) (cs':=bs (pat A (32*i) d)) tt J J J J uP (by rw[show 0+i*32=32*i by omega];exact Ug A d _) (by rw[Aa,hd]) (BV _) (by rw[Aa,Aa,hd,g2];omega) kO ?_;refine W ?_;refine⟨(i-1,pat A (32*i) d,oc3),_,by simp only;omega,⟨by simp only;omega,by simp only;rw[Ie (by rw[hd,g2];omega)];exact g2,by simp only;rw[show 256-(i-1)=256-i+1 by omega];exact g6,fun k h1 h2=> ?_⟩,?_,pK⟩
    ·dsimp only at h1⊢;by_cases hk:k=i
     ·subst hk;rw[OS hd (by rw[g2];omega)];exact g5
     ·rw[NH hd (by rw[g2];omega) (by rw[g2];omega) hk];exact g4 k I h2
    ·rw[show((i:Int)-1)=((i-1:Nat):Int) by omega]
     (repeat(first|exact Eo.nil _|refine Eo.cons J ?_))
   ·obtain rfl:i=0:=I;rw[show decide (0<((0:Nat):Int))=false by simp];refine W ?_;refine CW.loop (ι:=Nat×List CH) (fun i=>256-i.1) (fun i=>2<=i.1/\i.1<=256/\Mm (i.1-2) i.2) (fun i=>[(0,ov),(1,mv),(2,.int .u64 nd),(6,Au q6),(9,Au q9),(12,.int .i64 (i.1:Int))]) (fun i=>[A7 q9 (bs A) 304,dq,i.2,A7 q6 (bs (BQ 32)) 23]) (2,mc1) ⟨I,I,hM1⟩ sF pK ?_;rintro⟨i,mc2⟩ ⟨f1,f2,f3⟩;dsimp only at f1 f2 f3⊢;refine W ?_;by_cases hi3:i<256
    ·refine CW.Gp J I ?_;refine W ?_;refine CW.dw [0,1,2,4,5,6,3,7] [] mixed hz kR pK nD ?_;refine W ?_;refine DL.Fg tt i J J J J J J I ?_;refine DL.Ld tt (l:=0) (m:=32) (c:=32) J J J J J J J .all ?_;rw[Ah Ba];refine DL.B7 J J J .nil (H3 i f1 hi3) kR (fun _=>aP) (fun _=>kO) ?_;intro v hv;refine DL.B7 J J J (F:=[mc2,A7 q9 (bs A) 304]) pK (H4 i v (cut A (32*i) 32) mc2 q9 (0+i*32+0*1) (bs A) f1 hi3 hv (g4 i I hi3) (by rw[show 0+i*32+0*1=32*i by omega];exact Lu A _ _) f3) kR (fun _=>aP) (fun _=>kO) ?_;rintro⟨e2,mc3⟩ g6;dsimp only at g6⊢;refine W ?_;exact⟨(i+1,mc3),_,by simp only;omega,⟨by simp only;omega,by simp only;omega,by simp only;rw[show i+1-2=i-1 by omega];exact g6⟩,sF,pK⟩
    ·obtain rfl:i=256:=I;refine CW.GM J I ?_;refine W ?_;refine DL.Fg tt 1 J J J J J J Ba ?_;refine DL.HQ tt (cs:=bs A) (vs:=bs (cut A (32*1) 32)) J J J J J (In.mem UK) (by exact Lu A _ _) (by rw[Aa,F9 (by rw[g2];omega)]) ?_;have h1l:(bs (cut A (32*1) 32)).length=32:=by rw[Aa,F9 (by rw[g2];omega)]
     refine DL.Bj tt J J J J uP (by rw[h1l]) (BV _) HS kO ?_;refine W ?_;exact BD (cut A (32*1) 32,0,dq,mc2) (.inr ⟨rfl,g4 1 I I,g3,f3⟩) (Fb (RV.D8 tt J J J (In.mem iN) (by rw[h1l])) (RV.tmp J)) pK
 ·rw[show decide (¬e=0)=true by simp[he]];refine W ?_;refine DL.Bj tt J J J J uP HS (BV _) HS kO ?_;refine W ?_;exact BD (BQ 32,e,oc1,mc1) (.inl ⟨he,hE,rfl,ZT,hM1⟩) (Fb (RV.D8 tt J J J (In.mem iN) HS) (RV.tmp J)) pK
def YC(N:Nat)(gen:List AV):List AV:=kD gen (.GY (Nat.add N 5) (Nat.add N 5) 0 1 2) (.cnt (Nat.add N 3) 0 0 0) (.cnt (Nat.add N 4) 0 0 0) (.GY (Nat.add N 1) (Nat.add N 2) 0 3 1)
def LP(B:List AB)(gen:List AV)(H:Nat):List AB:=B++[.cells (YC B.length gen) 352,.unk none 356,.res 8 [H]]
def kSt(B:List AB)(gen:List AV)(H:Nat):St:=⟨.e,Gf 0 (LP B gen H) .e,Nat.add B.length 6,[]⟩
def kHp(B:List AB)(gen:List AV)(δ dj dz:Nat)(s:St):Bool:=
 PZ δ 0 B s.hp&&s.md.all (fun k=>Nat.ble (Nat.add B.length 6) k||Gu k [0,1,2,3,B.length,Nat.add B.length 1])
 &&(match s.hp.get B.length with
  |some (.cells l 352)=>fW l gen
   &&(match E1 l 118 with|some (.GY a b 0 1 2)=>Nat.beq a (Nat.add B.length 5)&&Nat.beq b (Nat.add B.length 5)|_=>false)
   &&(match E1 l 126 with|some (.cnt n j _ _)=>Nat.beq n (Nat.add B.length 3)&&Nat.beq j dz|_=>false)
   &&(match E1 l 127 with|some (.cnt n 0 _ _)=>Nat.beq n (Nat.add B.length 4)|_=>false)
   &&(match E1 l 128 with
    |some (.GY m b j 3 1)=>Nat.beq b (Nat.add B.length 2)&&Nat.ble j dj&&(Nat.ble (Nat.add B.length 6) m||Nat.beq m (Nat.add B.length 1))&&(match s.hp.get m with|some (.unk none 356)=>true|_=>false)
    |_=>false)
  |_=>false)
abbrev kW:=List (AV×Nat)
def wh(B:List AB)(gen:List AV)(δ dj:Nat)(IB:kW):R1->Bool
 | .val v s=>IB.any (fun x=>gB v x.1&&kHp B gen δ dj x.2 s)
 | .Eu _ _=>false
def runK(E:GI)(ih:Ih)(f:Nat)(B:List AB)(gen:List AV)(H:Nat)(av:List AV)(IB:kW)(δ dj:Nat):Bool:=
 O9 B&&TY 0 B&&B.all (y8 B.length)&&gen.all (W9 B.length)&&av.all (Y7 B.length)&&IB.all (fun x=>nL B.length x.1)&&Nat.ble B.length 16777000&&Nat.ble 4 B.length
 &&(match B7 E ih f (.Au B.length 0::av) (kSt B gen H)with
  |some rs=>rs.all (wh B gen δ dj IB)
  |none=>false)
def kIn(B:List AB)(gen av:List AV)(H R δ:Nat)(r n b j:Nat)(l vs:List AV)(s:St):Bool:=
 Nat.ble B.length r&&Nat.blt r s.nx&&Nat.ble B.length n&&Nat.blt n s.nx&&Nat.ble B.length b&&Nat.blt b s.nx&& !Nat.beq r n&& !Nat.beq r b&& !Nat.beq n b&&Nat.blt s.nx 16777216
 &&fW l gen&&G0 vs av&&PZ (Gm s.hp) 0 B s.hp&&Nat.ble (Nat.add (Gm s.hp) δ) R
 &&(match s.hp.get n with|some (.unk none 356)=>true|_=>false)
 &&(match s.hp.get b with|some (.res 8 [h])=>Nat.ble (Nat.add H j) h|_=>false)
def aBh(gen:List AV)(r n b a z dz f m u g o AC X:Nat)(s:St):St:={s with hp:=((((s.hp.put 24 r (some (.cells (kD gen (.GY a a 0 1 2) (.cnt z dz f m) (.cnt u 0 g o) (.GY s.nx b AC 3 1)) 352))).put 24 n none).put 24 2 (some (.res 2 [X]))).put 24 3 (some (.res 3 [X]))).put 24 s.nx (some (.unk none 356)),nx:=Nat.succ s.nx,md:=[0,1,2,3,r,n]++s.md}
def PO(B:List AB)(gen:List AV)(H:Nat)(av:List AV)(IB:kW)(δ dj R:Nat):List AV->St->Option (List R1):=fun args s=>match args with
 | .Au r 0::vs=>match s.hp.get r with
  |some (.cells l 352)=>match E1 l 118 with
   |some (.GY a a' 0 1 2)=>match E1 l 126 with
    |some (.cnt z 0 f m)=>match E1 l 127 with
     |some (.cnt u 0 g o)=>match E1 l 128 with
      |some (.GY n b j 3 1)=>bif Nat.beq a a'&&kIn B gen av H R δ r n b j l vs s then some (IB.map fun x=>.val x.1 (aBh gen r n b a z x.2 f m u g o (Nat.add j dj) (Nat.add (Gm s.hp) δ) s))else none
      |_=>none
     |_=>none
    |_=>none
   |_=>none
  |_=>none
 |_=>none
theorem Tq(B:List AB)(gen:List AV)(H:Nat):(LP B gen H).length=B.length+3:=by simp[LP]
theorem kX(B:List AB)(gen:List AV)(H:Nat)(h:k<B.length):(LP B gen H)[k]? =B[k]? :=by unfold LP;rw[BG h]
theorem pQ(B:List AB)(gen:List AV)(H:Nat):(LP B gen H)[B.length]? =some (.cells (YC B.length gen) 352):=by unfold LP;rw[BF (Ao _)];simp
theorem pR(B:List AB)(gen:List AV)(H:Nat):(LP B gen H)[B.length+1]? =some (.unk none 356):=by unfold LP;rw[BF I];simp
theorem pT(B:List AB)(gen:List AV)(H:Nat):(LP B gen H)[B.length+2]? =some (.res 8 [H]):=by unfold LP;rw[BF I];simp
theorem wi(n:Nat):List.range (n+3)=List.range n++[n,n+1,n+2]:=by rw[List.range_succ,List.range_succ,List.range_succ];simp
variable{ρ:Nm}{gen:List AV}
theorem kY{us:List Value}{A B C D:AV}{a b c d:Value}(h:Bt ρ gen us)(v1:E1 us 118=some a)(v2:E1 us 126=some b)(v3:E1 us 127=some c)(v4:E1 us 128=some d)(w1:EM ρ A a)(w2:EM ρ B b)(w3:EM ρ C c)(w4:EM ρ D d):Bt ρ (kD gen A B C D) us:=by have e1:=h.set 118 w1;rw[Fo v1]at e1;have e2:=e1.set 126 w2;rw[Fo v2]at e2;have e3:=e2.set 127 w3;rw[Fo v3]at e3;have e4:=e3.set 128 w4;rw[Fo v4]at e4;exact e4
theorem MU{N:Nat}(hN:N<=ρ.length){σ:Nm}{x:Nat×Nat}(h:σ[i]? =some x):(ρ.take N++σ)[N+i]? =some x:=by rw[BF (by simp;omega)];rw[show N+i-(ρ.take N).length=i by simp;omega];exact h
theorem WU{ρ':Nm}{t q c:Nat}{cs:List CH}(h:NV ρ none t q c cs):NV ρ' none t q c cs:=by
 rcases h with f0|⟨f0,ex,f1,f2,f3⟩
 ·exact .inl f0
 ·exact .inr ⟨f0,ex,f1,(fun x hx=>by cases hx),f3⟩
section
variable{P:Program} {RS:Nat->EA} (hR:GX RS) {E:Nat->GI} {ih:Nat->Ih}
include hR
theorem cT(hE:∀K R,K+R<=HM->En P (RS K) (E R))(hih:∀K R,K+R<=HM->GK P (RS K) (ih R)){f:Nat}{B:List AB}{H:Nat}{av:List AV}{IB:kW}{δ dj:Nat}(h:runK (E δ) (ih δ) f B gen H av IB δ dj=true)(K R:Nat)(I7:K+R<=HM):ET P (RS K) f (PO B gen H av IB δ dj R):=by
 intro args s rs hc p hst hp vs hvs;subst hst;unfold PO at hc;split at hc
 ·rename_i r as0;split at hc
  ·rename_i l hr;split at hc
   ·rename_i a a' aC7;split at hc
    ·rename_i z f0 m0 aC8;split at hc
     ·rename_i u g0 o0 h127;split at hc
      ·rename_i n b j h128;cases hin:(Nat.beq a a'&&kIn B gen av H R δ r n b j l as0 p.st)<;>rw[hin]at hc<;>simp only[AN,AO,reduceCtorEq,AH]at hc;subst hc;rw[AI]at hin;obtain⟨haa,hin⟩:=hin;obtain rfl:=AK haa;unfold kIn at hin;simp only[AI]at hin;obtain⟨⟨⟨⟨⟨⟨⟨⟨⟨⟨⟨⟨⟨⟨⟨i1,i2⟩,i3⟩,i4⟩,i5⟩,i6⟩,i7⟩,i8⟩,i9⟩,i10⟩,i11⟩,i12⟩,i13⟩,i14⟩,i15⟩,i16⟩:=hin;have i1:=AL i1;have i2:=Pj i2;have i3:=AL i3;have i4:=Pj i4;have i5:=AL i5;have i6:=Pj i6;have i7:r≠n:=fun e=>by subst e;simp[GH]at i7
       have i8:r≠b:=fun e=>by subst e;simp[GH]at i8
       have i9:n≠b:=fun e=>by subst e;simp[GH]at i9
       have i10:=Pj i10;have i14:Gm p.st.hp+δ<=R:=AL i14;generalize hJ:Gm p.st.hp=AC at i13 i14⊢;have hKJ:K+AC+δ<=HM:=I;unfold runK at h;simp only[AI]at h;obtain⟨⟨⟨⟨⟨⟨⟨⟨hbase,V7⟩,hB⟩,hgen⟩,has⟩,RP⟩,J5⟩,h4⟩,hrun⟩:=h;have J5:=AL J5;have h4:=AL h4;rw[AY]at hB RP;obtain⟨hl2,hl3,hB2,hB3⟩:∃(h2:2<B.length) (h3:3<B.length),B[2]=.res 2 [0]/\B[3]=.res 3 [0]:=by
        unfold O9 at hbase;simp only[AI]at hbase;obtain⟨a1,a2⟩:=hbase;split at a1
        ·rename_i e1;split at a2
         ·rename_i e2;rw[D5]at e1 e2;obtain⟨l1,e1⟩:=Ae.1 e1;obtain⟨l2,e2⟩:=Ae.1 e2;exact⟨l1,l2,e1,e2⟩
         ·cases a2
        ·cases a1
       have Sl:∀k (hk:k<B.length),k≠2->k≠3->IY B[k]=true:=fun k hk n2 n3=>OJ V7 k hk I I
       have hget:∀k (hk:k<B.length),∃a,p.st.hp.get k=some a/\di AC a B[k]=true:=fun k hk=>by obtain⟨a,h1,h2⟩:=Ly i13 k hk;exact⟨a,by simpa using h1,h2⟩
       have hlen:p.ρ.length=p.st.nx:=hp.H.len;have pU:∀k (hk:k<B.length),k∈p.live/\Da (RS (K+AC)) p.ρ k B[k] (p.C k):=fun k hk=>by
        obtain⟨a,h1,h2⟩:=hget k hk;obtain⟨h3,h4⟩:=hp.mem h1;refine⟨h3,?_⟩;by_cases n2:k=2
        ·subst n2;rw[hB2]at h2⊢;obtain⟨x,rfl,hx⟩:=Ig (.inl J) h2;exact hR.into (.inl J) hx h4
        ·by_cases n3:k=3
         ·subst n3;rw[hB3]at h2⊢;obtain⟨x,rfl,hx⟩:=Ig (.inr J) h2;exact hR.into (.inr J) hx h4
         ·obtain rfl:=K1 h2 (Sl k hk n2 n3);exact hR.non (Sl k hk n2 n3) h4
       obtain⟨hrl,hrc⟩:=hp.mem hr;generalize hCr:p.C r=cr at hrc;cases hrc with| @cells _ _ rb rc us cJ hcl=>
       cases hvs with| @cons _ v0 _ vt hv0 hvt=>
       cases hv0 with| @Au _ _ rb' rc' sf=>
       rw[cJ]at sf;cases sf;obtain⟨va,v1,w1⟩:=hcl.at aC7;cases w1 with| @GY _ _ _ _ _ qa ca _ _ _ ka1 ka2 w1=>
       rw[ka1]at ka2;cases ka2;obtain⟨vz,v2,w2⟩:=hcl.at aC8;cases w2 with| @cnt _ _ _ _ qz cz kz kz1 kz2=>
       obtain⟨vu,v3,w3⟩:=hcl.at h127;cases w3 with| @cnt _ _ _ _ qu cu ku ku1 ku2=>
       obtain⟨vl,v4,w4⟩:=hcl.at h128;cases w4 with| @GY _ _ _ _ _ qn cn qb cb _ kn kb w4=>
       have aC9:Bt p.ρ gen us:=O5 hcl i11;split at i15
       ·rename_i hn;obtain⟨hnl,hnc⟩:=hp.mem hn;generalize hCn:p.C n=cn' at hnc;cases hnc with|unk kn' hun=>
        rw[kn]at kn';cases kn';split at i16
        ·rename_i hh hb;have i16:H+j<=hh:=AL i16;obtain⟨hbl,hbc⟩:=hp.mem hb;generalize hCb:p.C b=cb' at hbc;cases hbc with|res kb' hbr=>
         rw[kb]at kb';cases kb';obtain⟨rfl,hroom⟩:=(hR.room _ _ _ _).1 hbr;obtain⟨N,hN⟩:∃N,B.length=N:=⟨_,rfl⟩
         rw[hN]at i1 i3 i5 hgen has J5 h4;simp only[hN]at RP hB;have q8:GQ (GQ qb+j)=GQ qb+j:=by show(GQ qb+j)%4294967296=_;omega
         generalize hσ:[(rb,rc),(qn,cn),(GQ qb+j,0),(qz,cz),(qu,cu),(qa,ca)]=σ;have cV:N<=p.ρ.length:=I;have t0:(p.ρ.take N++σ)[N]? =some (rb,rc):=MU (i:=0) cV (by rw[<-hσ];rfl);have t1:(p.ρ.take N++σ)[N+1]? =some (qn,cn):=MU cV (by rw[<-hσ];rfl);have t2:(p.ρ.take N++σ)[N+2]? =some (GQ qb+j,0):=MU cV (by rw[<-hσ];rfl);have t3:(p.ρ.take N++σ)[N+3]? =some (qz,cz):=MU cV (by rw[<-hσ];rfl);have t4:(p.ρ.take N++σ)[N+4]? =some (qu,cu):=MU cV (by rw[<-hσ];rfl);have t5:(p.ρ.take N++σ)[N+5]? =some (qa,ca):=MU cV (by rw[<-hσ];rfl);generalize HK:p.ρ.take N++σ=wj at t0 t1 t2 t3 t4 t5;have hlen0:wj.length=N+6:=by rw[<-HK,<-hσ];simp;omega
         have ZY:SZ N p.ρ wj:=fun k hk=>by rw[<-HK,BG (by simp;omega),Bf];simp[hk]
         let C0:Nat->List CH:=fun k=>if k<N then p.C k else if k=N then p.C r else if k=N+1 then p.C n else p.C b
         have c0:∀k,k<N->C0 k=p.C k:=fun k hk=>BE hk
         have c1:C0 N=p.C r:=by show(if _ then _ else if _ then _ else if _ then _ else _)=_;rw[Ah I,BE J]
         have c2:C0 (N+1)=p.C n:=by show(if _ then _ else if _ then _ else if _ then _ else _)=_;rw[Ah I,Ah I,BE J]
         have c3:C0 (N+2)=p.C b:=by show(if _ then _ else if _ then _ else if _ then _ else _)=_;rw[Ah I,Ah I,Ah I]
         let p0:Pt:=⟨wj,kSt B gen H,[],(List.range (N+3)).map C0,List.range (N+3),C0⟩
         have hkc:Bt wj (YC N gen) us:=by
          refine kY (Nh ZY hgen aC9) v1 v2 v3 v4 (.GY t5 t5 w1) (.cnt t3 (fun h=>by cases h) (fun h=>by cases h)) (.cnt t4 (fun h=>by cases h) (fun h=>by cases h)) (.GY t1 t2 ?_);rcases w4 with f0|⟨f0,off,len,cap,f1,f2,f3,f4,f5,f6⟩
          ·exact .inl ⟨f0.1,f0.2.1,fun h=>by cases h⟩
          ·exact .inr ⟨f0,off,len,cap,f1,f2,by rw[q8];omega,f4,f5,fun h=>by cases h⟩
         have hp0:p0.good (RS (K+AC)):=by
          refine⟨fun s a hs=>by simp[p0,kSt,C7.FC]at hs,⟨by show wj.length=Nat.add B.length 6;rw[hlen0,hN],Bc,fun k hk=> ?_,.refl _,fun k ab hk=> ?_⟩,?_⟩
          ·have:=Ak.1 hk;show k<B.length+6;omega
          ·have hk':(Gf 0 (LP B gen H) .e).get k=some ab:=hk;rw[HL (by rw[Tq];omega),Tq]at hk';by_cases hkN:k<0+(B.length+3)
           ·simp only[Nat.not_lt_zero,Cc,hkN,C9,Df]at hk';refine⟨Ak.2 I,?_⟩;show Da (RS (K+AC)) wj k ab (C0 k);by_cases k1:k<N
            ·rw[kX _ _ _ I,AZ I]at hk';simp only[AH]at hk';subst hk';rw[c0 k k1];exact Hm ZY k1 (hB _ (B1 I)) (pU k I).2
            ·by_cases k2:k=N
             ·subst k2;rw[<-hN,pQ,hN]at hk';cases hk';rw[c1,hCr];exact .cells t0 hkc
             ·by_cases k3:k=N+1
              ·subst k3;rw[<-hN,pR]at hk';cases hk';rw[c2,hCn];exact .unk t1 (WU hun)
              ·obtain rfl:k=N+2:=I;rw[<-hN,pT]at hk';cases hk';rw[c3,hCb];exact .res t2 ((hR.room _ _ _ _).2 ⟨rfl,by rw[q8];omega⟩)
           ·simp[C7.FC]at hk';exact absurd hk'.1 (by simpa using hkN)
          ·show B.length+6<=2^24;omega
         split at hrun
         ·rename_i rs0 hcall;rw[AY]at hrun;have hargs:Bt p0.ρ (.Au B.length 0::av) (.pointer (some ⟨rb,0,none⟩)::vt):=.cons (by rw[hN];exact .Au t0) (Ky ZY has (GR hvt i12));have hfn:=(FD (hE _ _ hKJ) (hih _ _ hKJ) hp0 hcall).2 _ hargs;have hnd1:(List.range N++[r,n,b]).Nodup:=by rw[Bg];refine⟨Bc,by simp[i7,i8,i9],fun x hx y hy=> ?_⟩;have:=Ak.1 hx;simp only[Ab,Az,BX]at hy;omega
          obtain⟨rest,hperm⟩:=JG hnd1 hp.H.nd (fun k hk=>by
           rcases Aj.1 hk with hk|hk
           ·exact(pU k (by have:=Ak.1 hk;omega)).1
           ·simp only[Ab,Az,BX]at hk;rcases hk with rfl|rfl|rfl
            ·exact hrl
            ·exact hnl
            ·exact hbl)
          have wm:∀k∈rest,k∈p.live/\N<=k/\k≠r/\k≠n/\k≠b:=fun k hk=>by
           have aBi:=hperm.nodup_iff.1 hp.H.nd;rw[Bg]at aBi;have hne:∀y∈List.range N++[r,n,b],y≠k:=fun y hy=>aBi.2.2 y hy k hk
           refine⟨hperm.mem_iff.2 (BK _ hk),?_,fun e=>hne r DI e.symm,fun e=>hne n DI e.symm,fun e=>hne b DI e.symm⟩;refine Nat.le_of_not_lt fun hlt=> ?_
           exact hne k (A3 _ (Ak.2 hlt)) J
          have hS0:p0.S=(List.range N).map p.C++[p.C r,p.C n,p.C b]:=by
           show(List.range (N+3)).map C0=_;rw[wi,Ai];congr 1
           ·exact BB fun k hk=>c0 k (Ak.1 hk)
           ·simp only[Ap,CP,c1,c2,c3]
          have hS:p.S.Perm (p0.S++rest.map p.C):=by refine hp.H.perm.trans ((hperm.map p.C).trans (.of_eq ?_));rw[hS0,Ai,Ai];rfl
          intro A U w hs;have hs':Ds A w (p0.S++(rest.map p.C++U)):=by
           have:=hs.perm (hS.append_right U)
           rwa [AU]at this
          refine(hfn A _ w hs').mono ?_;rintro e w' ⟨hw,S',hs1,hret⟩;refine⟨hw,?_⟩;rcases hret with⟨ra,s0,hm,q,v,e1,e2,e3,hto,hgood,hcon,rfl⟩|⟨ra,s0,hm,_⟩
          ·have hr1:=hrun _ hm;simp only[wh]at hr1;rw[Dq]at hr1;obtain⟨⟨ret,dz⟩,hx,hx2⟩:=hr1;simp only[AI]at hx2;obtain⟨hle,hk⟩:=hx2;subst e1;subst e3;unfold kHp at hk;simp only[AI]at hk;obtain⟨⟨o1,o2⟩,o3⟩:=hk;rw[AY]at o2;obtain⟨τ,ZX⟩:=hto.ext;have ZX:q.ρ=wj++τ:=ZX;have KF:SZ N q.ρ p.ρ:=fun k hk=>by rw[ZX,BG I];exact(ZY k hk).symm
           have s0':=Dz τ t0;have s2':=Dz τ t2;have s3':=Dz τ t3;have s4':=Dz τ t4;have s5':=Dz τ t5;rw[<-ZX]at s0' s2' s3' s4' s5';have hmd:∀k,k<N+6->k∈q.st.md->k=0\/k=1\/k=2\/k=3\/k=N\/k=N+1:=fun k hk hkm=>by
            have:=o2 k hkm;rw[hN]at this;simp only[BI]at this;rcases this with h|h
            ·have h:N+6<=k:=AL h;omega
            ·have:=FZ.1 h;simpa using this
           have hin0:∀k (hk:k<B.length),k∈q.live/\∃a,di δ a B[k]=true/\Da (RS (K+AC)) q.ρ k a (q.C k):=fun k hk=>by obtain⟨a,h2,h5⟩:=Ly o1 k hk;obtain⟨h3,h4⟩:=hgood.mem (k:=k) (ab:=a) (by simpa using h2);exact⟨h3,a,h5,h4⟩
           rw[hN]at o3;split at o3
           ·rename_i l' hr';obtain⟨aDa,aBj⟩:=hgood.mem hr';simp only[AI]at o3;obtain⟨⟨⟨⟨d1,d2⟩,d3⟩,d4⟩,d5⟩:=o3;generalize aDb:q.C N=cr' at aBj;cases aBj with| @cells _ _ rb2 rc2 us' IJ hcl'=>
            rw[s0']at IJ;cases IJ;have aBk:Bt p.ρ gen us':=Nh KF hgen (O5 hcl' d1);split at d2
            ·rename_i xa xb aDc;simp only[AI]at d2;have y1:xa=N+5:=AK d2.1;have y2:xb=N+5:=AK d2.2;subst y1;subst y2;obtain⟨va',v1',w1'⟩:=hcl'.at aDc;cases w1' with|GY k1 k2 w1'=>
             rw[s5']at k1 k2;cases k1;cases k2;split at d3
             ·rename_i xn xj xf xm aDd;simp only[AI]at d3;have y3:xn=N+3:=AK d3.1;have y4:dz=xj:=(AK d3.2).symm;subst y3;subst y4;obtain⟨vz',v2',w2'⟩:=hcl'.at aDd;cases w2' with|cnt k3 _ _=>
              rw[s3']at k3;cases k3;split at d4
              ·rename_i yn yf ym aDe;have y5:yn=N+4:=AK d4;subst y5;obtain⟨vu',v3',w3'⟩:=hcl'.at aDe;cases w3' with|cnt k4 _ _=>
               rw[s4']at k4;cases k4;split at d5
               ·rename_i m xb' j' aDf;simp only[AI]at d5;obtain⟨⟨⟨f1,f2⟩,f3⟩,f4⟩:=d5;have f1:xb'=N+2:=AK f1;subst f1;have f2:j'<=dj:=AL f2;have f3:N+6<=m\/m=N+1:=by
                 simp only[BI]at f3;rcases f3 with h|h
                 ·exact .inl (AL h)
                 ·exact .inr (AK h)
                split at f4
                ·rename_i hmu;obtain⟨hml,hmc⟩:=hgood.mem hmu;generalize hCm:q.C m=cm' at hmc;cases hmc with| @unk _ _ qm cm _ k7 hmu=>
                 obtain⟨vl',v4',w4'⟩:=hcl'.at aDf;cases w4' with|GY k5 k6 w4'=>
                 rw[k7]at k5;cases k5;rw[s2']at k6;cases k6;have wq:∀k,k<N->k≠0->k≠1->k≠2->k≠3->q.C k=p.C k:=fun k hk z0 z1 z2 z3=>by
                  have:=(hto.kept k (Ak.2 I) (fun hkm=>by have:=hmd k I hkm;omega)).2
                  rw[this];exact c0 k hk
                 have hb2:=hto.kept (N+2) (Ak.2 I) (fun hkm=>by have:=hmd (N+2) I hkm;omega)
                 have hb2':q.C (N+2)=[]:=hb2.2.trans (c3.trans hCb);have aDg:(List.range N++[N,N+2,m]).Nodup:=by rw[Bg];refine⟨Bc,by simp;omega,fun x hx y hy=> ?_⟩;have:=Ak.1 hx;simp only[Ab,Az,BX]at hy;omega
                 obtain⟨JV,RQ⟩:=JG aDg hgood.H.nd (fun k hk=>by
                  rcases Aj.1 hk with hk|hk
                  ·exact(hin0 k (by have:=Ak.1 hk;omega)).1
                  ·simp only[Ab,Az,BX]at hk;rcases hk with rfl|rfl|rfl
                   ·exact aDa
                   ·exact hb2.1
                   ·exact hml)
                 let C':Nat->List CH:=fun k=>if k=p.st.nx then q.C m else if k<N then q.C k else if k=r then q.C N else p.C k
                 have e0:C' p.st.nx=q.C m:=BE J;have e4:∀k,k<N->C' k=q.C k:=fun k hk=>by show(if _ then _ else if _ then _ else if _ then _ else _)=_;rw[Ah I,BE hk]
                 have e5:C' r=q.C N:=by show(if _ then _ else if _ then _ else if _ then _ else _)=_;rw[Ah I,Ah I,BE J]
                 have e6:∀k,k≠p.st.nx->N<=k->k≠r->C' k=p.C k:=fun k h1 h2 h3=>by show(if _ then _ else if _ then _ else if _ then _ else _)=_;rw[Ah h1,Ah I,Ah h3]
                 have kZ:∀k,k∈p.live.erase n↔k≠n/\k∈p.live:=fun k=>hp.H.nd.mem_erase_iff
                 have hpe:(p.live.erase n).Perm (List.range N++([r,b]++rest)):=by
                  have h1:p.live.Perm (n::(List.range N++([r,b]++rest))):=by refine hperm.trans ?_;rw[AU];refine List.Perm.trans ?_ CY;refine List.Perm.append_left _ ?_;exact List.Perm.swap _ _ _
                  have h2:=h1.erase n
                  rwa [Dm]at h2
                 have hT:((p.live.erase n++[p.st.nx]).map C').Perm ((List.range N).map q.C++([q.C N,q.C (N+2),q.C m]++rest.map p.C)):=by
                  have h1:=(hpe.append_right [p.st.nx]).map C';refine h1.trans ?_;rw[AU,Ai];have h2:(List.range N).map C'=(List.range N).map q.C:=BB fun k hk=>e4 k (Ak.1 hk)
                  rw[h2];refine List.Perm.append_left _ ?_;rw[Ai,Ai];have h3:rest.map C'=rest.map p.C:=BB fun k hk=>by obtain⟨g1,g2,g3,g4,g5⟩:=wm k hk;exact e6 k (by have:=hp.H.lt k g1;omega) g2 g3
                  have h5:C' b=q.C (N+2):=by rw[e6 b I i5 (fun e=>i8 e.symm),hCb,hb2']
                  simp only[Ap,CP,e5,h5,e0,h3];rw[AU];refine List.Perm.append_left [q.C N,q.C (N+2)] ?_;exact CC (l₁:=rest.map p.C) (l₂:=[q.C m])
                 have zC:(p.ρ++[(qm,cm)])[p.st.nx]? =some (qm,cm):=by rw[<-hlen];simp
                 have hcells:Bt (p.ρ++[(qm,cm)]) (kD gen (.GY a a 0 1 2) (.cnt z dz f0 m0) (.cnt u 0 g0 o0) (.GY p.st.nx b (Nat.add j dj) 3 1)) us':=by
                  refine kY (aBk.mono _) v1' v2' v3' v4' (.GY (Dz _ ka1) (Dz _ ka1) w1') ((EM.cnt kz kz1 kz2).mono _) ((EM.cnt ku ku1 ku2).mono _) (.GY zC (Dz _ kb) ?_);rcases w4' with f0|⟨f0,off,len,cap,f1,f5,f6,f7,f8,f9⟩
                  ·exact .inl ⟨f0.1,f0.2.1,fun h=>by cases h⟩
                  ·rw[q8]at f6;exact .inr ⟨f0,off,len,cap,f1,f5,by show len<=GQ qb+(j+dj);omega,f7,f8,fun h=>by cases h⟩
                 refine⟨(p.live.erase n++[p.st.nx]).map C',?_,.inl ⟨ret,_,A8.2 ⟨(ret,dz),hx,rfl⟩,⟨p.ρ++[(qm,cm)],aBh gen r n b a z dz f0 m0 u g0 o0 (Nat.add j dj) (Nat.add AC δ) p.st,p.fr,(p.live.erase n++[p.st.nx]).map C',p.live.erase n++[p.st.nx],C'⟩,v,rfl,rfl,rfl,?_,?_,?_,rfl⟩⟩
                 ·have h5:Ds A w' (JV.map q.C++((p.live.erase n++[p.st.nx]).map C'++U)):=hs1.perm (by
                   have h1:q.S.Perm ((List.range N).map q.C++([q.C N,q.C (N+2),q.C m]++JV.map q.C)):=by refine hgood.H.perm.trans ((RQ.map q.C).trans (.of_eq ?_));rw[Ai,Ai,AU];rfl
                   have h2:(q.S++(rest.map p.C++U)).Perm (((List.range N).map q.C++([q.C N,q.C (N+2),q.C m]++JV.map q.C))++(rest.map p.C++U)):=h1.append_right _;refine h2.trans ?_;have h3:=(hT.append_right U).append_left (JV.map q.C);refine List.Perm.trans ?_ h3.symm;rw[<-AU ((List.range N).map q.C),<-AU ((List.range N).map q.C)];generalize(List.range N).map q.C++[q.C N,q.C (N+2),q.C m]=X;rw[AU X (JV.map q.C),AU X,<-AU (JV.map q.C) X];rw[<-AU X (JV.map q.C)];exact Bm _ CC)
                  exact h5.drops
                 ·refine⟨⟨_,rfl⟩,fun k hk hn=> ?_,fun k hk hlt=> ?_,EG _,fun k hk=>BK _ hk⟩
                  ·have wt:k∉[0,1,2,3,r,n]:=fun h=>hn (A3 _ h)
                   simp only[Ab,Az,BX,not_or]at wt;refine⟨A3 _ ((kZ k).2 ⟨wt.2.2.2.2.2,hk⟩),?_⟩;show C' k=_;have hkx:=hp.H.lt k hk;by_cases hkN:k<N
                   ·rw[e4 k hkN];exact wq k hkN wt.1 wt.2.1 wt.2.2.1 wt.2.2.2.1
                   ·exact e6 k I I wt.2.2.2.2.1
                  ·rcases Aj.1 hk with hk|hk
                   ·exact((kZ k).1 hk).2
                   ·obtain rfl:=AP.1 hk;exact absurd hlt (Nat.lt_irrefl _)
                 ·refine⟨hp.F.mono _,⟨by show(p.ρ++[(qm,cm)]).length=p.st.nx+1;simp[hlen],?_,?_,.refl _,?_⟩,by show p.st.nx+1<=2^24;omega⟩
                  ·rw[Bg];refine⟨hp.H.nd.erase _,by simp,fun x hx y hy=> ?_⟩;obtain rfl:=AP.1 hy;have:=hp.H.lt x ((kZ x).1 hx).2;omega
                  ·intro k hk;show k<p.st.nx+1;rcases Aj.1 hk with hk|hk
                   ·have:=hp.H.lt k ((kZ k).1 hk).2;omega
                   ·obtain rfl:=AP.1 hk;omega
                  ·intro k ab hk;have hk:(((((p.st.hp.put 24 r (some (.cells (kD gen (.GY a a 0 1 2) (.cnt z dz f0 m0) (.cnt u 0 g0 o0) (.GY p.st.nx b (Nat.add j dj) 3 1)) 352))).put 24 n none).put 24 2 (some (.res 2 [AC+δ]))).put 24 3 (some (.res 3 [AC+δ]))).put 24 p.st.nx (some (.unk none 356))).get k=some ab:=hk;rw[C7.get_put 24 _ p.st.nx k _ I,C7.get_put 24 _ 3 k _ Ba,C7.get_put 24 _ 2 k _ Ba,C7.get_put 24 _ n k _ I,C7.get_put 24 _ r k _ I]at hk;have ZZ:k≠n->k∈p.live->k∈p.live.erase n++[p.st.nx]:=fun f1 f2=>A3 _ ((kZ k).2 ⟨f1,f2⟩)
                   show k∈p.live.erase n++[p.st.nx]/\Da (RS K) (p.ρ++[(qm,cm)]) k ab (C' k);by_cases kN:k=p.st.nx
                   ·subst kN;rw[BE J]at hk;cases hk;refine⟨BK _ (AP.2 J),?_⟩;rw[e0,hCm];exact .unk zC (WU hmu)
                   rw[Ah kN]at hk;by_cases k3:k=3
                   ·subst k3;rw[BE J]at hk;cases hk;refine⟨ZZ I (pU 3 hl3).1,?_⟩;obtain⟨h1,a,h5,h6⟩:=hin0 3 hl3;rw[hB3]at h5;obtain⟨x,rfl,hx⟩:=Ig (.inr J) h5;rw[e4 3 I];exact(hR.V6 (.inr J) hx (Hm KF I J h6)).mono _
                   rw[Ah k3]at hk;by_cases k2:k=2
                   ·subst k2;rw[BE J]at hk;cases hk;refine⟨ZZ I (pU 2 hl2).1,?_⟩;obtain⟨h1,a,h5,h6⟩:=hin0 2 hl2;rw[hB2]at h5;obtain⟨x,rfl,hx⟩:=Ig (.inl J) h5;rw[e4 2 I];exact(hR.V6 (.inl J) hx (Hm KF I J h6)).mono _
                   rw[Ah k2]at hk;by_cases kn:k=n
                   ·subst kn;rw[BE J]at hk;cases hk
                   rw[Ah kn]at hk;by_cases kr:k=r
                   ·subst kr;rw[BE J]at hk;cases hk;refine⟨ZZ kn hrl,?_⟩;rw[e5,aDb];exact .cells (Dz _ cJ) hcells
                   rw[Ah kr]at hk;obtain⟨f1,f2⟩:=hp.mem hk;refine⟨ZZ kn f1,?_⟩;by_cases hkN:k<N
                   ·obtain⟨a1,h3,h4⟩:=hget k I;rw[h3]at hk;cases hk;have hnb:=Sl k I k2 k3;have ee1:=K1 h4 hnb;obtain⟨_,a2,h5,h6⟩:=hin0 k I;have ee2:=K1 h5 hnb;subst ee1;rw[ee2]at h6;rw[e4 k hkN];exact(hR.non hnb (Hm KF hkN (hB _ (B1 I)) h6)).mono _
                   ·rw[e6 k kN I kr];exact f2.mono _
                 ·exact(JU KF (RP _ hx) (Kz hcon hle)).mono _
                ·cases f4
               ·cases d5
              ·cases d4
             ·cases d3
            ·cases d2
           ·cases o3
          ·have hr1:=hrun _ hm;simp[wh]at hr1
         ·cases hrun
        ·cases i16
       ·cases i15
      ·cases hc
     ·cases hc
    ·cases hc
   ·cases hc
  ·cases hc
 ·cases hc
end
def Pv(r:Nat):Rw:=((rS r:Int),(rO r:Int),(rH r:Int))
theorem R7{s o h:Nat}(hs:s<16)(hh:h<4294967296):Pv (Ob s o h)=((s:Int),(o:Int),(h:Int)):=by
 have e1:Ob s o h=s+16*(h+4294967296*o):=rfl;have e2:rS (Ob s o h)=s:=by show(Ob s o h)%16=s;rw[e1];omega
 have e3:rH (Ob s o h)=h:=by show(Ob s o h)/16%4294967296=h;rw[e1];omega
 have e4:rO (Ob s o h)=o:=by show(Ob s o h)/68719476736=o;rw[e1];omega
 unfold Pv;rw[e2,e3,e4]
def Zm(d:List Nat)(b:Nat)(cs:List CH):Prop:=∃rb,1<=d.length/\d.length<=4096/\cs=Ei b rb d.length++Em rb (d.map Pv)
variable{d:List Nat}
theorem Jd{o:Option AB}(h:Wa o=some d):o=some (.res 1 d):=by
 unfold Wa at h;split at h
 ·cases h;rfl
 ·cases h
theorem Wm{g r:Nat}(h:E1 d g=some r):(d.map Pv)[g]? =some (Pv r):=by rw[D5]at h;rw[List.getElem?_map,h];rfl
theorem YS(d:List Nat)(g x:Nat):(d.map Pv).set g (Pv x)=(d.set g x).map Pv:=by rw[List.map_set]
section
variable{RS:EA} (hT:∀d b cs,RS 1 d b cs↔Zm d b cs)
include hT
theorem aDC:ET Tryz.prog RS 67 x67:=by
 intro args s rs hc p hst hp vs hvs;subst hst;unfold x67 at hc;split at hc
 ·rename_i k;split at hc
  ·rename_i d hm;cases hc;cases hvs with|cons h1 hvs=>
   cases hvs;cases h1 with|Au h1=>
   refine Jt hp (Jd hm) fun b c hρ hr=> ?_
   rw[hρ]at h1;cases h1;obtain⟨rb,g1,g2,g3⟩:=(hT _ _ _).1 hr;rw[g3];refine Fn.FW ((Fn.Ue JC).mono ?_);rintro e S' ⟨rfl,rfl⟩;exact⟨_,_,rfl,_,rfl,rfl,Ea _ _⟩
  ·cases hc
 ·cases hc
theorem aDD:ET Tryz.prog RS 24 x24:=by
 intro args s rs hc p hst hp vs hvs;subst hst;unfold x24 at hc;split at hc
 ·rename_i k ga;split at hc
  ·rename_i d hm;cases hvs with|cons h1 hvs=>cases hvs with|cons h2 hvs=>
   cases hvs;cases h1 with|Au h1=>
   have bad:∀g:Int,(g<0\/(d.length:Int)<=g)->Fn Tryz.prog 24 [Au _,.int .i64 g] p.S (Ij RS p [.val YM p.st]):=fun g hg=>by
    refine Jt hp (Jd hm) fun b c hρ hr=> ?_
    rw[hρ]at h1;cases h1;obtain⟨rb,g1,g2,g3⟩:=(hT _ _ _).1 hr;rw[g3];refine Fn.FW ((TM hg g1 g2).mono ?_);rintro e S' ⟨rfl,rfl⟩;exact⟨_,_,rfl,_,rfl,rfl,.Ec (.cons (.agg (.cons (Ea _ 0) (.cons (Ea _ 0) (.cons (Ea _ 0) .nil)))) (.cons (Ea _ 2) .nil))⟩
   split at hc
   ·cases hc;cases h2 with| @int _ _ _ z a1 a2=>
    have b2:z<=Int.negSucc _:=a2;exact bad z (.inl I)
   ·split at hc
    ·rename_i g hg;split at hc
     ·rename_i r hr0;cases hc;obtain rfl:=Gw hg h2;refine Jt hp (Jd hm) fun b c hρ hr=> ?_
      rw[hρ]at h1;cases h1;obtain⟨rb,g1,g2,g3⟩:=(hT _ _ _).1 hr;rw[g3];refine Fn.FW ((OB J (D3 _) g2 (Wm hr0)).mono ?_);rintro e S' ⟨rfl,rfl⟩;exact⟨_,_,rfl,_,rfl,rfl,.Ec (.cons (.agg (.cons (Ea _ _) (.cons (Ea _ _) (.cons (Ea _ _) .nil)))) (.cons (Ea _ 0) .nil))⟩
     ·rename_i hr0;cases hc;obtain rfl:=Gw hg h2;rw[D5]at hr0;exact bad g (.inr (by have:=List.getElem?_eq_none_iff.1 hr0;omega))
    ·cases hc
  ·cases hc
 ·cases hc
theorem aDE:ET Tryz.prog RS 25 x25:=by
 intro args s rs hc p hst hp vs hvs;subst hst;unfold x25 at hc;split at hc
 ·rename_i k ga;split at hc
  ·rename_i d hm;split at hc
   ·rename_i g hg;split at hc
    ·rename_i r hr0;cases hc;cases hvs with|cons h1 hvs=>cases hvs with|cons h2 hvs=>
     cases hvs;cases h1 with|Au h1=>
     obtain rfl:=Gw hg h2;refine Jt hp (Jd hm) fun b c hρ hr=> ?_
     rw[hρ]at h1;cases h1;obtain⟨rb,g1,g2,g3⟩:=(hT _ _ _).1 hr;rw[g3];refine Fn.FW ((OC J (D3 _) g2 (Wm hr0)).mono ?_);rintro e S' ⟨rfl,rfl⟩;refine⟨_,_,rfl,_,rfl,rfl,?_⟩;have e1:decide ((Pv r).1=0)=Nat.beq (rS r) 0:=by rw[GH];show decide (((rS r:Nat):Int)=0)=_;simp
     rw[e1];exact .boo
    ·cases hc
   ·cases hc
  ·cases hc
 ·cases hc
theorem aBI:ET Tryz.prog RS 126 xM:=by
 intro args s rs hc p hst hp vs hvs;subst hst;unfold xM at hc;split at hc
 ·rename_i k ga;split at hc
  ·rename_i d hm;split at hc
   ·rename_i g hg;split at hc
    ·rename_i r hr0;cases hb:Nat.blt (rH r) 1000<;>rw[hb]at hc<;>simp only[AN,AO,reduceCtorEq,AH]at hc;subst hc;have hb:rH r<1000:=by simpa using hb
     cases hvs with|cons h1 hvs=>cases hvs with|cons h2 hvs=>
     cases hvs;cases h1 with|Au h1=>
     obtain rfl:=Gw hg h2;refine Rz hp (Jd hm) fun b c hρ hr=> ?_
     rw[hρ]at h1;cases h1;obtain⟨rb,g1,g2,g3⟩:=(hT _ _ _).1 hr;rw[g3];have e2:(Pv r).2.2=(rH r:Int):=rfl;refine Fn.FW ((Yz J (D3 _) g2 (Wm hr0) ⟨by rw[e2];omega,by rw[e2];omega⟩ (by rw[e2];omega)).mono ?_);rintro e S' ⟨rfl,rfl⟩;refine⟨_,_,rfl,_,_,rfl,rfl,Ea _ 0,(hT _ _ _).2 ⟨rb,by simpa using g1,by simpa using g2,?_⟩⟩;have e3:((Pv r).1,(Pv r).2.1,(Pv r).2.2+1)=Pv (Ob (rS r) (rO r) (Nat.succ (rH r))):=by rw[R7 (show rS r<16 from Nat.mod_lt _ Ba) I];rfl
     rw[e3,YS,List.length_set]
    ·cases hc
   ·cases hc
  ·cases hc
 ·cases hc
theorem aBJ:ET Tryz.prog RS 133 xN:=by
 intro args s rs hc p hst hp vs hvs;subst hst;unfold xN at hc;split at hc
 ·rename_i k ga;split at hc
  ·rename_i d hm;split at hc
   ·rename_i g hg;split at hc
    ·rename_i r hr0;cases hb:Nat.blt 0 (rH r)&&Nat.blt (rH r) 1000<;>rw[hb]at hc<;>simp only[AN,AO,reduceCtorEq,AH]at hc;subst hc;rw[AI]at hb;have hb1:0<rH r:=by simpa using hb.1
     have hb2:rH r<1000:=by simpa using hb.2
     cases hvs with|cons h1 hvs=>cases hvs with|cons h2 hvs=>
     cases hvs;cases h1 with|Au h1=>
     obtain rfl:=Gw hg h2;refine Rz hp (Jd hm) fun b c hρ hr=> ?_
     rw[hρ]at h1;cases h1;obtain⟨rb,g1,g2,g3⟩:=(hT _ _ _).1 hr;rw[g3];have e2:(Pv r).2.2=(rH r:Int):=rfl;refine Fn.FW ((fU J (D3 _) g2 (Wm hr0) ⟨by rw[e2];omega,by rw[e2];omega⟩ (by rw[e2];omega)).mono ?_);rintro e S' ⟨rfl,rfl⟩;refine⟨_,_,rfl,_,_,rfl,rfl,Ea _ 0,(hT _ _ _).2 ⟨rb,by simpa using g1,by simpa using g2,?_⟩⟩;have e3:((Pv r).1,(Pv r).2.1,(Pv r).2.2-1)=Pv (Ob (rS r) (rO r) (Nat.pred (rH r))):=by
      rw[R7 (show rS r<16 from Nat.mod_lt _ Ba) (by have:Nat.pred (rH r)<=rH r:=Nat.pred_le _;omega)];have e4:((Nat.pred (rH r):Nat):Int)=(rH r:Int)-1:=by show((rH r-1:Nat):Int)=_;omega
      rw[e4];rfl
     rw[e3,YS,List.length_set]
    ·cases hc
   ·cases hc
  ·cases hc
 ·cases hc
theorem aBK:ET Tryz.prog RS 117 xK:=by
 intro args s rs hc p hst hp vs hvs;subst hst;unfold xK at hc;split at hc
 ·rename_i k ga aa za oa;split at hc
  ·rename_i d hm;split at hc
   ·rename_i g hg;split at hc
    ·rename_i a ha;split at hc
     ·rename_i z hz;split at hc
      ·rename_i o ho;split at hc
       ·rename_i r hr0;cases hb:(Nat.beq (rS r) a&&Nat.beq (rH r) 0&&((Nat.beq a 0&&Nat.beq z 1&&Nat.beq o 0)||(Nat.beq a 1&&Nat.blt 1 z&&Nat.blt z 6&&Nat.blt 0 o)||(Nat.blt 1 a&&Nat.blt a 6&&Nat.beq z 1&&Nat.beq o 0)))<;>rw[hb]at hc<;>simp only[AN,AO,reduceCtorEq,AH]at hc;subst hc;simp only[AI,BI,GH,decide_eq_true_eq]at hb;obtain⟨⟨b1,b2⟩,b3⟩:=hb;cases hvs with|cons h1 hvs=>cases hvs with|cons h2 hvs=>cases hvs with|cons h3 hvs=>cases hvs with|cons h4 hvs=>cases hvs with|cons h5 hvs=>
        cases hvs;cases h1 with|Au h1=>
        obtain rfl:=Gw hg h2;obtain rfl:=Gw ha h3;obtain rfl:=Gw hz h4;obtain rfl:=Nu ho h5;have hbb:∀x y:Nat,Nat.blt x y=true->x<y:=fun x y h=>by simpa using h
        have hE:HT (Pv r) (a:Int) (z:Int) (o:Int)=0:=by
         have e1:(Pv r).1=(a:Int):=by show((rS r:Nat):Int)=_;rw[b1]
         have e2:(Pv r).2.2=0:=by show((rH r:Nat):Int)=_;rw[b2];rfl
         unfold HT PT;rcases b3 with(⟨⟨c1,c2⟩,c3⟩|⟨⟨⟨c1,c2⟩,c3⟩,c4⟩)|⟨⟨⟨c1,c2⟩,c3⟩,c4⟩
         ·subst c1 c2 c3;rw[BE (.inl ⟨rfl,rfl⟩)];simp[e1,e2]
         ·have c2:=hbb _ _ c2;have c3:=hbb _ _ c3;have c4:=hbb _ _ c4;subst c1;rw[Ah I,BE I];have:¬((o:Int)=0):=I;simp[e1,e2];omega
         ·have c1:=hbb _ _ c1;have c2:=hbb _ _ c2;subst c3 c4;rw[BE (.inr (.inr I))];simp[e1,e2]
        refine Rz hp (Jd hm) fun b c hρ hr=> ?_
        rw[hρ]at h1;cases h1;rename_i b c;obtain⟨rb,g1,g2,g3⟩:=(hT _ _ _).1 hr;rw[g3];have hst:=step_ok (tb:=b) (rb:=rb) (a:=(a:Int)) (z:=(z:Int)) (o:=(o:Int)) J (D3 _) g2 (Wm hr0);unfold H9 at hst;rw[hE,BE J]at hst;refine Fn.FW (hst.mono ?_);rintro e S' ⟨rfl,rfl⟩;refine⟨_,_,rfl,_,_,rfl,rfl,Ea _ 0,(hT _ _ _).2 ⟨rb,by simpa using g1,by simpa using g2,?_⟩⟩;have aDF:z<16:=by
         rcases b3 with(⟨⟨c1,c2⟩,c3⟩|⟨⟨⟨c1,c2⟩,c3⟩,c4⟩)|⟨⟨⟨c1,c2⟩,c3⟩,c4⟩
         ·omega
         ·have:=hbb _ _ c3;omega
         ·omega
        have e3:((z:Int),(o:Int),(Pv r).2.2)=Pv (Ob z o 0):=by
         rw[R7 aDF Ba];have e2:(Pv r).2.2=0:=by show((rH r:Nat):Int)=_;rw[b2];rfl
         rw[e2];rfl
        rw[e3,YS,List.length_set]
       ·cases hc
      ·cases hc
     ·cases hc
    ·cases hc
   ·cases hc
  ·cases hc
 ·cases hc
end
end
end Go.Proofs.YtfekkjbdcdnhlaaGreatDoor.Sep
