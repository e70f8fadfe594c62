/- Lemmas for TopScrubs. No condition but those that each states. -/
import Derived.Test.YtfekkjbdcdnhlaaGreatDoorMat
set_option linter.all false
set_option maxHeartbeats 8000000
set_option maxRecDepth 100000
namespace Go.Proofs.YtfekkjbdcdnhlaaGreatDoor.Sep
noncomputable section
variable{f:Nat}
theorem Fn.pB{P:Program}{args:List Value}{S:A2}{R R0:Ending->A2->Prop}(h:Fn P f args S R0)(k:∀e S',R0 e S'->∃T G,R e T/\S'.flatten.Perm (T++G).flatten):Fn P f args S R:=fun A U w hs=>by
 refine(h A U w hs).mono ?_;rintro e w' ⟨h0,S',h1,h2⟩;obtain⟨T,G,h3,h4⟩:=k _ _ h2;refine⟨h0,T,?_,h3⟩;have h5:Ds A w' ((G++(T++U))):=h1.FK (by rw[A6];refine(h4.append_right _).trans (C2 fun _ x=> ?_);simp only[A6,Ax];omega)
 exact h5.drops
abbrev zA:=Int×List CH
variable{ob K j:Nat}{id:Int}{comp:List CH}
theorem Uu{b:Nat}(h:M9 ob K [j] b comp)(hok:E5 Tryz.prog f=true)(hc:∀mb x,PH (JF b ob mb x) (K+j) (K+j) f [] [] [] (fun _ X'=>X'=[])):
 Fn Tryz.prog 192 [Au b,.int .i64 id,.func (.func f) #[] #[]] [comp] (Dv (ι:=zA) (fun i=>0<=i.1/\i.1<=30/\M9 ob K [j] b i.2) (fun i=>.int .i64 i.1) (fun i=>[i.2])):=by
 refine(at_rl (first:=[]) (cap:=[]) (id:=id) h (Ao _) hok hc J).Cd (F:=[]) DI ?_;rintro e S' ⟨⟨er,c',X'⟩,⟨h1,h2,h3,h4⟩,rfl,rfl⟩;dsimp only at h4;subst h4;exact⟨_,⟨(er,c'),⟨h1,h2,h3⟩,rfl,rfl⟩,by simp⟩
def pC:Rv:=⟨0,0,0,0,BQ 32,BQ 32,0,BQ 32,0⟩
theorem Nn:pC.ok:=⟨Ba,Ba,Ba,Ba,⟨rfl,E0 32⟩,⟨rfl,E0 32⟩,Ba,⟨rfl,E0 32⟩,Ba⟩
theorem Rk:([Value.int .u64 0,Value.int .i64 0,Value.int .i64 0,Value.int .u64 0]++bs (BQ 32)++[Value.slice none 0 0]++bs (BQ 32)++[Value.int .u64 0]++bs (BQ 32)++[Value.int .i64 0])=Fv pC (.slice none 0 0):=by simp[Fv,pC]
section
variable{ob K j b:Nat} {id:Int} {comp:List CH} (h:M9 ob K [j] b comp)
include h
theorem f128:Fn Tryz.prog 128 [Au b,.int .i64 id] [comp] (Dv (ι:=zA) (fun i=>0<=i.1/\i.1<=30/\M9 ob K [j] b i.2) (fun i=>.int .i64 i.1) (fun i=>[i.2])):=by refine Fn.of Tryz.func128 J J [_] J ?_;refine W ?_;refine DL.B7 J J J (F:=[comp]) pK (Uu h kR (fun _ _=>aAv)) kR (fun _=>aP) (fun _=>kO) ?_;rintro⟨er,c'⟩ h1;dsimp only at h1⊢;refine W ?_;exact BD (er,c') h1 (DC (RV.tmp J)) pK
theorem f129:Fn Tryz.prog 129 [Au b,.int .i64 id] [comp] (Dv (ι:=zA) (fun i=>0<=i.1/\i.1<=30/\M9 ob K [j] b i.2) (fun i=>.int .i64 i.1) (fun i=>[i.2])):=by refine Fn.of Tryz.func129 J J [_] J ?_;refine W ?_;refine DL.B7 J J J (F:=[comp]) pK (Uu h kR (fun _ _=>aAw)) kR (fun _=>aP) (fun _=>kO) ?_;rintro⟨er,c'⟩ h1;dsimp only at h1⊢;refine W ?_;exact BD (er,c') h1 (DC (RV.tmp J)) pK
theorem f151:Fn Tryz.prog 151 [Au b,.int .i64 id] [comp] (Dv (ι:=zA) (fun i=>0<=i.1/\i.1<=30/\M9 ob K [j] b i.2) (fun i=>.int .i64 i.1) (fun i=>[i.2])):=by refine Fn.of Tryz.func151 J J [_] J ?_;refine W ?_;refine DL.B7 J J J (F:=[comp]) pK (Uu h kR (fun _ _=>aAy)) kR (fun _=>aP) (fun _=>kO) ?_;rintro⟨er,c'⟩ h1;dsimp only at h1⊢;refine W ?_;exact BD (er,c') h1 (DC (RV.tmp J)) pK
theorem f132:Fn Tryz.prog 132 [Au b,.int .i64 id] [comp] (Dv (ι:=zA) (fun i=>0<=i.1/\i.1<=30/\M9 ob K [j] b i.2) (fun i=>.int .i64 i.1) (fun i=>[i.2])):=by
 refine Fn.pB (R0:=fun e S'=>∃er c' G,0<=er/\er<=30/\M9 ob K [j] b c'/\e=.returned (.int .i64 er)/\S'.flatten.Perm (c'++G)) ?_ ?_
 ·refine Fn.of Tryz.func132 J J [_] J ?_;refine W ?_;refine DL.B7 J J J (F:=[comp]) pK (Uu h kR (fun _ _=>aAx)) kR (fun _=>aP) (fun _=>kO) ?_;rintro⟨er,c'⟩ ⟨h1,h2,h3⟩;dsimp only at h1 h2 h3⊢;refine W ?_;by_cases he:er=0
  ·rw[show decide (er=0)=true by simp[he]];obtain⟨j0,e,mb,x,L,clk,c,rfl,hx0,hx1,hp⟩:=h3;cases e;cases hg:E9 L id with
   |some v=>
    obtain⟨rv,lc,r,rfl,hrl,hperm,⟨c1,hc1,hc2⟩,hset⟩:=hp.at_ hg;refine CW.FK (T:=[JF b ob mb x,DX (Value.int .i64) mb L clk,c1,lc]) (by
     refine C2 fun _ x=> ?_
     have:=hperm.count_eq x;have:=hc2.count_eq x;simp only[AW,A0,Am,AQ,AS,Ax]at*
     omega) ?_
    refine W ?_;refine DL.delete (a:=id) (IA tt (kt:=3) J) tt J (fun _ h=>by cases h) rfl rfl rfl uP kO ?_;refine W ?_;refine⟨_,_,_,DC (RV.tmp J),(pK:DV _ [JF b ob mb x,DX (Value.int .i64) mb (Jg L id) clk,c1] _),er,[JF b ob mb x,DX (Value.int .i64) mb (Jg L id) clk,c1].flatten,[],h1,h2,⟨j,rfl,mb,x,_,clk,c1,rfl,hx0,hx1,hc1⟩,rfl,by simp⟩
   |none=>
    have e1:Jg L id=L:=(MK (i:=0) (by
     have:=N2 id L 0;rw[hg]at this;cases hq:J7 L id 0 with
     |none=>rfl
     |some v=>rw[hq]at this;cases this)).2
    refine CW.FK (T:=[JF b ob mb x,DX (Value.int .i64) mb L clk,c]) DI ?_;refine W ?_;refine DL.delete (a:=id) (IA tt (kt:=3) J) tt J (fun _ h=>by cases h) rfl rfl rfl uP kO ?_;rw[e1];refine W ?_;refine⟨_,_,_,DC (RV.tmp J),(pK:DV _ [JF b ob mb x,DX (Value.int .i64) mb L clk,c] _),er,[JF b ob mb x,DX (Value.int .i64) mb L clk,c].flatten,[],h1,h2,⟨j,rfl,mb,x,_,clk,c,rfl,hx0,hx1,hp⟩,rfl,by simp⟩
  ·rw[show decide (er=0)=false by simp[he]];refine W ?_;exact⟨_,_,_,DC (RV.tmp J),(pK:DV _ [c'] _),er,c',[],h1,h2,h3,rfl,by simp⟩
 ·rintro e S' ⟨er,c',G,h1,h2,h3,rfl,h4⟩;exact⟨[c'],[G],⟨(er,c'),⟨h1,h2,h3⟩,rfl,rfl⟩,by simpa using h4⟩
end
abbrev aCW:=Rv×Value×Int×List CH
variable{b0:Nat}
theorem f194(h:M9 ob K [j] b0 comp)(hK:K+j<=4294967295):Fn Tryz.prog 194 [Au b0,.int .i64 id] [comp] (Dv (ι:=aCW) (fun i=>i.1.ok/\i.2.1.oneCell'=true/\0<=i.2.2.1/\i.2.2.1<=30/\M9 ob K [j] b0 i.2.2.2) (fun i=>.tuple #[.agg (Fv i.1 i.2.1).toArray,.int .i64 i.2.2.1]) (fun i=>[i.2.2.2])):=by
 refine Fn.of Tryz.func194 J J [_,_] J ?_
 (refine W ?_;intro b;refine W ?_)
 rw[Rk];obtain⟨bo,hbo⟩:∃bo,bo=b:=⟨_,rfl⟩
 subst hbo;refine DL.B7 J J J (F:=[comp,A7 bo (Fv pC (.slice none 0 0)) 219]) pK (at_rl (first:=[]) (cap:=[Au bo]) (id:=id) h (Ao _) kR (fun _ _=>aAB (EP Nn) hK) ⟨pC,.slice none 0 0,[],by simp,Nn,.inl ⟨rfl,rfl⟩⟩) kR (fun _=>aP) (fun _=>kO) ?_;rintro⟨er,c',X'⟩ ⟨h1,h2,h3,r,lv,lc,rfl,hr,I3⟩;dsimp only at h1 h2 h3⊢;have hl:=EP (lv:=lv) hr;refine DL.zV tt J J J ?_;refine DL.done (KU ?_);refine CW.FK (T:=[c',A7 bo (Fv r lv) 219,lc]) DI ?_;refine W ?_;refine DL.LJ tt J J J J J iN (by rw[hl]) ?_;refine W ?_;refine DL.Bj tt J J J J uP (by rw[hl]) (ID I3.one) (by rw[hl]) kO ?_;refine W ?_;exact BD (r,lv,er,c') ⟨hr,I3.one,h1,h2,h3⟩ (Fb (RV.D8 tt J J J (In.mem iN) (by rw[hl])) (RV.tmp J)) pK
abbrev NxI:=Int×Int×List CH
theorem f242(h:M9 ob K [j] b0 comp):Fn Tryz.prog 242 [Au b0,.int .i64 id] [comp] (Dv (ι:=NxI) (fun i=>0<=i.1/\i.1<=18446744073709551615/\0<=i.2.1/\i.2.1<=30/\M9 ob K [j] b0 i.2.2) (fun i=>.tuple #[.int .u64 i.1,.int .i64 i.2.1]) (fun i=>[i.2.2])):=by
 refine Fn.of Tryz.func242 J J [_,_] J ?_
 (refine W ?_;intro b;refine W ?_)
 obtain⟨bo,hbo⟩:∃bo,bo=b:=⟨_,rfl⟩
 subst hbo;refine DL.B7 J J J (F:=[comp,A7 bo [.int .u64 0] 43]) pK (at_rl (first:=[]) (cap:=[Au bo]) (id:=id) h (Ao _) kR (fun _ _=>aAz J) ⟨_,rfl,fun _=>rfl,fun h=>absurd h Ba⟩) kR (fun _=>aP) (fun _=>kO) ?_;rintro⟨er,c',X'⟩ ⟨h1,h2,h3,y,rfl,h4,h5⟩;dsimp only at h1 h2 h3 h4 h5⊢;obtain⟨z,rfl,hz1,hz2⟩:∃z:Int,y=.int .u64 z/\0<=z/\z<=18446744073709551615:=by
  by_cases he:er=0
  ·exact h5 he
  ·exact⟨0,h4 he,Ba,Ba⟩
 refine wW ?_;exact BD (z,er,c') ⟨hz1,hz2,h1,h2,h3⟩ (Fb (RV.cell1 tt J J J (In.mem iN) J) (RV.tmp J)) pK
theorem f125{D:List Int}(h:M9 ob K [j] b0 comp)(hD:D.length=32)(ZG:BN D):Fn Tryz.prog 125 [Au b0,.int .i64 id,.agg (bs D).toArray] [comp] (Dv (ι:=zA) (fun i=>0<=i.1/\i.1<=30/\M9 ob K [j] b0 i.2) (fun i=>.int .i64 i.1) (fun i=>[i.2])):=by
 refine Fn.of Tryz.func125 J J [_] J ?_
 (refine W ?_;intro b;refine W ?_)
 obtain⟨bo,hbo⟩:∃bo,bo=b:=⟨_,rfl⟩
 subst hbo;refine DL.B7 J J J (F:=[comp,A7 bo (bs D) 23]) pK (at_rl (first:=[]) (cap:=[Au bo]) (id:=id) h (Ao _) kR (fun _ _=>aAA hD ZG) J) kR (fun _=>aP) (fun _=>kO) ?_;rintro⟨er,c',X'⟩ ⟨h1,h2,h3,h4⟩;dsimp only at h1 h2 h3 h4⊢;refine W ?_;exact BD (er,c') ⟨h1,h2,h3⟩ (DC (RV.tmp J)) pK
theorem iw(h:M9 ob K [j] b0 comp):Fn Tryz.prog 183 [Au b0] [comp] (E4 (.bool true) [comp]):=by obtain⟨j0,e,mb,x,L,clk,c,rfl,hx0,hx1,hp⟩:=h;refine(OM (b:=b0) (ob:=ob) (mb:=mb) (x:=x)).Cd (F:=[DX (Value.int .i64) mb L clk,c]) DI ?_;rintro e' S' ⟨rfl,rfl⟩;exact⟨_,⟨rfl,rfl⟩,by simp⟩
abbrev OrI:=Int×List CH×List CH
variable{oc:List CH}
theorem ix{ob K j j' j2 j2' b f:Nat}{first cap:List Value}{Fs:A2}(h:M9 ob K [j] b comp)(hj:j<=j')(hok:E5 Tryz.prog f=true)(hO:G1 ob K [j2] ob oc)(hj2:j2<=j2')(hc:∀mb x,PH (JF b ob mb x) (K+j) (K+j') f first cap (oc++Fs.flatten) (fun _ X'=>OrX ob K j2' Fs.flatten X')):
 Fn Tryz.prog 192 [Au b,.int .i64 id,.func (.func f) first.toArray cap.toArray] (comp::oc::Fs) (Dv (ι:=OrI) (fun i=>0<=i.1/\i.1<=30/\M9 ob K [j'] b i.2.1/\G1 ob K [j2'] ob i.2.2) (fun i=>.int .i64 i.1) (fun i=>i.2.1::i.2.2::Fs)):=by
 refine(at_rl (id:=id) h hj hok hc ⟨oc,rfl,FQ hj2 hO⟩).Cd (F:=[]) DI ?_;rintro e S' ⟨⟨er,c',X'⟩,⟨h1,h2,h3,oc',rfl,h5⟩,rfl,rfl⟩;exact⟨_,⟨(er,c',oc'),⟨h1,h2,h3,h5⟩,rfl,rfl⟩,by simp⟩
theorem f148{ob K j j2 b0:Nat}{T:List Value}(h:M9 ob K [j] b0 comp)(hT:Bt [] WI T)(hO:G1 ob K [j2] ob oc)(hK:K+j<=2147483648)(hK2:K+j2+1<=HM):Fn Tryz.prog 148 [Au b0,.int .i64 id,.agg T.toArray] [comp,oc] (Dv (ι:=OrI) (fun i=>0<=i.1/\i.1<=30/\M9 ob K [j+1] b0 i.2.1/\G1 ob K [j2+1] ob i.2.2) (fun i=>.int .i64 i.1) (fun i=>[i.2.1,i.2.2])):=by
 refine Fn.of Tryz.func148 J J [_] J ?_
 (refine W ?_;intro b;refine W ?_;intro b;refine W ?_)
 rename_i q2;obtain⟨q1,hq1⟩:∃q1,q1=b:=⟨_,rfl⟩
 subst hq1;refine DL.B7 J J J (F:=[comp,oc,A7 q1 T 64,A7 q2 [Au b0] 81]) pK (ix (first:=[]) (cap:=[Au q1,Au q2]) (Fs:=[A7 q1 T 64,A7 q2 [Au b0] 81]) (id:=id) h (EG _) kR hO (EG _) (fun mb x=>by have:=aAN (b0:=b0) (q1:=q1) (q2:=q2) (m:=K+j) hK hT hO hK2 mb x;simpa[Nat.add_assoc]using this)) kR (fun _=>aP) (fun _=>kO) ?_
 rintro⟨er,c',oc'⟩ h1;dsimp only at h1⊢;refine W ?_;exact BD (er,c',oc') h1 (DC (RV.tmp J)) pK
theorem f214{ob K j j2 b0:Nat}{pg:Int}{G:List Int}(h:M9 ob K [j] b0 comp)(hG:G.length=128)(hGb:BN G)(hO:G1 ob K [j2] ob oc)(hK:K+j<=2147483648)(hK2:K+j2+1<=HM):Fn Tryz.prog 214 [Au b0,.int .i64 id,.int .i64 pg,.agg (bs G).toArray] [comp,oc] (Dv (ι:=OrI) (fun i=>0<=i.1/\i.1<=30/\M9 ob K [j+1] b0 i.2.1/\G1 ob K [j2+1] ob i.2.2) (fun i=>.int .i64 i.1) (fun i=>[i.2.1,i.2.2])):=by
 refine Fn.of Tryz.func214 J J [_] J ?_
 (refine W ?_;intro b;refine W ?_;intro b;refine W ?_;intro b;refine W ?_)
 rename_i q4 q6;obtain⟨q7,hq7⟩:∃q7,q7=b:=⟨_,rfl⟩
 subst hq7;refine DL.BS J J J pK (iw h) kR aP kO ?_;refine W ?_;by_cases hp0:pg<0
 ·rw[show decide (pg<0)=true by simp[hp0]];refine W ?_;exact BD (2,comp,oc) ⟨(show(0:Int)<=2 by decide),(show(2:Int)<=30 by decide),L6 (EG _) h,FQ (EG _) hO⟩ (DC (RV.tmp J)) pK
 rw[show decide (pg<0)=false by simp[hp0]];refine W ?_;by_cases hp1:128<=pg
 ·rw[show decide (128<=pg)=true by simp[hp1]];refine W ?_;exact BD (2,comp,oc) ⟨(show(0:Int)<=2 by decide),(show(2:Int)<=30 by decide),L6 (EG _) h,FQ (EG _) hO⟩ (DC (RV.tmp J)) pK
 rw[show decide (128<=pg)=false by simp[hp1]];refine W ?_;refine DL.B7 J J J (F:=[comp,oc,A7 q4 [Au b0] 81,A7 q6 [.int .i64 pg] 3,A7 q7 (bs G) 58]) pK (ix (first:=[]) (cap:=[Au q4,Au q6,Au q7]) (Fs:=[A7 q4 [Au b0] 81,A7 q6 [.int .i64 pg] 3,A7 q7 (bs G) 58]) (id:=id) h (EG _) kR hO (EG _) (fun mb x=>by have:=aAL (b0:=b0) (q4:=q4) (q6:=q6) (q7:=q7) (m:=K+j) hK ⟨hG,hGb⟩ (show 0<=pg/\pg<=127 by omega) hO hK2 mb x;simpa[Nat.add_assoc]using this)) kR (fun _=>aP) (fun _=>kO) ?_
 rintro⟨er,c',oc'⟩ h1;dsimp only at h1⊢;refine W ?_;exact BD (er,c',oc') h1 (DC (RV.tmp J)) pK
variable{bp wb ED:Nat}{X:List Int}{IU:List Value}
theorem aCX(hX:X.length=8)(hw:8<=ED/\IU.length=ED-8):
 Fn Tryz.prog 250 [.slice (some ⟨bp,0,none⟩) 1 1] [A7 bp [.slice (some ⟨wb,0,none⟩) 8 ED] 53,II wb X IU] (Dv (ι:=Z8) (fun i=>8<=i.2.1/\i.2.2.length=i.2.1-8) (fun i=>.slice (some ⟨i.1,0,none⟩) 8 i.2.1) (fun i=>[II i.1 X i.2.2,A7 bp [.slice (some ⟨wb,0,none⟩) 8 ED] 53,II wb X IU])):=by
 refine Fn.of Tryz.func250 J J [_] J ?_;refine W ?_;refine CW.loop (ι:=Nat) (fun i=>1-i) (fun i=>i<=1) (fun i=>[(0,.slice (some ⟨bp,0,none⟩) 1 1),(9,.slice (some ⟨bp,0,none⟩) 1 1),(10,.int .i64 1),(11,.int .i64 i),(3,.int .i64 (8*(i:Int)))]) (fun i=>[A7 bp [.slice (some ⟨wb,0,none⟩) 8 ED] 53,II wb X IU]) 0 I sF pK ?_;intro i hi;refine W ?_;by_cases h:i<1
 ·obtain rfl:i=0:=I;refine CW.Gp J I ?_;refine W ?_;refine DL.C3 tt 0 J J J J J J Ba ?_;refine W ?_;exact⟨1,_,I,I,sF,pK⟩
 ·obtain rfl:i=1:=I;refine CW.GM J I ?_;refine W ?_;refine DL.B7 J J J .nil (grow (m:=8) Ba Ba) kR (fun _=>aP) (fun _=>kO) ?_;rintro⟨gb,X4,iy⟩ ⟨g1,g2⟩;dsimp only at g1 g2⊢;refine W ?_;refine CW.FK (T:=[II gb (X.take (8*0)) iy,A7 bp [.slice (some ⟨wb,0,none⟩) 8 ED] 53,II wb X IU]) (by simp;exact EI _) ?_;refine CW.loop (ι:=Nat×Nat×Nat×List Value) (fun i=>1-i.1) (fun i=>i.1<=1/\8<=i.2.2.1/\i.2.2.2.length=i.2.2.1-8*i.1) (fun i=>[(25,.slice (some ⟨bp,0,none⟩) 1 1),(26,.int .i64 1),(27,.int .i64 (i.1:Int)),(6,.slice (some ⟨i.2.1,0,none⟩) (8*i.1) i.2.2.1)]) (fun i=>[A7 bp [.slice (some ⟨wb,0,none⟩) 8 ED] 53,II wb X IU,II i.2.1 (X.take (8*i.1)) i.2.2.2]) (0,gb,X4,iy) ⟨I,g1,by simpa using g2⟩ sF pK ?_;rintro⟨r,nb,cap,ex⟩ ⟨h1,h2,h3⟩;dsimp only at h1 h2 h3⊢;refine W ?_;by_cases h:r<1
  ·obtain rfl:r=0:=I;refine CW.Gp J I ?_;refine W ?_;refine DL.C3 tt 0 J J J J J J Ba ?_;refine W ?_;refine DL.append (xs:=bs (X.take (8*0))) (ex:=ex) (news:=bs X) tt J J J W5 J Es (DO.slice tt J iN (by rw[BL];show List.take 8 (bs X++IU)=bs X;rw[Ar (by rw[Aa,hX];exact Ao _),AX (by rw[Aa,hX];exact Ao _)]) (by rw[Aa,hX]) (BV _)) (by simp[bs]) (by simpa using h3) I I I (fun _ _=>kO) ?_;intro b' cap' ex' h4 h5;rw[show bs (X.take (8*0))++bs X=bs (X.take (8*1)) by rw[show X.take (8*1)=X from AX I];simp[bs]];refine W ?_;exact⟨(1,b',cap',ex'),_,by simp,⟨by simp,by simpa using h5,by simpa using h4⟩,sF,pK⟩
  ·obtain rfl:r=1:=I;refine CW.GM J I ?_;rw[show X.take (8*1)=X from AX I];refine W ?_;exact BD (nb,cap,ex) ⟨h2,by simpa using h3⟩ (DC (RV.tmp J)) pK
theorem r93:HU (DY []) (E3 (DY []) 100000) 93 [] [] [.agg ([iv 3 3]++List.replicate 32 .junk++[iv 8 9,.junk])] [(false,.boo (some true))] []=true:=kR
theorem MB{ρ:Nm}:∀{l:List Value},(∀u∈l,u.oneCell'=true)->Bt ρ (List.replicate l.length .junk) l
 |[],_=>.nil
 |v::l,h=>.cons (.junk (h v DI)) (MB (fun u hu=>h u (by simp[hu])))
variable{M key:List Int}{D:List (List Int)}{u:Nat}{es:List OE}{dv:Value}{dm:Int}
theorem sD{dC:List CH}(hdm:8<=dm/\dm<=9)(hO:Sj M D u es b0 comp)(hk:key.length=32)(hd:G9 X dv dC)(Ix:BN X)(Hw:X.length<1048576)(hu:u<1099511627776)(hDl:D.length<1099511627776)(hn:es.length<4294967296):
 Fn Tryz.prog 52 [Au b0,.agg (qL 3 key dm dv).toArray] [comp,dC] (vM M D b0 dC (.tuple #[.agg (bs (Ff D u es (qk 3 key dm X hk)).1).toArray,.int .i64 0]) (Ff D u es (qk 3 key dm X hk)).2.1 (Ff D u es (qk 3 key dm X hk)).2.2):=by
 have SI:=Ee (k:=3) (dm:=dm) (dv:=dv) hk;have h1:=hd.one;have hth:Fn Tryz.prog 65 [Au b0] [comp] (E4 (.bool true) [comp]):=by obtain⟨ds,kb,clk,ls,L,IH,lC,Hv,dH,rfl,hM,_⟩:=hO;refine(Jr (b:=b0) (kb:=kb) (u:=u) (ds:=ds) (ls:=ls) hM).Cd (F:=[DX Gq kb L clk,lC,Hv,dH.flatten]) DI ?_;rintro e' S' ⟨rfl,rfl⟩;exact⟨_,⟨rfl,rfl⟩,by simp⟩
 refine Fn.of Tryz.func52 J J [_,_] J ?_
 (refine W ?_;intro b;refine W ?_;intro b;refine W ?_)
 rename_i q1;obtain⟨q2,hq2⟩:∃q2,q2=b:=⟨_,rfl⟩
 subst hq2;refine DL.BS J J J pK (hth) kR aP kO ?_;refine W ?_;refine DL.LJ tt J J J J J iN SI ?_;refine DL.B7 J J J .nil (IF r93 (vs:=[.agg (qL 3 key dm dv).toArray]) (.cons (.agg (by have:=((Bt.cons (ρ:=[]) (EM.int (ρ:=[]) (k:=.i64) (lo:=.ofNat 3) (hi:=.ofNat 3) (z:=3) Ba Ba) .nil).app (show Bt [] (List.replicate 32 .junk) (bs key)from by have:=MB (ρ:=[]) (BV key);rwa [Aa,hk]at this)).app (.cons (EM.int (k:=.i64) (lo:=.ofNat 8) (hi:=.ofNat 9) (z:=dm) hdm.1 hdm.2) (.cons (.junk h1) .nil));exact this)) .nil) J) kR (fun _=>aP) (fun _=>kO) ?_
 intro v hv;cases hv;refine W ?_;refine DL.LJ tt J J J J J iN SI ?_;refine W ?_;refine DL.call J J J (F:=[comp,dC]) pK (MR (k:=3) (dm:=dm) (cv:=.func (.func 95) #[] #[Au q1]) hO hk hd Ix Hw hu hDl hn) kR (fun ch S1 hc=>by obtain⟨_,hc,_⟩:=hc;cases hc) ?_;rintro v S1 ⟨c',hv,rfl,Sr⟩;cases hv;refine⟨kO,?_⟩;simp only[AQ,AS,Dc];have ha:(Ff D u es (qk 3 key dm X hk)).1.length=32:=by obtain⟨ds,kb,clk,ls,L,IH,lC,Hv,dH,rfl,hM,hdr,_,_,_,hes⟩:=hO;exact IC hdr.1 (fun e he=>(hes e he).1)
 refine DL.Bj tt J J J J uP (by rw[Aa,ha]) (BV _) HS kO ?_;refine W ?_;refine⟨_,[c',dC],_,Fb (RV.D8 tt J J J (In.mem iN) (by rw[Aa,ha])) (RV.tmp J),pK,c',rfl,rfl,Sr⟩
theorem ZS(hX:X.length=8)(hw:8<=ED/\IU.length=ED-8):
 Fn Tryz.prog 169 [.slice (some ⟨bp,0,none⟩) 1 1] [A7 bp [.slice (some ⟨wb,0,none⟩) 8 ED] 53,II wb X IU] (Dv (ι:=Z8) (fun i=>8<=i.2.1/\i.2.2.length=i.2.1-8) (fun i=>.slice (some ⟨i.1,0,none⟩) 8 i.2.1) (fun i=>[II i.1 X i.2.2,A7 bp [.slice (some ⟨wb,0,none⟩) 8 ED] 53,II wb X IU])):=by
 refine Fn.of Tryz.func169 J J [_] J ?_;refine W ?_;refine DL.B7 J J J pK (aCX hX hw) kR (fun _=>aP) (fun _=>kO) ?_;rintro⟨nb,cap,ex⟩ h1;dsimp only at h1⊢;refine W ?_;exact BD (nb,cap,ex) h1 (DC (RV.tmp J)) pK
abbrev sE:List Value:=[Value.int .i64 0]++bs (BQ 32)++[Value.int .i64 0,Value.slice none 0 0]
theorem Uw{k:Int}(hk:key.length=32):F6 (Kd.st [(0,1),(1,32),(33,1),(34,1)]).place sE [(0,[.int .i64 k]),(1,bs key),(2,[.int .i64 dm]),(3,[dv])]=some (qL k key dm dv):=by simp[F6,Kd.place,E1,Aa,Bn,hk,C4,CM,AX,BJ,qL];rfl
theorem aAW{ds ls:Value}{kb:Nat}(hM:M.length=32):((oL M ds u kb ls).drop 1).take 32=bs M:=by simp[oL,C4,Aa,hM,AX]
def wG(M:List Int)(D:List (List Int))(b:Nat)(F:A2)(v:Value)(u:Nat)(es:List OE):Ending->A2->Prop:=fun e S'=>∃c',e=.returned v/\S'=c'::F/\Sj M D u es b c'
theorem iz(hO:Sj M D u es b0 comp)(hM:M.length=32)(hX:X.length=8)(Ix:BN X)(hw:8<=ED/\IU.length=ED-8)(hu:u<1099511627776)(hDl:D.length<1099511627776)(hn:es.length<4294967296):
 Fn Tryz.prog 101 [Au b0,.int .i64 8,.slice (some ⟨bp,0,none⟩) 1 1] [comp,A7 bp [.slice (some ⟨wb,0,none⟩) 8 ED] 53,II wb X IU] (wG M D b0 [A7 bp [.slice (some ⟨wb,0,none⟩) 8 ED] 53,II wb X IU] (.tuple #[.agg (bs (Ff D u es (qk 3 M 8 X hM)).1).toArray,.int .i64 0]) (Ff D u es (qk 3 M 8 X hM)).2.1 (Ff D u es (qk 3 M 8 X hM)).2.2):=by
 have hO0:=hO;obtain⟨ds,kb,clk,ls,L,IH,lC,Hv,dH,rfl,_,hdr,M5,hds,hkn,hes⟩:=hO0;have ha:(Ff D u es (qk 3 M 8 X hM)).1.length=32:=IC hdr.1 (fun e he=>(hes e he).1);refine Fn.of Tryz.func101 J J [_,_] J ?_;refine CW.FK (T:=[oB b0 M ds u kb ls,[DX Gq kb L clk,lC,Hv,dH.flatten].flatten,A7 bp [.slice (some ⟨wb,0,none⟩) 8 ED] 53,II wb X IU]) DI ?_
 (refine W ?_;intro b;refine W ?_)
 obtain⟨q2,hq2⟩:∃q2,q2=b:=⟨_,rfl⟩
 subst hq2;refine DL.BS J J J pK (Jr hM) kR aP kO ?_;refine W ?_;refine CW.db (id:=3) [0,1,2,3,4,5,6,7,8] [9,10,11,12,13] [oB b0 M ds u kb ls] [] mixed hz kR pK nD nD ?_;refine W ?_;refine DL.HQ tt (cs:=oL M ds u kb ls) (vs:=bs M) J J J J J BH (aAW hM) (by rw[Aa,hM]) ?_;refine W ?_;refine DL.B7 J J J pK (ZS hX hw) kR (fun _=>aP) (fun _=>kO) ?_;rintro⟨nb,cap,ex⟩ ⟨h1,h2⟩;dsimp only at h1 h2⊢;refine DL.build hz tt J J J J J J (Uw hM) ?_;refine W ?_;refine Fe (Du pK) ?_;have hdat:G9 X (.slice (some ⟨nb,0,none⟩) 8 cap) (II nb X ex):=.inr ⟨nb,0,cap,_,_,by rw[hX],I,rfl,by rw[BL,hX,Ar (by rw[Aa,hX];exact Ao _),AX (by rw[Aa,hX];exact Ao _)]⟩;refine DL.call J J J (F:=[oB b0 M ds u kb ls,[DX Gq kb L clk,lC,Hv,dH.flatten].flatten,II nb X ex]) pK ((sD (dm:=8) Ba hO hM hdat Ix I hu hDl hn).Cd (F:=[]) DI (fun e S' h=>⟨S',h,by simp⟩)) kR (fun ch S1 hc=>by obtain⟨_,hc,_⟩:=hc;cases hc) ?_;rintro v S1 ⟨c',hv,rfl,Sr⟩;cases hv;refine⟨kO,?_⟩;simp only[AQ,AS,Dc];refine W ?_;refine DL.Bj tt J J J J uP (by rw[Aa,ha]) (BV _) HS kO ?_;refine W ?_;refine⟨_,[c',A7 bp [.slice (some ⟨wb,0,none⟩) 8 ED] 53,II wb X IU],_,Fb (RV.D8 tt J J J (In.mem iN) (by rw[Aa,ha])) (RV.tmp J),pK,c',rfl,rfl,Sr⟩
end
end Go.Proofs.YtfekkjbdcdnhlaaGreatDoor.Sep
