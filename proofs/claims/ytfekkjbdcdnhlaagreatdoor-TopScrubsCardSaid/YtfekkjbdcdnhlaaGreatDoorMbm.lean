/- Lemmas for TopScrubs. No condition but those that each states. -/
import Derived.Test.YtfekkjbdcdnhlaaGreatDoorMbj
import Derived.Test.YtfekkjbdcdnhlaaGreatDoorMbl
set_option linter.all false
set_option maxHeartbeats 8000000
set_option maxRecDepth 100000
namespace Go.Proofs.YtfekkjbdcdnhlaaGreatDoor.Sep
noncomputable section
variable{x y:Value}{b:Bool}
theorem LC{k:IntKind}(h:nJ (.int k) x y=some b):∃z z':Int,x=.int k z/\y=.int k z'/\b=(z==z'):=by
 unfold nJ at h;split at h
 ·rename_i q k1 z k2 z' heq;cases heq;cases hk:I9 k1 k2&&I9 k k1<;>simp only[hk,AO,AN,reduceCtorEq,AH]at h;simp only[AI]at hk;obtain rfl:=Fz hk.1;obtain rfl:=Fz hk.2;exact⟨z,z',rfl,rfl,by rw[<-h];by_cases e:z=z'<;>simp[e]⟩
 ·rename_i heq;cases heq
 ·rename_i heq;cases heq
 ·cases h
theorem mC(h:nJ .bool x y=some b):∃z z':Bool,x=.bool z/\y=.bool z'/\b=(z==z'):=by
 unfold nJ at h;split at h
 ·rename_i heq;cases heq
 ·cases h;exact⟨_,_,rfl,rfl,rfl⟩
 ·rename_i heq;cases heq
 ·cases h
variable{xs ys:List Value}
theorem Hu{q:Kd}{qs:List Kd}(h:Jz (q::qs) xs ys=some b):∃x xs' y ys' b1 b2,xs=x::xs'/\ys=y::ys'/\nJ q x y=some b1/\Jz qs xs' ys'=some b2/\b=(b1&&b2):=by
 cases xs with
 |nil=>simp[Jz]at h
 |cons x xs=>
  cases ys with
  |nil=>simp[Jz]at h
  |cons y ys=>
   simp only[Jz]at h;split at h
   ·rename_i b1 hb1;split at h
    ·rename_i b2 hb2;cases h;exact⟨x,xs,y,ys,b1,b2,rfl,rfl,hb1,hb2,rfl⟩
    ·cases h
   ·cases h
theorem mD(h:Jz [] xs ys=some b):xs=[]/\ys=[]/\b=true:=by cases xs<;>cases ys<;>simp[Jz]at h;exact⟨rfl,rfl,h⟩
abbrev yM:List Kd:=[.int .i64,.int .u64,.int .u64,.int .u64,.int .u64,.int .u64,.bool,.int .u64]
theorem Wx:Tryz.prog.fieldsOf 46= #[{name:= "Code",type:=42,offset:=0,embedded:=false,tag:= "",pkgPath:= "",byteOffset:=0},{name:= "Out",type:=44,offset:=1,embedded:=false,tag:= "",pkgPath:= "",byteOffset:=8},{name:= "Word",type:=43,offset:=5,embedded:=false,tag:= "",pkgPath:= "",byteOffset:=40},{name:= "Ok",type:=4,offset:=6,embedded:=false,tag:= "",pkgPath:= "",byteOffset:=48},{name:= "Instance",type:=43,offset:=7,embedded:=false,tag:= "",pkgPath:= "",byteOffset:=56}]:=kR
theorem aB9:Tryz.prog.underlying 46=some (.struct (Tryz.prog.fieldsOf 46)):=by rw[Tryz.underlying46,Wx]
theorem aEx:Vl Tryz.prog 46 yM:=by
 refine⟨fun xs ys b w h=> ?_,fun op x y xs ys w=>run_eqGuard_agg w op 46 x y xs ys Tryz.eqGuardType46⟩;obtain⟨x0,xs,y0,ys,c0,d0,rfl,rfl,h0,g0,rfl⟩:=Hu h;obtain⟨x1,xs,y1,ys,c1,d1,rfl,rfl,h1,g1,rfl⟩:=Hu g0;obtain⟨x2,xs,y2,ys,c2,d2,rfl,rfl,h2,g2,rfl⟩:=Hu g1;obtain⟨x3,xs,y3,ys,c3,d3,rfl,rfl,h3,g3,rfl⟩:=Hu g2;obtain⟨x4,xs,y4,ys,c4,d4,rfl,rfl,h4,g4,rfl⟩:=Hu g3;obtain⟨x5,xs,y5,ys,c5,d5,rfl,rfl,h5,g5,rfl⟩:=Hu g4;obtain⟨x6,xs,y6,ys,c6,d6,rfl,rfl,h6,g6,rfl⟩:=Hu g5;obtain⟨x7,xs,y7,ys,c7,d7,rfl,rfl,h7,g7,rfl⟩:=Hu g6;obtain⟨rfl,rfl,rfl⟩:=mD g7;obtain⟨a0,b0,rfl,rfl,rfl⟩:=LC h0;obtain⟨a1,b1,rfl,rfl,rfl⟩:=LC h1;obtain⟨a2,b2,rfl,rfl,rfl⟩:=LC h2;obtain⟨a3,b3,rfl,rfl,rfl⟩:=LC h3;obtain⟨a4,b4,rfl,rfl,rfl⟩:=LC h4;obtain⟨a5,b5,rfl,rfl,rfl⟩:=LC h5;obtain⟨a6,b6,rfl,rfl,rfl⟩:=mC h6;obtain⟨a7,b7,rfl,rfl,rfl⟩:=LC h7;clear h0 h1 h2 h3 h4 h5 h6 h7 h g0 g1 g2 g3 g4 g5 g6 g7;obtain⟨i,hi,hs⟩:=Gi (P:=Tryz.prog) (t:=43) (n:=1) kR;obtain⟨i4,hi4,hs4⟩:=Gi (P:=Tryz.prog) (t:=44) (n:=4) kR;have hk:=Ir (P:=Tryz.prog) w 9997 Tryz.underlying44 hi kR Tryz.underlying43 [a1,a2,a3,a4] [b1,b2,b3,b4] J J;have k0:=D4 (P:=Tryz.prog) w 9998 42 .i64 .i64 a0 b0 Tryz.underlying42;have k5:=D4 (P:=Tryz.prog) w 9998 43 .u64 .u64 a5 b5 Tryz.underlying43;have k6:=run_equalIn_bool (P:=Tryz.prog) w 9998 4 a6 b6 Tryz.underlying4;have k7:=D4 (P:=Tryz.prog) w 9998 43 .u64 .u64 a7 b7 Tryz.underlying43;have p0:∀c0 c1 c2 c3 c4 c5 c7:Int,∀c6:Bool,(part 42 #[.int .i64 c0,.int .u64 c1,.int .u64 c2,.int .u64 c3,.int .u64 c4,.int .u64 c5,.bool c6,.int .u64 c7] 0).run Tryz.prog w=.ok (.int .i64 c0) w:=fun _ _ _ _ _ _ _ _=>by simp[part,isAgg,Ac Tryz.underlying42]
 have p1:∀c0 c1 c2 c3 c4 c5 c7:Int,∀c6:Bool,(part 44 #[.int .i64 c0,.int .u64 c1,.int .u64 c2,.int .u64 c3,.int .u64 c4,.int .u64 c5,.bool c6,.int .u64 c7] 1).run Tryz.prog w=.ok (.agg ([c1,c2,c3,c4].map (Value.int .u64)).toArray) w:=fun _ _ _ _ _ _ _ _=>by simp[part,isAgg,Ac Tryz.underlying44,sizeOf,typeInfo,hi4,hs4]
 have p5:∀c0 c1 c2 c3 c4 c5 c7:Int,∀c6:Bool,(part 43 #[.int .i64 c0,.int .u64 c1,.int .u64 c2,.int .u64 c3,.int .u64 c4,.int .u64 c5,.bool c6,.int .u64 c7] 5).run Tryz.prog w=.ok (.int .u64 c5) w:=fun _ _ _ _ _ _ _ _=>by simp[part,isAgg,Ac Tryz.underlying43]
 have p6:∀c0 c1 c2 c3 c4 c5 c7:Int,∀c6:Bool,(part 4 #[.int .i64 c0,.int .u64 c1,.int .u64 c2,.int .u64 c3,.int .u64 c4,.int .u64 c5,.bool c6,.int .u64 c7] 6).run Tryz.prog w=.ok (.bool c6) w:=fun _ _ _ _ _ _ _ _=>by simp[part,isAgg,Ac Tryz.underlying4]
 have p7:∀c0 c1 c2 c3 c4 c5 c7:Int,∀c6:Bool,(part 43 #[.int .i64 c0,.int .u64 c1,.int .u64 c2,.int .u64 c3,.int .u64 c4,.int .u64 c5,.bool c6,.int .u64 c7] 7).run Tryz.prog w=.ok (.int .u64 c7) w:=fun _ _ _ _ _ _ _ _=>by simp[part,isAgg,Ac Tryz.underlying43]
 show(Op.equalIn (9999+1) 46 _ _).run Tryz.prog w=_;rw[run_equalIn_struct w 9999 46 _ _ aB9 kR,Wx];simp only[Op.eqFields,Sem.run_ite,Ag,p0,p1,p5,p6,p7,Ad,k0,k5,k6,k7,hk,BA];by_cases e0:a0=b0<;>by_cases e1:a1=b1<;>by_cases e2:a2=b2<;>by_cases e3:a3=b3<;>by_cases e4:a4=b4<;>by_cases e5:a5=b5<;>by_cases e6:a6=b6<;>by_cases e7:a7=b7<;>simp[e0,e1,e2,e3,e4,e5,e6,e7]
def yN(l:List (Nat×F5)):GI:={DY l with lt:=fun u=>bif Nat.beq u 46 then some yM else ltF u}
variable{RS:EA}{l:List (Nat×F5)}
theorem Zq(h:Ol Tryz.prog RS l):En Tryz.prog RS (yN l):=by
 have h0:=DU h;refine⟨h0.T,h0.zt,fun u ls hu=> ?_,h0.el,h0.ft,h0.ct,h0.uy,h0.mixed⟩;have hu':(bif Nat.beq u 46 then some yM else ltF u)=some ls:=hu;cases hb:Nat.beq u 46<;>rw[hb]at hu'<;>simp only[AN,AO]at hu'
 ·exact gP u ls hu'
 ·cases hu';obtain rfl:=AK hb;exact aEx
def ihB(l:List (Nat×F5)):Ih:=L9 (yN l) (cK (hkO (DY l) (E3 (DY l) 100000) spO) (we (DY l) (E3 (DY l) 100000) (spA (DY l).ord))) 100000
theorem yO(h:Ol Tryz.prog RS l):GK Tryz.prog RS (ihB l):=KI (Zq h) (QS (lZ (DU h) (FG (DU h) _)) (Ro (DU h) (FG (DU h) _))) _
def Yj(n ob K U:Nat)(ρ:Nm)(R:List Rw)(B:List Int)(c:List CH):Prop:=∃S,c=S.flatten/\IZ n ob K U ρ R B S
def S5(s:Stp)(cb:List CH):Prop:=s.bl=0\/∃bb off X,s.bp=some ⟨bb,off,none⟩/\s.bl<=s.bc/\X.length=s.bl/\BN X/\QC cb bb off (bs X)
structure Oi (s:Stp):Prop where
 kind: -9223372036854775808<=s.kind/\s.kind<=9223372036854775807
 op: -9223372036854775808<=s.op/\s.op<=9223372036854775807
 a:W6 s.a
 ad:s.ad<=18446744073709551615
 wd:s.wd<=18446744073709551615
def tO(n ob K U:Nat)(ρ:Nm)(R:List Rw)(cb:List CH):Ending->A2->Prop:=fun e S'=>∃R' B' c',S'=[c',cb]/\Yj n ob K U ρ R' B' c'/\Oa R R' B'/\∃(c a b d g x:Int) (ok:Bool) (i:Int),e=.returned (.agg (Ri c a b d g x ok i).toArray)
def H9v:Prop:=∀(n ob K j mb xb:Nat) (ρ:Nm) (c:List CH) (R:List Rw) (B:List Int) (s:Stp) (cb:List CH),1<=n/\n<=4096->j<125->Yj n ob K (20000*j) ρ R B c->K+dE<=HM->ρ[6]? =some (mb,xb)->Oi s->S5 s cb->s.kind=4->
 Fn Tryz.prog 9 [Au mb,.agg s.cells.toArray] [c,cb] (tO n ob (K+dE) (20000*(j+1)) ρ R cb)
variable{S:A2}{cb:List CH}
theorem Fn.frameC{P:Program}{f:Nat}{args:List Value}{R R':Ending->A2->Prop}(h:Fn P f args S R)(k:∀e S',R e S'->∃T,R' e T/\T.flatten.Perm (S'++[cb]).flatten):Fn P f args [S.flatten,cb] R':=h.Cd (F:=[cb]) DI k
variable{n ob K mb xb:Nat}{ρ:Nm}{R:List Rw}{B:List Int}
theorem aCm(H1:xG)(H2:H9v){j:Nat}{c:List CH}{s:Stp}(hn:1<=n/\n<=4096)(hj:j<125)(hX:Yj n ob K (20000*j) ρ R B c)(hK:K+dE<=HM)(hρ:ρ[6]? =some (mb,xb))(hs:Oi s)(hb:S5 s cb):
 Fn Tryz.prog 9 [Au mb,.agg s.cells.toArray] [c,cb] (tO n ob (K+dE) (20000*(j+1)) ρ R cb):=by
 by_cases h4:s.kind=4
 ·exact H2 n ob K j mb xb ρ c R B s cb hn hj hX hK hρ hs hb h4
 obtain⟨S,rfl,hS⟩:=hX;have main:Fn Tryz.prog 9 [Au mb,Zd s.kind s.op s.a s.ad s.wd s.bv] S (QU n ob (K+dE) (20000*(j+1)) ρ R):=by
  by_cases h1:s.kind=1
  ·rw[h1];exact cp H1 hj hs.op J hn hS hK hρ hs.a
  ·have hk:=hs.kind;obtain⟨k,hk1,hk2⟩:∃k,k∈[iv 2 2,iv 3 3,.int .i64 (.negSucc 9223372036854775807) (.ofNat 0),iv 5 9223372036854775807]/\EM ρ k (.int .i64 s.kind):=by
    by_cases h2:s.kind=2
    ·exact⟨iv 2 2,by simp,by rw[h2];exact .int Ba Ba⟩
    ·by_cases h3:s.kind=3
     ·exact⟨iv 3 3,by simp,by rw[h3];exact .int Ba Ba⟩
     ·by_cases h0:s.kind<=0
      ·exact⟨.int .i64 (.negSucc 9223372036854775807) (.ofNat 0),by simp,.int (by show(-9223372036854775808:Int)<=s.kind;omega) h0⟩
      ·exact⟨iv 5 9223372036854775807,by simp,.int (by show(5:Int)<=s.kind;omega) (by show s.kind<=(9223372036854775807:Int);omega)⟩
   exact VA hj hk1 hk2 hs.op hs.ad hs.wd J hn hS hK hρ hs.a
 refine main.frameC ?_;rintro e S' ⟨⟨R',B',h1,h2⟩,h3⟩;exact⟨[S'.flatten,cb],⟨R',B',_,rfl,⟨S',rfl,h1⟩,h2,h3⟩,by simp⟩
theorem aCn{U:Nat}{c:List CH}(hn:1<=n/\n<=4096)(hX:Yj n ob K U ρ R B c)(hρ:ρ[6]? =some (mb,xb)):
 Fn Tryz.prog 8 [Au mb] [c] (Dv (ι:=HvI) (fun i=>LV 56 1 n (J4 R n) i.1 i.2.1/\i.2.2.1.oneCell'=true/\LV 58 128 n (bs (Jj B R n)) i.2.2.2.1 i.2.2.2.2) (fun i=>.agg [i.1,i.2.2.1,i.2.2.2.1].toArray) (fun i=>[i.2.1,i.2.2.2.2,c])):=by
 obtain⟨S,rfl,hS⟩:=hX;obtain⟨d0,d1,d2,d3,d4,d5,d6,d7,e,h0,h1,h2,h3,h4,h5,h6,h7,hl⟩:=hS.at_.at8;have hone:∀{x v},EM ρ (.Au x 0) v->v.oneCell'=true:=fun h=>by cases h;rfl
 obtain⟨m0,x0,ab,p0,q0⟩:=hS.s0;obtain⟨r0,x1,rb,p1,q1⟩:=hS.s1;subst e;simp only[Ci,DR,AH]at q0 q1;subst q0 q1;cases h6 with| @cells _ _ mb' x6 vs g1 g2=>
 rw[hρ]at g1;cases g1;cases g2 with|cons k0 g2=>cases g2 with|cons k1 g2=>cases g2 with|cons k2 g2=>cases g2 with|cons k3 g2=>cases g2 with|cons k4 g2=>cases g2 with|cons k5 g2=>cases g2 with| @cons _ w6 _ _ k6 g2=>cases g2 with| @cons _ w7 _ _ k7 g2=>cases g2 with| @cons _ w8 _ _ k8 g2=>cases g2 with| @cons _ w9 _ _ k9 g2=>
 cases g2;have o0:=hone k0;have o3:=hone k3;have o4:=hone k4;cases k1 with|Au k1=>
 cases k2 with|Au k2=>
 cases k5 with| @mp _ XB _ k5=>
 rw[p0]at k1;cases k1;rw[p1]at k2;cases k2;refine(aCl (mb:=mb) (mm:=m0) (ab:=ab) (tb:=r0) (qb:=rb) (rb:=XB) (v6:=w6) (v7:=w7) (v8:=w8) (v9:=w9) hn hS.mem.1 hS.rows.2 o0 o3 o4).Cd (F:=[d2,d3,d4,d5,d7]) ?_ ?_
 ·simp only[X0,Au,AW,A0,Am,AQ,AS,AU];exact C2 fun _ x=>by simp only[Ax,Db];omega
 ·rintro e S' ⟨i,hi,rfl,rfl⟩;refine⟨_,⟨i,hi,rfl,rfl⟩,?_⟩;simp only[X0,Au,AW,A0,Am,AQ,AS,AU];exact C2 fun _ x=>by simp only[Ax,Db];omega
def H6:Prop:=Fn Tryz.prog 6 [] [] (E4 (.bool true) [])
theorem VS:∀(X Y:List Int),X.length=Y.length->Jz (List.replicate X.length (.int .u8)) (bs X) (bs Y)=some (decide (X=Y))
 |[],[],_=>rfl
 |[],_::_,h=>by simp at h
 |_::_,[],h=>by simp at h
 |x::X,y::Y,h=>by have ih:=VS X Y (by simpa using h);simp only[Bz,CJ,bs,Ap,Jz,nJ,show I9 .u8 .u8=true from rfl,Bool.and_self,AN]at ih⊢;rw[ih];by_cases h1:x=y<;>by_cases h2:X=Y<;>simp[h1,h2]
theorem aEP:Vl Tryz.prog 58 (List.replicate 128 (.int .u8)):=JD Tryz.underlying58 kR Tryz.underlying5 kR
theorem LH{T:A2}(h:S=T):DV S T []:=by subst h;have:=Nl S ([]:A2);rwa [Am]at this
theorem LV.A7{t CU:Nat}{cs:List Value}{v:Value}{c:List CH}(h:LV t CU n cs v c)(hn:n≠0):∃b cap ex,v=.slice (some ⟨b,0,none⟩) n cap/\c=Sep.A7 b (cs++ex) t:=by
 rcases h with⟨rfl,_⟩|⟨b,cap,ex,rfl,_,_,_,rfl⟩
 ·exact absurd J hn
 ·exact⟨b,cap,ex,rfl,rfl⟩
variable{ex:List Value}
theorem LI{n g:Nat}{r:Rw}(hR:R.length=n)(hr:R[g]? =some r):E1 (J4 R n++ex) (0+g*1)=some (.int .i64 r.1):=by have hg:=(Ae.1 hr).1;rw[D5,BM,Dk,BG (by simp[J4];omega)];simp[J4,Bf,hr];omega
theorem rF(hB:B.length=128*n)(hR:R.length=n):∀(m g:Nat),g<m->m<=n->((bs (Jj B R m)++ex).drop (0+g*128)).take 128=bs (QD B R g):=by
 have hl:∀m,(Jj B R m).length=m*128:=fun m=>by
  induction m with
  |zero=>rfl
  |succ m ih=>rw[MZ,Aq,ih,W2 hB hR,Nat.succ_mul]
 intro m g hg hm;have e1:∀k,k+(g+1)=m->Jj B R m=Jj B R g++(QD B R g++(Jj B R m).drop ((g+1)*128)):=by
  intro k;induction k generalizing m with
  |zero=>intro h;obtain rfl:m=g+1:=I;rw[BJ (by rw[hl];exact Ao _),Am,MZ]
  |succ k ih=>
   intro h;obtain⟨m',rfl⟩:∃m',m=m'+1:=⟨m-1,I⟩
   have:=ih m' I I I;rw[MZ,DT (by rw[hl];omega),<-AU (QD B R g),<-AU (Jj B R g),<-this]
 rw[e1 (m-(g+1)) I,<-H8,<-H8,BM,AU,AU,List.drop_left' (by rw[Aa,hl]),List.take_left' (by rw[Aa,W2 hB hR])]
theorem rG{D:List (List Int)}{p:Option Addr}{l c:Nat}{old:List CH}(h:tL D (.slice p l c) old):D.length=l:=by
 obtain⟨_,⟨rfl,h⟩|⟨_,_,_,h,_⟩⟩:=h
 ·cases h;rfl
 ·cases h;rfl
def NJ(i:Nat):Code->Option Code
 | .block id a=>if id=i then some (.block id a)else NJ i a
 | .seq a b=>match NJ i a with|some x=>some x|none=>NJ i b
 | .cond _ a b=>match NJ i a with|some x=>some x|none=>NJ i b
 | .loop a=>NJ i a
 | .scope a=>NJ i a
 |_=>none
def mh(f:Func)(i:Nat):Code:=match f.body with
 |some c=>(NJ i c).getD .skip
 |none=>.skip
def rI(f:Func)(i:Nat):Code:=match mh f i with
 | .block _ a=>a
 |_=>.skip
theorem aCo{Q:EX}{AG:A2}{n q2 q7 q9 mb sb sk bb bk sb' zJ bb' bk':Nat}{iv lvv hv hv':Value}{sx zK bx':List Value}{R':List Rw}{B':List Int}{M:List Int}{ds ev:Value}(hn:1<=n/\n<=4096)(hR:R.length=n)(hR':R'.length=n)(hB':B'.length=128*n)(htr:Oa R R' B')
 (hq:∀fr,Eo [(1,lvv),(2,Au q2),(5,Au mb),(7,Au q7),(8,iv),(9,Au q9)] fr->Q.go (.exit 2) fr ([A7 q9 [.slice (some ⟨sb',0,none⟩) n zJ,hv',.slice (some ⟨bb',0,none⟩) n bk'] 40,A7 sb' (J4 R' n++zK) 56,A7 bb' (bs (Jj B' R' n)++bx') 58,A7 q7 [.slice (some ⟨sb,0,none⟩) n sk,hv,.slice (some ⟨bb,0,none⟩) n bk] 40,A7 sb (J4 R n++sx) 56,A7 q2 (setW (n:Int) true M ds ev) 27]++AG)):
 CW Tryz.prog Tryz.f3.ntmps (rI Tryz.f3 2) Q [(1,lvv),(2,Au q2),(5,Au mb),(7,Au q7),(8,iv),(9,Au q9),(10,.int .i64 0)] ([A7 q9 [.slice (some ⟨sb',0,none⟩) n zJ,hv',.slice (some ⟨bb',0,none⟩) n bk'] 40,A7 sb' (J4 R' n++zK) 56,A7 bb' (bs (Jj B' R' n)++bx') 58,A7 q7 [.slice (some ⟨sb,0,none⟩) n sk,hv,.slice (some ⟨bb,0,none⟩) n bk] 40,A7 sb (J4 R n++sx) 56,A7 q2 (setW (n:Int) true M ds ev) 27]++AG):=by
 simp only[rI,mh,Tryz.f3,NJ,reduceIte,Nat.reduceEqDiff,B0];refine CW.loop (ι:=Nat) (fun g=>n-g) (fun g=>g<=n) (fun g=>[(1,lvv),(2,Au q2),(5,Au mb),(7,Au q7),(8,iv),(9,Au q9),(10,.int .i64 (g:Int))])
  (fun _=>[A7 q9 [.slice (some ⟨sb',0,none⟩) n zJ,hv',.slice (some ⟨bb',0,none⟩) n bk'] 40,A7 sb' (J4 R' n++zK) 56,A7 bb' (bs (Jj B' R' n)++bx') 58,A7 q7 [.slice (some ⟨sb,0,none⟩) n sk,hv,.slice (some ⟨bb,0,none⟩) n bk] 40,A7 sb (J4 R n++sx) 56,A7 q2 (setW (n:Int) true M ds ev) 27]++AG)
  0 (Cj _) sF (LH J) ?_
 intro g hg;simp only[AQ,AS];refine wW ?_;by_cases hgn:g<n
 ·refine CW.Gp J I ?_;refine wW ?_;obtain⟨r,hr⟩:∃r,R[g]? =some r:=⟨_,AZ I⟩
  obtain⟨r',hr'⟩:∃r,R'[g]? =some r:=⟨_,AZ I⟩
  obtain⟨t1,t2⟩:=htr g r r' hr hr';refine DL.C3 tt g J J J J J J hgn ?_;skip
  refine DL.ld1 tt J J J J J iN (LI hR hr) ?_;refine wW ?_;by_cases a0:r.1=0
  ·have t3:=t2 a0;refine wW ?_;refine DL.C3 tt g J J J J J J hgn ?_;skip
   refine DL.ld1 tt J J J J J iN (LI hR hr) ?_;refine wW ?_;refine DL.C3 tt g J J J J J J hgn ?_;skip
   refine DL.ld1 tt J J J J J iN (LI hR' hr') ?_;refine wW ?_;exact⟨g+1,_,I,I,sF,LH J⟩
  ·refine wW ?_;refine DL.C3 tt g J J J J J J hgn ?_;skip
   refine DL.ld1 tt J J J J J iN (LI hR' hr') ?_;refine wW ?_;by_cases b0:r'.1=0
   ·obtain⟨c1,c2⟩:=t1 a0 b0;have hG:QD B' R' g=BQ 128:=by simp[QD,hr',b0,c2]
    refine wW ?_;refine DL.C3 tt g J J J J J J hgn ?_;skip
    refine DL.ld1 tt J J J J J iN (LI hR hr) ?_;refine wW ?_;refine DL.C3 tt g J J J J J J hgn ?_;skip
    refine DL.HQ tt (cs:=bs (Jj B' R' n)++bx') (vs:=bs (BQ 128)) J J J J J (.tail _ (.tail _ (.head _))) (by rw[<-hG];exact rF hB' hR' n g hgn (Ao _)) (by rw[Aa];rfl) ?_;refine wW ?_;refine DL.val J J J Ba (Q0 aEP true J (xs:=bs (BQ 128)) (ys:=bs (BQ 128)) (b:=true) J J ((VS (BQ 128) (BQ 128) J).trans (by rw[Bq J]))) ?_;refine wW ?_;refine DL.C3 tt g J J J J J J hgn ?_;skip
    refine DL.ld1 tt J J J J J iN (LI hR hr) ?_;refine wW ?_;exact⟨g+1,_,I,I,sF,LH J⟩
   ·refine wW ?_;refine DL.C3 tt g J J J J J J hgn ?_;skip
    refine DL.ld1 tt J J J J J iN (LI hR hr) ?_;refine wW ?_;exact⟨g+1,_,I,I,sF,LH J⟩
 ·refine CW.GM J I ?_;refine wW ?_;exact hq _ sF
end
end Go.Proofs.YtfekkjbdcdnhlaaGreatDoor.Sep
