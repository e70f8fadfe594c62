/- Lemmas for TopScrubs. No condition but those that each states. -/
import Derived.Test.YtfekkjbdcdnhlaaGreatDoorMag
import Derived.Test.YtfekkjbdcdnhlaaGreatDoorMai
set_option linter.all false
set_option maxHeartbeats 8000000
set_option maxRecDepth 100000
namespace Go.Proofs.YtfekkjbdcdnhlaaGreatDoor.Sep
noncomputable section
abbrev Rw:=Int×Int×Int
abbrev P1(r:Rw):List Value:=[.int .i64 r.1,.int .u64 r.2.1,.int .i64 r.2.2]
def Ez(R:List Rw):List Value:=R.flatMap P1
abbrev Ei(tb rb n:Nat):List CH:=A7 tb [.slice (some ⟨rb,0,none⟩) n n] 127
abbrev Em(rb:Nat)(R:List Rw):List CH:=A7 rb (Ez R) 93
theorem F3(R:List Rw):(Ez R).length=3*R.length:=by
 induction R with
 |nil=>rfl
 |cons r R ih=>simp[Ez,P1]at ih⊢;omega
theorem Kw(r:Rw)(R:List Rw):Ez (r::R)=.int .i64 r.1:: .int .u64 r.2.1:: .int .i64 r.2.2::Ez R:=rfl
theorem MQ:∀{R:List Rw} {g:Nat} {r:Rw},R[g]? =some r->(Ez R)[g*3]? =some (.int .i64 r.1)/\(Ez R)[g*3+1]? =some (.int .u64 r.2.1)/\(Ez R)[g*3+2]? =some (.int .i64 r.2.2)
 |x::R,0,r,h=>by simp at h;subst h;simp[Kw]
 |x::R,g+1,r,h=>by
  have:=MQ (R:=R) (g:=g) (r:=r) (by simpa using h)
  simpa[Kw,Nat.succ_mul]using this
theorem JP:∀{R:List Rw} {g:Nat} {r:Rw},R[g]? =some r->(∀s:Int,(Ez R).set (g*3) (.int .i64 s)=Ez (R.set g (s,r.2)))/\(∀o:Int,(Ez R).set (g*3+1) (.int .u64 o)=Ez (R.set g (r.1,o,r.2.2)))/\(∀h:Int,(Ez R).set (g*3+2) (.int .i64 h)=Ez (R.set g (r.1,r.2.1,h)))
 |x::R,0,r,h=>by simp at h;subst h;simp[Kw]
 |x::R,g+1,r,h=>by have:=JP (R:=R) (g:=g) (r:=r) (by simpa using h);simpa[Kw,Nat.succ_mul]using this
variable{tb rb n:Nat}
theorem JC:Fn Tryz.prog 67 [Au tb] [Ei tb rb n] (E4 (.int .i64 n) [Ei tb rb n]):=by refine Fn.of Tryz.func67 J J [_] J ?_;exact wW trivial
variable{j:Nat}
theorem JQ{g:Int}(hg:g=(j:Int))(h:j<n)(hn:n<=4096):Fn Tryz.prog 43 [Au tb,.int .i64 g] [Ei tb rb n] (E4 (.tuple #[.pointer (some ⟨rb,0+j*3,none⟩),.int .i64 0]) [Ei tb rb n]):=by
 subst hg;refine Fn.of Tryz.func43 J J [_,_] J ?_
 (refine wW ?_;refine DL.BS J J J pK (JC) kR aP kO ?_;refine wW ?_)
 refine DL.C3 tt j J J J J J J h ?_;exact wW trivial
theorem OA{g:Int}(hg:g<0\/(n:Int)<=g)(hn:1<=n)(hn2:n<=4096):Fn Tryz.prog 43 [Au tb,.int .i64 g] [Ei tb rb n] (E4 (.tuple #[.pointer none,.int .i64 2]) [Ei tb rb n]):=by
 refine Fn.of Tryz.func43 J J [_,_] J ?_;by_cases h0:g<0
 ·(refine wW ?_;refine DL.BS J J J pK (JC) kR aP kO ?_;exact wW trivial)
 ·(refine wW ?_;refine DL.BS J J J pK (JC) kR aP kO ?_;exact wW trivial)
variable{R:List Rw}{r:Rw}
theorem O4(hr:R[j]? =some r)(n:Nat):E1 (Ez R) (0+j*3)=some (.int .i64 r.1)/\E1 (Ez R) (0+j*3+1)=some (.int .u64 r.2.1)/\E1 (Ez R) (0+j*3+2)=some (.int .i64 r.2.2):=by simpa[D5]using MQ hr
theorem fP(hr:R[j]? =some r):((Ez R).drop (0+j*3)).take 3=P1 r:=by obtain⟨h1,h2,h3⟩:=MQ hr;have hj:j<R.length:=(Ae.1 hr).1;have hl:=F3 R;simp only[BM];rw[CQ I,CQ I,CQ I];rw[AZ I]at h1 h2 h3;simp only[AH]at h1 h2 h3;simp only[EF,List.take_zero,h1,h2,h3,P1]
theorem OB{g:Int}(hg:g=(j:Int))(hR:R.length=n)(hn:n<=4096)(hr:R[j]? =some r):Fn Tryz.prog 24 [Au tb,.int .i64 g] [Ei tb rb n,Em rb R] (E4 (.tuple #[.agg (P1 r).toArray,.int .i64 0]) [Ei tb rb n,Em rb R]):=by
 subst hg;have hj:j<n:=by rw[<-hR];exact(Ae.1 hr).1
 refine Fn.of Tryz.func24 J J [_,_] J ?_
 (refine wW ?_;intro b;refine wW ?_;refine DL.BS J J J pK (JQ J hj hn) kR aP kO ?_;refine wW ?_)
 refine DL.df (vs:=P1 r) tt J J J J J iN (fP hr) J ?_;exact wW trivial
theorem TM{g:Int}(hg:g<0\/(n:Int)<=g)(hn1:1<=n)(hn:n<=4096):Fn Tryz.prog 24 [Au tb,.int .i64 g] [Ei tb rb n,Em rb R] (E4 (.tuple #[.agg (P1 (0,0,0)).toArray,.int .i64 2]) [Ei tb rb n,Em rb R]):=by
 refine Fn.of Tryz.func24 J J [_,_] J ?_
 (refine wW ?_;intro b;refine wW ?_;refine DL.BS J J J pK (OA hg hn1 hn) kR aP kO ?_;exact wW trivial)
theorem OC{g:Int}(hg:g=(j:Int))(hR:R.length=n)(hn:n<=4096)(hr:R[j]? =some r):Fn Tryz.prog 25 [Au tb,.int .i64 g] [Ei tb rb n,Em rb R] (E4 (.bool (decide (r.1=0))) [Ei tb rb n,Em rb R]):=by
 subst hg;have hj:j<n:=by rw[<-hR];exact(Ae.1 hr).1
 obtain⟨h1,h2,h3⟩:=O4 hr n;refine Fn.of Tryz.func25 J J [_] J ?_
 (refine wW ?_;refine DL.BS J J J pK (JQ J hj hn) kR aP kO ?_;refine wW ?_)
 refine DL.ld1 tt J J J J J iN h1 ?_;exact wW trivial
theorem fQ{g:Int}(hg:g<0\/(n:Int)<=g)(hn1:1<=n)(hn:n<=4096):Fn Tryz.prog 25 [Au tb,.int .i64 g] [Ei tb rb n,Em rb R] (E4 (.bool false) [Ei tb rb n,Em rb R]):=by
 refine Fn.of Tryz.func25 J J [_] J ?_
 (refine wW ?_;refine DL.BS J J J pK (OA hg hn1 hn) kR aP kO ?_;exact wW trivial)
def HT(r:Rw)(a b o:Int):Int:=match PT a b with
 |none=>2
 |some is=>if is=decide (o=0)then 2 else if r.1≠a then 7 else if r.2.2>0/\a≠1 then 9 else 0
def H9(R:List Rw)(j:Nat)(r:Rw)(a b o:Int):List Rw:=if HT r a b o=0 then R.set j (b,o,r.2.2)else R
theorem Ln(b:Bool):(sv b)=.agg [.bool b].toArray:=rfl
theorem JR{L:nI}(h:L=lab\/L=rQ)(a b:Int):E9 (Me L 4) (a,b)=(PT a b).map sv:=Z5 L h a b
theorem step_ok{g a z o:Int}(hg:g=(j:Int))(hR:R.length=n)(hn:n<=4096)(hr:R[j]? =some r):Fn Tryz.prog 117 [Au tb,.int .i64 g,.int .i64 a,.int .i64 z,.int .u64 o] [Ei tb rb n,Em rb R] (E4 (.int .i64 (HT r a z o)) [Ei tb rb n,Em rb (H9 R j r a z o)]):=by
 subst hg;have hj:j<n:=by rw[<-hR];exact(Ae.1 hr).1
 obtain⟨h1,h2,h3⟩:=O4 hr n;cases hs:PT a z with
 |none=>
  have hE:HT r a z o=2:=by simp[HT,hs]
  have hR2:H9 R j r a z o=R:=by simp[H9,hE]
  rw[hE,hR2];refine Fn.of Tryz.func117 J J [_] J ?_
  (refine wW ?_;refine DL.BS J J J pK (JQ J hj hn) kR aP kO ?_;refine wW ?_)
  refine DL.B7 J J J pK (steps) kR (fun _=>aP) (fun _=>kO) ?_;rintro⟨mb,L⟩ hL;simp only at hL⊢;have hl:=JR hL a z;rw[hs]at hl;refine wW ?_;refine DL.I0 (a:=(a,z)) (L:=Me L 4) (clk:=10) key2 tt hz J J J J J J J .here ?_;simp only[hl,Option.map_none,CZ,Ln]
  (refine wW ?_;intro b;exact wW trivial)
 |some is=>
  by_cases c1:is=decide (o=0)
  ·have hE:HT r a z o=2:=by simp[HT,hs,c1]
   have hR2:H9 R j r a z o=R:=by simp[H9,hE]
   have hd:(decide ¬(is=decide ¬(o=0)))=true:=by subst c1;by_cases h:o=0<;>simp[h]
   rw[hE,hR2];refine Fn.of Tryz.func117 J J [_] J ?_
   (refine wW ?_;refine DL.BS J J J pK (JQ J hj hn) kR aP kO ?_;refine wW ?_)
   refine DL.B7 J J J pK (steps) kR (fun _=>aP) (fun _=>kO) ?_;rintro⟨mb,L⟩ hL;simp only at hL⊢;have hl:=JR hL a z;rw[hs]at hl;refine wW ?_;refine DL.I0 (a:=(a,z)) (L:=Me L 4) (clk:=10) key2 tt hz J J J J J J J .here ?_;simp only[hl,Option.map_none,CZ,Ln]
   (refine wW ?_;intro b;refine wW ?_)
   rw[hd];exact wW trivial
  have hd:(decide ¬(is=decide ¬(o=0)))=false:=by by_cases h:o=0<;>cases is<;>simp[h]at c1⊢
  by_cases c2:r.1=a
  ·by_cases c3:r.2.2>0/\a≠1
   ·have hE:HT r a z o=9:=by simp only[HT,hs];rw[Ah c1,Ah I,BE c3]
    have hR2:H9 R j r a z o=R:=by simp[H9,hE]
    rw[hE,hR2];refine Fn.of Tryz.func117 J J [_] J ?_
    (refine wW ?_;refine DL.BS J J J pK (JQ J hj hn) kR aP kO ?_;refine wW ?_)
    refine DL.B7 J J J pK (steps) kR (fun _=>aP) (fun _=>kO) ?_;rintro⟨mb,L⟩ hL;simp only at hL⊢;have hl:=JR hL a z;rw[hs]at hl;refine wW ?_;refine DL.I0 (a:=(a,z)) (L:=Me L 4) (clk:=10) key2 tt hz J J J J J J J .here ?_;simp only[hl,Option.map_none,CZ,Ln]
    (refine wW ?_;intro b;refine wW ?_)
    rw[hd];refine wW ?_;refine DL.ld1 tt J J J J J (.there (.there (.there .here))) h1 ?_;refine wW ?_;refine DL.ld1 tt J J J J J (.there (.there (.there .here))) h3 ?_;exact wW trivial
   ·have hE:HT r a z o=0:=by simp only[HT,hs];rw[Ah c1,Ah I,Ah c3]
    have hR2:H9 R j r a z o=R.set j (z,o,r.2.2):=by simp[H9,hE]
    have hr2:(R.set j (z,r.2))[j]? =some (z,r.2):=by rw[List.getElem?_set];simp;omega
    rw[hE,hR2];refine Fn.of Tryz.func117 J J [_] J ?_
    (refine wW ?_;refine DL.BS J J J pK (JQ J hj hn) kR aP kO ?_;refine wW ?_)
    refine DL.B7 J J J pK (steps) kR (fun _=>aP) (fun _=>kO) ?_;rintro⟨mb,L⟩ hL;simp only at hL⊢;have hl:=JR hL a z;rw[hs]at hl;refine wW ?_;refine DL.I0 (a:=(a,z)) (L:=Me L 4) (clk:=10) key2 tt hz J J J J J J J .here ?_;simp only[hl,Option.map_none,CZ,Ln]
    (refine wW ?_;intro b;refine wW ?_)
    rw[hd];refine wW ?_;refine DL.ld1 tt J J J J J (.there (.there (.there .here))) h1 ?_;refine wW ?_;refine DL.ld1 tt J J J J J (.there (.there (.there .here))) h3 ?_;by_cases c4:0<r.2.2
    ·have c5:a=1:=I;refine W ?_;refine DL.Br (cs':=Ez (R.set j (z,r.2))) tt J J J J J uP (by simpa using(JP hr).1 _) J J (by rw[F3];omega) kO ?_;refine W ?_;refine DL.Br (cs':=Ez (R.set j (z,o,r.2.2))) tt J J J J J uP (by simpa using(JP hr2).2.1 _) J J (by rw[F3];simp;omega) kO ?_;exact wW trivial
    ·refine wW ?_;refine DL.Br (cs':=Ez (R.set j (z,r.2))) tt J J J J J uP (by simpa using(JP hr).1 _) J J (by rw[F3];omega) kO ?_;refine W ?_;refine DL.Br (cs':=Ez (R.set j (z,o,r.2.2))) tt J J J J J uP (by simpa using(JP hr2).2.1 _) J J (by rw[F3];simp;omega) kO ?_;exact wW trivial
  ·have hE:HT r a z o=7:=by simp only[HT,hs];rw[Ah c1,BE c2]
   have hR2:H9 R j r a z o=R:=by simp[H9,hE]
   rw[hE,hR2];refine Fn.of Tryz.func117 J J [_] J ?_
   (refine wW ?_;refine DL.BS J J J pK (JQ J hj hn) kR aP kO ?_;refine wW ?_)
   refine DL.B7 J J J pK (steps) kR (fun _=>aP) (fun _=>kO) ?_;rintro⟨mb,L⟩ hL;simp only at hL⊢;have hl:=JR hL a z;rw[hs]at hl;refine wW ?_;refine DL.I0 (a:=(a,z)) (L:=Me L 4) (clk:=10) key2 tt hz J J J J J J J .here ?_;simp only[hl,Option.map_none,CZ,Ln]
   (refine wW ?_;intro b;refine wW ?_)
   rw[hd];refine wW ?_;refine DL.ld1 tt J J J J J (.there (.there (.there .here))) h1 ?_;exact wW trivial
theorem step_bad{g a z o:Int}(hg:g<0\/(n:Int)<=g)(hn1:1<=n)(hn:n<=4096):Fn Tryz.prog 117 [Au tb,.int .i64 g,.int .i64 a,.int .i64 z,.int .u64 o] [Ei tb rb n,Em rb R] (E4 (.int .i64 2) [Ei tb rb n,Em rb R]):=by
 refine Fn.of Tryz.func117 J J [_] J ?_
 (refine wW ?_;refine DL.BS J J J pK (OA hg hn1 hn) kR aP kO ?_;exact wW trivial)
theorem Yz{g:Int}(hg:g=(j:Int))(hR:R.length=n)(hn:n<=4096)(hr:R[j]? =some r)(hh:0<=r.2.2/\r.2.2<=2147483647)(hne:r.2.2≠2147483647):Fn Tryz.prog 126 [Au tb,.int .i64 g] [Ei tb rb n,Em rb R] (E4 (.int .i64 0) [Ei tb rb n,Em rb (R.set j (r.1,r.2.1,r.2.2+1))]):=by
 subst hg;have hj:j<n:=by rw[<-hR];exact(Ae.1 hr).1
 obtain⟨h1,h2,h3⟩:=O4 hr n;refine Fn.of Tryz.func126 J J [_] J ?_
 (refine wW ?_;refine DL.BS J J J pK (JQ J hj hn) kR aP kO ?_;refine wW ?_)
 refine DL.ld1 tt J J J J J (.there .here) h3 ?_;refine wW ?_;refine DL.ld1 tt J J J J J (.there .here) h3 ?_;refine W ?_;refine DL.Br (cs':=Ez (R.set j (r.1,r.2.1,r.2.2+1))) tt J J J J J uP (by simpa using(JP hr).2.2 _) J J (by rw[F3];omega) kO ?_;exact wW trivial
theorem fR{g:Int}(hg:g=(j:Int))(hR:R.length=n)(hn:n<=4096)(hr:R[j]? =some r)(hne:r.2.2=2147483647):Fn Tryz.prog 126 [Au tb,.int .i64 g] [Ei tb rb n,Em rb R] (E4 (.int .i64 12) [Ei tb rb n,Em rb R]):=by
 subst hg;have hj:j<n:=by rw[<-hR];exact(Ae.1 hr).1
 obtain⟨h1,h2,h3⟩:=O4 hr n;refine Fn.of Tryz.func126 J J [_] J ?_
 (refine wW ?_;refine DL.BS J J J pK (JQ J hj hn) kR aP kO ?_;refine wW ?_)
 refine DL.ld1 tt J J J J J (.there .here) h3 ?_;exact wW trivial
theorem fS{g:Int}(hg:g<0\/(n:Int)<=g)(hn1:1<=n)(hn:n<=4096):Fn Tryz.prog 126 [Au tb,.int .i64 g] [Ei tb rb n,Em rb R] (E4 (.int .i64 2) [Ei tb rb n,Em rb R]):=by
 refine Fn.of Tryz.func126 J J [_] J ?_
 (refine wW ?_;refine DL.BS J J J pK (OA hg hn1 hn) kR aP kO ?_;exact wW trivial)
theorem fU{g:Int}(hg:g=(j:Int))(hR:R.length=n)(hn:n<=4096)(hr:R[j]? =some r)(hh:0<=r.2.2/\r.2.2<=2147483647)(hne:r.2.2≠0):Fn Tryz.prog 133 [Au tb,.int .i64 g] [Ei tb rb n,Em rb R] (E4 (.int .i64 0) [Ei tb rb n,Em rb (R.set j (r.1,r.2.1,r.2.2-1))]):=by
 subst hg;have hj:j<n:=by rw[<-hR];exact(Ae.1 hr).1
 obtain⟨h1,h2,h3⟩:=O4 hr n;refine Fn.of Tryz.func133 J J [_] J ?_
 (refine wW ?_;refine DL.BS J J J pK (JQ J hj hn) kR aP kO ?_;refine wW ?_)
 refine DL.ld1 tt J J J J J (.there .here) h3 ?_;refine wW ?_;refine DL.ld1 tt J J J J J (.there .here) h3 ?_;refine W ?_;refine DL.Br (cs':=Ez (R.set j (r.1,r.2.1,r.2.2-1))) tt J J J J J uP (by simpa using(JP hr).2.2 _) J J (by rw[F3];omega) kO ?_;exact wW trivial
theorem fV{g:Int}(hg:g=(j:Int))(hR:R.length=n)(hn:n<=4096)(hr:R[j]? =some r)(hne:r.2.2=0):Fn Tryz.prog 133 [Au tb,.int .i64 g] [Ei tb rb n,Em rb R] (E4 (.int .i64 6) [Ei tb rb n,Em rb R]):=by
 subst hg;have hj:j<n:=by rw[<-hR];exact(Ae.1 hr).1
 obtain⟨h1,h2,h3⟩:=O4 hr n;refine Fn.of Tryz.func133 J J [_] J ?_
 (refine wW ?_;refine DL.BS J J J pK (JQ J hj hn) kR aP kO ?_;refine wW ?_)
 refine DL.ld1 tt J J J J J (.there .here) h3 ?_;exact wW trivial
theorem oJ{g:Int}(hg:g<0\/(n:Int)<=g)(hn1:1<=n)(hn:n<=4096):Fn Tryz.prog 133 [Au tb,.int .i64 g] [Ei tb rb n,Em rb R] (E4 (.int .i64 2) [Ei tb rb n,Em rb R]):=by
 refine Fn.of Tryz.func133 J J [_] J ?_
 (refine wW ?_;refine DL.BS J J J pK (OA hg hn1 hn) kR aP kO ?_;exact wW trivial)
theorem IA{P:Program}{T:Tr}(hT:Dp P T=true){kt sz:Nat}(h:T.get kt=some ⟨.int .i64,sz⟩):NQ P kt (Value.int .i64):=by
 have hu:=HF hT h J;refine⟨⟨_,hu,fun a b=> ?_⟩,fun w a b=> ?_,fun w em a=> ?_,fun a=> ?_⟩
 ·right;simp[Instr.sameNow];by_cases e:a=b<;>simp[e]
 ·simp only[Op.equal,Op.maxDepth];rw[D4 w 9999 kt .i64 .i64 a b hu];by_cases e:a=b<;>simp[e]
 ·rw[show(10000:Nat)=9999+1 from rfl,Instr.checkKey];simp[Ac hu]
 ·simp[Instr.sameBits]
theorem Vq{ρ:Nm}:∀{l:List AV} {r:AV} {vs:List Value},TK l=some r->Bt ρ l vs->∀v∈vs,EM ρ r v
 |[],r,vs,h,_=>by simp[TK]at h
 |[a],r,_,h,.cons (v:=v) h1 .nil=>by intro u hu;obtain rfl:=AP.1 hu;cases a<;>simp[TK]at h;subst h;exact h1
 |a::b::l,r,_,h,.cons (v:=v) h1 h2=>by
  cases a<;>simp only[TK,reduceCtorEq]at h;rename_i k lo hi;split at h
  ·rename_i k' lo' hi' he;cases hk:I9 k k'<;>simp only[hk,AO,AN,reduceCtorEq,AH]at h;obtain rfl:=Fz hk;subst h;have ih:=Vq he h2;have e1:(bif JM lo' lo then lo' else lo)<=lo/\(bif JM lo' lo then lo' else lo)<=lo':=by cases hc:JM lo' lo<;>simp only[AN,AO]<;>(first|rw[HH]at hc|replace hc:=MM hc)<;>omega
   have e2:hi<=(bif JM hi hi' then hi' else hi)/\hi'<=(bif JM hi hi' then hi' else hi):=by cases hc:JM hi hi'<;>simp only[AN,AO]<;>(first|rw[HH]at hc|replace hc:=MM hc)<;>omega
   intro u hu;rcases Ab.1 hu with rfl|hu
   ·cases h1 with|int a1 a2=>exact .int I I
   ·cases ih u hu with|int a1 a2=>exact .int I I
  ·cases h
theorem Vr{ρ:Nm}{a:Int}:∀{L:List (Int×AV)} {L':List (Int×Value×Nat)},L'.map (·.1)=L.map (·.1)->Bt ρ (L.map (·.2)) (L'.map (·.2.1))->match PW a L with|some b=>∃v,E9 L' a=some v/\EM ρ b v|none=>E9 L' a=none
 |[],[],_,_=>rfl
 |[],_::_,h,_=>by simp at h
 |_::_,[],h,_=>by simp at h
 |(i,b)::L,(j,v,m)::L',h,hl=>by
  simp only[Ap,D1]at h hl;cases hl with|cons h1 h2=>
  have ih:=Vr (a:=a) h.2 h2;obtain⟨rfl,_⟩:=h;simp only[PW,E9];cases hq:FN a j with
  |true=>rw[EO]at hq;subst hq;exact⟨v,by simp,h1⟩
  |false=>
   have:¬a=j:=fun e=>by rw[EO.2 e]at hq;cases hq
   simp only[AO,this,Cc];exact ih
theorem Y0{ρ:Nm}{p:Int->Bool}{a:Int}(hp:p a=true):∀{L:List (Int×AV)} {L':List (Int×Value×Nat)} {v:Value},L'.map (·.1)=L.map (·.1)->Bt ρ (L.map (·.2)) (L'.map (·.2.1))->E9 L' a=some v->∃b∈UQ p L,EM ρ b v
 |[],[],v,_,_,h=>by simp[E9]at h
 |[],_::_,_,h,_,_=>by simp at h
 |_::_,[],_,h,_,_=>by simp at h
 |(i,b)::L,(j,u,m)::L',v,h,hl,hv=>by
  simp only[Ap,D1]at h hl;cases hl with|cons h1 h2=>
  obtain⟨rfl,h⟩:=h;simp only[E9]at hv;by_cases e:a=j
  ·subst e;simp at hv;subst hv;exact⟨b,by simp[UQ,hp],h1⟩
  ·rw[Ah e]at hv;obtain⟨c,h3,h4⟩:=Y0 hp h h2 hv;refine⟨c,?_,h4⟩;simp only[UQ];cases p j<;>simp[h3]
theorem Vs{α:Type}[DecidableEq α]{a:α}:∀{L:List (α×Value×Nat)} {v:Value},E9 L a=some v->∃p∈L,p.2.1=v
 |[],_,h=>by simp[E9]at h
 |p::L,v,h=>by
  simp only[E9]at h;by_cases e:a=p.1
  ·rw[BE e]at h;simp at h;exact⟨p,by simp,h⟩
  ·rw[Ah e]at h;obtain⟨q,h1,h2⟩:=Vs h;exact⟨q,by simp[h1],h2⟩
variable{isS:Bool}{b:Option Value}
theorem Bd.aCz{len cap:Nat}{a:Option Value}{x:Value}{l m c:Nat}(h:Bd isS len len a b (some x) l m c)(hc:len<=cap):Bd isS len cap a b (some x) l m c:=by
 cases h with
 |Lc hz hz' h1 h2=>exact .Lc hz hz' h1 I
theorem Bd.uX{len cap:Nat}{a:Option Value}{l m c:Nat}(h:Bd isS len len a b none l m c)(hc:len<=cap):Bd isS len cap a b none l m cap/\l<=m/\m<=len:=by
 cases h with
 |all=>exact⟨.all,I,I⟩
 |lo hz h1=>exact⟨.lo hz h1,I,I⟩
 |hi hz h1=>exact⟨.hi hz I,I,I⟩
 |UH hz hz' h1 h2=>exact⟨.UH hz hz' h1 I,I,I⟩
theorem aD(h:j<n):j∈List.range n:=Ak.2 h
section
variable{P:Program} {T:Tr} {n:Nat} {K:Option A2} {Q:EX} {fr:Fr} {S:A2} {rest:List FO}
variable{i ty:Nat} {pos:String} {af:Array Edge} {gd g:Option (Nat×Bool)} {d:Nat}
variable{ρ:Nm}{t:C7 AV}
theorem uY(hT:Dp P T=true){zt:Nat->Option Value}(hz:∀t v,zt t=some v->(P.info? t).bind (·.zero)=some v){lt:Nat->Option (List Kd)}(hE:∀u ls,lt u=some ls->Vl P u ls)
 {RS:EA}   {hp:C7 AB} {C:Nat->List CH} (hF:Kr ρ t fr) (hA:∀k ab,hp.get k=some ab->Da RS ρ k ab (C k)) {op:Op} {outs:List AV} {L:List Nat} (h:yw T zt lt t hp op=some (outs,L)) (hK:∀k∈L,(hp.get k).isSome=true->C k∈K.getD S)
 (hg:lg fr g=some true) (hn:Nat.blt d n=true) (ES:∀a∈outs,∀v,EM ρ a v->DL P n K Q rest ((d,v)::fr) S):DL P n K Q (⟨i,⟨some d,op,ty,pos,af,gd⟩,g⟩::rest) fr S:=by
 have Q8:∀{op:Op} {a:AV},fG T t op=some a->(∀v,EM ρ a v->DL P n K Q rest ((d,v)::fr) S)->DL P n K Q (⟨i,⟨some d,op,ty,pos,af,gd⟩,g⟩::rest) fr S:=fun he hnx=>by obtain⟨v,h1,h2⟩:=uI hF he;exact DL.p hT (oI he) hg hn h1 (hnx v h2)
 have mem1:∀a:AV,a∈[a]:=fun a=>AP.2 J
 unfold yw at h;split at h;case h_1 u x y u'=>
  unfold uL at h;simp only[ek]at h;split at h
  ·rename_i k l hh hx;split at h
   ·rename_i a hy;obtain⟨vx,hx1,hx2⟩:=DG hF hx;obtain⟨vy,hy1,hy2⟩:=DG hF hy;cases hx2 with| @int _ _ _ z a1 a2=>
    split at h
    ·rename_i j hj;obtain⟨k',rfl⟩:=Iu hj hy2;cases hb:Nat.ble j k.bits<;>rw[hb]at h<;>simp only[AN,AO,reduceCtorEq,AH,Af]at h;obtain⟨rfl,rfl⟩:=h;have hle:=AL hb;refine DL.val J hg J hn (fM J hx1 hy1 I) (ES _ (mem1 _) _ ?_);have e:min ((j:Int).toNat) k.bits=j:=by simp;omega
     rw[e,Vo];exact .int (fO j a1 a2).1 (fO j a1 a2).2
    ·split at h
     ·rename_i k' l' h' _;cases hy2 with| @int _ _ _ s b1 b2=>
      cases hb:Gz 0 l'&&Gz 0 l<;>rw[hb]at h<;>simp only[AN,AO,reduceCtorEq,AH,Af]at h;obtain⟨rfl,rfl⟩:=h;simp only[AI,FU]at hb;refine DL.val J hg J hn (fM J hx1 hy1 I) (ES _ (mem1 _) _ ?_);have hp0:(0:Int)<2^(min s.toNat k.bits):=Int.pow_pos I;refine .int (Int.ediv_nonneg I I) ?_;exact Int.le_trans (Int.ediv_le_self _ I) a2
     ·cases h
   ·cases h
  ·cases h
 case h_2 u x y u'=>
  unfold uM at h;simp only[Ys]at h;split at h
  ·rename_i k l hh hx;split at h
   ·rename_i a hy;obtain⟨vx,hx1,hx2⟩:=DG hF hx;obtain⟨vy,hy1,hy2⟩:=DG hF hy;cases hx2 with| @int _ _ _ z a1 a2=>
    split at h
    ·rename_i j hj;obtain⟨k',rfl⟩:=Iu hj hy2;cases hb:Nat.ble j k.bits<;>rw[hb]at h<;>simp only[AN,AO,reduceCtorEq,AH,Af]at h;obtain⟨rfl,rfl⟩:=h;have hle:=AL hb;refine DL.val J hg J hn (fN J hx1 hy1 I) (ES _ (mem1 _) _ ?_);have e:min ((j:Int).toNat) k.bits=j:=by simp;omega
     rw[e,Vo];have hp0:(0:Int)<=2^j:=Int.le_of_lt (Int.pow_pos I);exact Lj (Int.mul_le_mul_of_nonneg_right a1 hp0) (Int.mul_le_mul_of_nonneg_right a2 hp0)
    ·split at h
     ·rename_i k' l' h' _;cases hy2 with| @int _ _ _ s b1 b2=>
      cases hb:Gz 0 l'<;>rw[hb]at h<;>simp only[AN,AO,reduceCtorEq,AH,Af]at h;obtain⟨rfl,rfl⟩:=h;rw[FU]at hb;exact DL.val J hg J hn (fN J hx1 hy1 I) (ES _ (mem1 _) _ (JA _))
     ·cases h
   ·cases h
  ·cases h
 case h_3 u x y u'=>
  unfold uN at h;split at h
  ·rename_i xs ys hx hy;split at h
   ·rename_i ls hls;split at h
    ·rename_i r hr;simp only[AH,Af]at h;obtain⟨rfl,rfl⟩:=h;obtain⟨vx,hx1,hx2⟩:=DG hF hx;obtain⟨vy,hy1,hy2⟩:=DG hF hy;cases hx2 with|agg hx2=>cases hy2 with|agg hy2=>
     obtain⟨b,hb1,hb2⟩:=QJ hr hx2 hy2;exact DL.val J hg J hn (Q0 (hE u ls hls) false J hx1 hy1 hb1) (ES _ (mem1 _) _ hb2)
    ·cases h
   ·cases h
  ·split at h
   ·rename_i a ha;simp only[AH,Af]at h;obtain⟨rfl,rfl⟩:=h;exact Q8 ha (ES _ (mem1 _))
   ·cases h
 case h_4 u x y u'=>
  unfold uO at h;split at h
  ·rename_i xs ys hx hy;split at h
   ·rename_i ls hls;obtain⟨vx,hx1,hx2⟩:=DG hF hx;obtain⟨vy,hy1,hy2⟩:=DG hF hy;cases hx2 with|agg hx2=>cases hy2 with|agg hy2=>
    split at h
    ·rename_i c hr;simp only[AH,Af]at h;obtain⟨rfl,rfl⟩:=h;obtain⟨b,hb1,hb2⟩:=QJ hr hx2 hy2;cases hb2;exact DL.val J hg J hn (Q0 (hE u ls hls) true J hx1 hy1 hb1) (ES _ (mem1 _) _ .boo)
    ·rename_i hr;simp only[AH,Af]at h;obtain⟨rfl,rfl⟩:=h;obtain⟨b,hb1,hb2⟩:=QJ hr hx2 hy2;exact DL.val J hg J hn (Q0 (hE u ls hls) true J hx1 hy1 hb1) (ES _ (mem1 _) _ .Jh)
    ·cases h
   ·cases h
  ·split at h
   ·rename_i a ha;simp only[AH,Af]at h;obtain⟨rfl,rfl⟩:=h;exact Q8 ha (ES _ (mem1 _))
   ·cases h
 case h_5 u x=>
  unfold uQ at h;split at h
  ·rename_i k off hx;split at h
   ·rename_i ti ht;split at h
    ·rename_i ab hab;split at h
     ·rename_i l hl;split at h
      ·rename_i a hld;simp only[AH,Af]at h;obtain⟨rfl,rfl⟩:=h;obtain⟨vx,hx1,hx2⟩:=DG hF hx;obtain⟨b,cap,vs,ex,bt,hρ,hcl,hC⟩:=(hA k ab hab).cs hl;cases hx2 with|Au E8=>
       rw[hρ]at E8;cases E8;have hm:=hK k (AP.2 J) (by rw[hab];rfl);rw[hC]at hm;obtain⟨kd,sz⟩:=ti;unfold ldC at hld;cases ha:kd.agg with
       |true=>
        simp only[ha,AN]at hld;cases hb:Nat.beq (List.take sz (List.drop off l)).length sz<;>rw[hb]at hld<;>simp only[AN,AO,reduceCtorEq,AH]at hld;subst hld;have hlen:=AK hb;have hc2:=(hcl.drop off).take sz;have hlen2:(List.take sz (List.drop off vs)).length=sz:=by rw[hc2.len];exact hlen
        exact DL.HQ hT hg hn ht ha hx1 hm (Gk hlen2) hlen2 (ES _ (mem1 _) _ (.agg hc2))
       |false=>simp only[ha,AO]at hld;obtain⟨v,h1,h2⟩:=hcl.at hld;exact DL.VZ hT hg hn ht ha hx1 hm (fH h1) (ES _ (mem1 _) _ h2)
      ·cases h
     ·cases h
    ·cases h
   ·cases h
  ·rename_i k off m hx;split at h
   ·rename_i ti ht;split at h
    ·rename_i l bt hab;obtain⟨kd,sz⟩:=ti;cases hag:(kd.agg|| !XX l off m)<;>simp only[hag,AN,AO,reduceCtorEq,AH,Af]at h;obtain⟨rfl,rfl⟩:=h;simp only[Bool.or_eq_false_iff,Bool.not_eq_false']at hag;obtain⟨vx,hx1,hx2⟩:=DG hF hx;cases hx2 with| @dh _ _ _ b0 c0 j hρ hj=>
     have hcb:=hA k _ hab;have hm:=hK k (AP.2 J) (by rw[hab];rfl);generalize hC:C k=ck at hcb hm;cases hcb with| @cells _ _ b c vs E8 hcl=>
     rw[hρ]at E8;cases E8;obtain⟨v,hv,hcv⟩:=hcl.at (Yw hag.2 hj)
     exact DL.VZ hT hg hn ht hag.1 hx1 hm hv (ES _ (mem1 _) _ hcv)
    ·cases h
   ·cases h
  ·rename_i k hx;split at h
   ·rename_i ti ht;split at h
    ·rename_i a bt hab;obtain⟨kd,sz⟩:=ti;cases ha:kd.agg<;>simp only[ha,AN,AO,reduceCtorEq,AH,Af]at h;obtain⟨rfl,rfl⟩:=h;obtain⟨vx,hx1,hx2⟩:=DG hF hx;cases hx2 with| @pin _ q c off hρ hq hoff=>
     have hcb:=hA k _ hab;have hm:=hK k (AP.2 J) (by rw[hab];rfl);generalize hC:C k=ck at hcb hm;cases hcb with|unk E8 hu=>
     rw[hρ]at E8;cases E8;rcases hu with⟨h0,_⟩|⟨_,ex,hex,hal,rfl⟩
     ·exact absurd h0 hq
     ·have hlt:off<ex.length:=I;have hv:E1 ex off=some ex[off]:=by rw[D5,AZ hlt]
      exact DL.VZ hT hg hn ht ha hx1 hm hv (ES _ (mem1 _) _ (hal _ J _ (B1 hlt)))
    ·cases h
   ·cases h
  ·cases h
 case h_6 u m x ok=>
  unfold uR at h;split at h
  ·rename_i k hm;split at h
   ·rename_i kt e sz hu;split at h
    ·rename_i szk hkt;split at h
     ·rename_i z hze;split at h
      ·rename_i lo hi hx;obtain⟨vm,hm1,hm2⟩:=DG hF hm;obtain⟨vx,hx1,hx2⟩:=DG hF hx;cases hm2 with| @mp _ b0 c0 HK=>
       cases hx2 with| @int _ _ _ q a1 a2=>
       split at h
       ·rename_i LL hab;simp only[AH,Af]at h;obtain⟨rfl,rfl⟩:=h;have hcb:=hA k _ hab;have hmem:=hK k (AP.2 J) (by rw[hab];rfl);generalize hC:C k=ck at hcb hmem;cases hcb with| @map clk b c _ L' hρ hkk hll=>
        rw[hρ]at HK;cases HK;have key:(∃v a,E9 L' q=some v/\EM ρ a v/\a∈(bif FN lo hi then(match PW lo LL with|some a=>([a],[])|none=>([],[Is z]))else(UQ (fun i=>Gz lo i&&Gz i hi) LL,[Is z]):List AV×List AV).1)\/(E9 L' q=none/\Is z∈(bif FN lo hi then(match PW lo LL with|some a=>([a],[])|none=>([],[Is z]))else(UQ (fun i=>Gz lo i&&Gz i hi) LL,[Is z]):List AV×List AV).2):=by
         cases hlh:FN lo hi with
         |true=>
          rw[EO]at hlh;obtain rfl:q=lo:=I;have:=Vr (a:=q) hkk hll;cases hf:PW q LL with
          |some a=>rw[hf]at this;obtain⟨v,h1,h2⟩:=this;exact .inl ⟨v,a,h1,h2,by simp⟩
          |none=>rw[hf]at this;exact .inr ⟨this,by simp⟩
         |false=>
          cases hf:E9 L' q with
          |none=>exact .inr ⟨rfl,by simp⟩
          |some v=>obtain⟨a,h1,h2⟩:=Y0 (p:=fun i=>Gz lo i&&Gz i hi) (by simp[FU,a1,a2]) hkk hll hf;exact .inl ⟨v,a,rfl,h2,h1⟩
        generalize(bif FN lo hi then(match PW lo LL with|some a=>([a],[])|none=>([],[Is z]))else(UQ (fun i=>Gz lo i&&Gz i hi) LL,[Is z]):List AV×List AV)=fd at key ES;cases ok with
        |true=>
         refine DL.I0 (IA hT hkt) hT hz hg hn hu hze hm1 hx1 J (In.of hmem) ?_;rcases key with⟨v,a,h1,h2,h3⟩|⟨h1,h3⟩
         ·rw[h1];exact ES (.Ec [a,.boo (some true)]) (by simp[h3]) _ (.Ec (.cons h2 (.cons .boo .nil)))
         ·rw[h1];exact ES (.Ec [Is z,.boo (some false)]) (by simp[h3]) _ (.Ec (.cons (Kt z) (.cons .boo .nil)))
        |false=>
         refine DL.look (IA hT hkt) hT hz hg hn hu hze hm1 hx1 J (In.of hmem) ?_;rcases key with⟨v,a,h1,h2,h3⟩|⟨h1,h3⟩
         ·rw[h1];exact ES a (by simp[h3]) _ h2
         ·rw[h1];exact ES (Is z) (by simp[h3]) _ (Kt z)
       ·rename_i a hab;simp only[AH,Af]at h;obtain⟨rfl,rfl⟩:=h;have hcb:=hA k _ hab;have hmem:=hK k (AP.2 J) (by rw[hab];rfl);generalize hC:C k=ck at hcb hmem;cases hcb with| @Hl clk b c _ L' hρ hll=>
        rw[hρ]at HK;cases HK;have key:(∃v,E9 L' q=some v/\EM ρ a v)\/E9 L' q=none:=by
         cases hf:E9 L' q with
         |none=>exact .inr J
         |some v=>obtain⟨p,h1,h2⟩:=Vs hf;exact .inl ⟨v,rfl,h2▸hll p h1⟩
        cases ok with
        |true=>
         refine DL.I0 (IA hT hkt) hT hz hg hn hu hze hm1 hx1 J (In.of hmem) ?_;rcases key with⟨v,h1,h2⟩|h1
         ·rw[h1];exact ES (.Ec [a,.boo (some true)]) DI _ (.Ec (.cons h2 (.cons .boo .nil)))
         ·rw[h1];exact ES (.Ec [Is z,.boo (some false)]) DI _ (.Ec (.cons (Kt z) (.cons .boo .nil)))
        |false=>
         refine DL.look (IA hT hkt) hT hz hg hn hu hze hm1 hx1 J (In.of hmem) ?_;rcases key with⟨v,h1,h2⟩|h1
         ·rw[h1];exact ES a DI _ h2
         ·rw[h1];exact ES (Is z) DI _ (Kt z)
       ·cases h
      ·cases h
     ·cases h
    ·cases h
   ·cases h
  ·cases h
 case h_7 u x y=>
  unfold uS at h;split at h
  ·rename_i ky lo hi hy;obtain⟨vy,hy1,hy2⟩:=DG hF hy;split at h
   ·rename_i m e CU sz hu;split at h
    ·rename_i k off hx;obtain⟨vx,hx1,hx2⟩:=DG hF hx;cases hx2 with|Au hρ=>
     split at h
     ·rename_i j hj;obtain⟨k',rfl⟩:=Iu hj hy2;cases hb:Nat.blt j m<;>rw[hb]at h<;>simp only[AN,AO,reduceCtorEq,AH,Af]at h;obtain⟨rfl,rfl⟩:=h;exact DL.Fg hT j hg hn hu hx1 hy1 J (by simpa using hb) (ES _ (mem1 _) _ (.Au hρ))
     ·cases hb:Gz 0 lo&&JM hi (Int.ofNat m)<;>rw[hb]at h<;>simp only[AN,AO,reduceCtorEq]at h;cases hy2 with| @int _ _ _ q a1 a2=>
      simp only[AI,FU,HH]at hb;have hb2:hi<(m:Int):=hb.2;obtain⟨j,rfl⟩:=BO (show 0<=q by omega);have hj:j<m:=I;cases hpi:Nat.beq CU 1&&aAe hp k off m<;>rw[hpi]at h<;>simp only[AN,AO,AH,Af]at h;case true=>obtain⟨rfl,rfl⟩:=h;simp only[AI]at hpi;obtain rfl:=AK hpi.1;exact DL.Fg hT j hg hn hu hx1 hy1 J hj (ES _ (mem1 _) _ (by rw[Dk];exact .dh hρ hj))
      obtain⟨rfl,rfl⟩:=h;exact DL.Fg hT j hg hn hu hx1 hy1 J hj (ES (.Au k (off+j*CU)) (A8.2 ⟨j,aD hj,rfl⟩) _ (.Au hρ))
    ·cases h
   ·rename_i e CU sz hu;split at h
    ·rename_i j hj;obtain⟨k',rfl⟩:=Iu hj hy2;split at h
     ·rename_i k off len _ hx;obtain⟨vx,hx1,hx2⟩:=DG hF hx;cases hx2 with|sl hρ=>
      cases hb:Nat.blt j len<;>rw[hb]at h<;>simp only[AN,AO,reduceCtorEq,AH,Af]at h;obtain⟨rfl,rfl⟩:=h;exact DL.C3 hT j hg hn hu hx1 hy1 J (by simpa using hb) (ES _ (mem1 _) _ (.Au hρ))
     ·rename_i k len hx;obtain⟨vx,hx1,hx2⟩:=DG hF hx;cases hx2 with|G3 hρ hc=>
      cases hb:Nat.blt j len<;>rw[hb]at h<;>simp only[AN,AO,reduceCtorEq,AH,Af]at h;obtain⟨rfl,rfl⟩:=h;have:=DL.C3 (Q:=Q) (K:=K) (S:=S) (rest:=rest) (i:=i) (ty:=ty) (pos:=pos) (af:=af) (gd:=gd) hT j hg hn hu hx1 hy1 J (by simpa using hb) (by rw[BM];exact ES _ (mem1 _) _ (.Au hρ));exact this
     ·rename_i k off len hx;obtain⟨vx,hx1,hx2⟩:=DG hF hx;cases hx2 with|O3 hρ ho hc=>
      cases hb:Nat.blt j len<;>rw[hb]at h<;>simp only[AN,AO,reduceCtorEq,AH,Af]at h;obtain⟨rfl,rfl⟩:=h;have hjl:j<len:=by simpa using hb
      obtain rfl:=ho I;exact DL.C3 hT j hg hn hu hx1 hy1 J hjl (ES _ (mem1 _) _ (.Au hρ))
     ·cases h
    ·cases h
   ·cases h
  ·rename_i kk mm hy;obtain⟨vy,hy1,hy2⟩:=DG hF hy;split at h
   ·rename_i e sz hu;split at h
    ·rename_i k bb j hx;obtain⟨vx,hx1,hx2⟩:=DG hF hx;cases hb:Nat.beq bb mm<;>rw[hb]at h<;>simp only[AN,AO,reduceCtorEq,AH,Af]at h;obtain⟨rfl,rfl⟩:=h;obtain rfl:=AK hb;cases hx2 with| @GY _ _ _ _ _ q c q3 c3 _ hρ P2 hv=>
     cases hy2 with| @cnt _ _ _ _ q2 c2 IJ f1 _=>
     obtain⟨q',c',g1,g2⟩:=f1 J;rw[P2]at g1;cases g1;rcases hv with⟨rfl,rfl,hx0⟩|⟨hq,off,len,cap,rfl,h2,h3,h4,h5,h6⟩
     ·have:=hx0 J;omega
     ·have h7:=h6 J;exact DL.C3 hT (GQ q2+0) hg hn hu hx1 hy1 J I (ES _ (mem1 _) _ (.pin hρ hq I))
    ·cases h
   ·cases h
  ·cases h
 case h_8 u x y=>
  unfold uT at h;split at h
  ·rename_i ky lo hi hy;obtain⟨vy,hy1,hy2⟩:=DG hF hy;split at h
   ·rename_i m e sz hu;split at h
    ·rename_i ti hte;cases hag:ti.kd.agg<;>rw[hag]at h<;>simp only[AN,AO,reduceCtorEq]at h;split at h
     ·rename_i l hx;obtain⟨vx,hx1,hx2⟩:=DG hF hx;cases hx2 with| @agg _ vs hl=>
      split at h
      ·rename_i j hj;obtain⟨k',rfl⟩:=Iu hj hy2;cases hb:Nat.blt j m<;>rw[hb]at h<;>simp only[AN,AO,reduceCtorEq]at h;split at h
       ·rename_i a ha;simp only[AH,Af]at h;obtain⟨rfl,rfl⟩:=h;obtain⟨v,h1,h2⟩:=hl.at ha;rw[D5]at h1;exact DL.eK (sz':=0) hT hg hn hu hte hag hx1 hy1 J (by simpa using hb) h1 (ES _ (mem1 _) _ h2)
       ·cases h
      ·cases hb:Gz 0 lo&&JM hi (Int.ofNat m)&&Nat.beq l.length m<;>rw[hb]at h<;>simp only[AN,AO,reduceCtorEq]at h;split at h
       ·rename_i a ha;simp only[AH,Af]at h;obtain⟨rfl,rfl⟩:=h;cases hy2 with| @int _ _ _ q a1 a2=>
        simp only[AI,FU,HH]at hb;have hlen:=AK hb.2;have hb2:hi<(m:Int):=hb.1.2;obtain⟨j,rfl⟩:=BO (show 0<=q by omega);have hj:j<m:=I;have hjv:j<vs.length:=by rw[hl.len];omega
        exact DL.eK (sz':=0) hT hg hn hu hte hag hx1 hy1 J hj (AZ hjv) (ES _ (mem1 _) _ (Vq ha hl _ (B1 hjv)))
       ·cases h
     ·cases h
    ·cases h
   ·rename_i sz hu;split at h
    ·rename_i s hx;obtain⟨vx,hx1,hx2⟩:=DG hF hx;cases hx2;split at h
     ·rename_i j hj;obtain⟨k',rfl⟩:=Iu hj hy2;split at h
      ·rename_i b hb;simp only[AH,Af]at h;obtain⟨rfl,rfl⟩:=h;rw[D5]at hb;refine DL.tZ hT hg hn hu hx1 hy1 J (u:=b) ?_ (ES _ (mem1 _) _ (.int (A4 _) (A4 _)));have hlt:=(Ae.1 hb).1;have hlt2:j<s.size:=by rw[Dt]at hlt;exact hlt
       rw[getElem?_pos s j hlt2];have h3:=(Ae.1 hb).2;simp only[Array.getElem_toList]at h3;exact congrArg some h3
      ·cases h
     ·cases h
    ·cases h
   ·cases h
  ·cases h
 case h_9 u x lo hi mx=>
  rcases h9:oH T zt lt t hp u x lo hi mx with _|r9
  ·rw[h9]at h;simp only at h;unfold fJ at h;split at h
   ·cases h
   ·split at h
    ·cases h
    ·split at h
     ·cases h
     ·rename_i y;split at h
      ·rename_i m hy;split at h
       ·rename_i e CU sz hu;split at h
        ·rename_i k bb j ez hx;cases hb:Nat.beq bb m&&Nat.beq ez CU<;>rw[hb]at h<;>simp only[AN,AO,reduceCtorEq,AH,Af]at h;obtain⟨rfl,rfl⟩:=h;simp only[AI]at hb;obtain rfl:=AK hb.1;obtain rfl:=AK hb.2;obtain⟨vx,hx1,hx2⟩:=DG hF hx;obtain⟨vy,hy1,hy2⟩:=DG hF hy;cases hx2 with|GY hρ P2 hv=>
         cases hy2 with| @idx _ _ _ z IJ z0 z1=>
         rw[P2]at IJ;cases IJ;have ez1:z=((z.toNat:Nat):Int):=(Int.toNat_of_nonneg z0).symm;rcases hv with⟨rfl,rfl,hx0⟩|⟨hq,off,len,cap,rfl,h2,h3,h4,h5,h6⟩
         ·have hz0:z.toNat<=0:=by have:=hx0 J;omega
          refine DL.eJ hT hg hn hu hx1 (show F7 fr (some y)=some (some (.int .i64 z)) by simp[F7,hy1]) J J (.lo ez1 hz0) (ES _ (mem1 _) _ (.GY hρ P2 (.inl ⟨rfl,?_,fun h=>by cases h⟩)));simp
         ·have h7:=h6 J;refine DL.Qj hT hg hn hu hx1 (show F7 fr (some y)=some (some (.int .i64 z)) by simp[F7,hy1]) J J (.lo (l:=z.toNat) ez1 I) (ES _ (mem1 _) _ (.GY hρ P2 (.inr ⟨hq,_,_,_,rfl,I,I,?_,(fun h=>by cases h),(fun h=>by cases h)⟩)));have hzl:z.toNat<=cap:=I;split
          ·rename_i hc;rw[hc,Nat.sub_self,Nat.zero_mul];have:=Cj (cap*ez);omega
          ·rw[Nat.sub_mul];have:=DZ ez hzl;omega
        ·cases h
       ·cases h
      ·cases h
  rw[h9]at h;replace h:=h9.trans h;unfold oH at h;split at h
  ·rename_i SQ hlo;split at h
   ·rename_i SG hhi;split at h
    ·rename_i Qi hmx;have uZ:=Qz hF hlo;have ub:=Qz hF hhi;have nK:=Qz hF hmx;split at h
     ·rename_i e CU sz hu;split at h
      ·rename_i k off len cap hx;obtain⟨vx,hx1,hx2⟩:=DG hF hx;cases hx2 with|sl hρ=>
       cases hcap':Nat.ble len cap<;>rw[hcap']at h<;>simp only[AN,AO,reduceCtorEq]at h;have hcap:=AL hcap';split at h
       ·rename_i l m c hbd;simp only[AH,Af]at h;obtain⟨rfl,rfl⟩:=h;obtain⟨a,b,dd,e1,e2,e3,hB,h1,h2⟩:=NZ (isS:=true) hcap hbd uZ ub nK;refine DL.Qj hT hg hn hu hx1 e1 e2 e3 hB (ES _ (mem1 _) _ ?_);rw[GH];by_cases hcl:c=l
        ·simp only[hcl,decide_true,AN,C9];exact .sl hρ
        ·simp only[hcl,decide_false,AO,Cc];exact .sl hρ
       ·cases h
      ·rename_i k len hx;obtain⟨vx,hx1,hx2⟩:=DG hF hx;cases hx2 with| @G3 _ _ b0 c0 hρ hc=>
       split at h
       ·rename_i cc;split at h
        ·rename_i l m c hbd;simp only[AH,Af]at h;obtain⟨rfl,rfl⟩:=h;obtain⟨a,b,dd,e1,e2,e3,hB,h1,h2⟩:=NZ (isS:=true) (Ao _) hbd uZ ub nK;have hl0:l=0/\∃x,dd=some x:=by obtain⟨kk,hkk⟩:=nK;rw[hkk]at e3;cases e3;cases hB;exact⟨rfl,_,rfl⟩
         obtain⟨rfl,x,rfl⟩:=hl0;have:=hB.aCz hc;refine DL.Qj hT hg hn hu hx1 e1 e2 e3 this (ES _ (mem1 _) _ ?_);simp only[Nat.zero_mul,CV,Df,ite_self];exact .sl hρ
        ·cases h
       ·have hd:∀{a b dd:Option Value},F7 fr mx=some dd->dd=none:=fun h=>by have:F7 fr mx=some none:=nK;rw[this]at h;cases h;rfl
        split at h
        ·rename_i m c hbd;simp only[AH,Af]at h;obtain⟨rfl,rfl⟩:=h;obtain⟨a,b,dd,e1,e2,e3,hB,h1,h2⟩:=NZ (isS:=true) (Ao _) hbd uZ ub nK;obtain rfl:=hd (a:=a) (b:=b) e3;have hm:=hB.uX hc;refine DL.Qj hT hg hn hu hx1 e1 e2 e3 hm.1 (ES _ (mem1 _) _ ?_);simp only[Nat.zero_mul,CV,Df,ite_self];exact .G3 hρ I
        ·rename_i l m c _ hbd;simp only[AH,Af]at h;obtain⟨rfl,rfl⟩:=h;obtain⟨a,b,dd,e1,e2,e3,hB,h1,h2⟩:=NZ (isS:=true) (Ao _) hbd uZ ub nK;obtain rfl:=hd (a:=a) (b:=b) e3;have hm:=hB.uX hc;refine DL.Qj hT hg hn hu hx1 e1 e2 e3 hm.1 (ES _ (mem1 _) _ (.O3 hρ (fun hpos=> ?_) ?_))
         ·rw[Ah (by have:0<m-l:=hpos;omega),BM];rfl
         ·show m-l<=c0-l;omega
        ·cases h
      ·rename_i k off len hx;obtain⟨vx,hx1,hx2⟩:=DG hF hx;cases hx2 with| @O3 _ _ _ b0 c0 o cap hρ ho hc=>
       split at h
       ·cases h
       ·have hd:∀{a b dd:Option Value},F7 fr mx=some dd->dd=none:=fun h=>by have:F7 fr mx=some none:=nK;rw[this]at h;cases h;rfl
        split at h
        ·rename_i l m c hbd;simp only[AH,Af]at h;obtain⟨rfl,rfl⟩:=h;obtain⟨a,b,dd,e1,e2,e3,hB,h1,h2⟩:=NZ (isS:=true) (Ao _) hbd uZ ub nK;obtain rfl:=hd (a:=a) (b:=b) e3;have hm:=hB.uX hc;refine DL.Qj hT hg hn hu hx1 e1 e2 e3 hm.1 (ES _ (mem1 _) _ (.O3 hρ (fun hpos=> ?_) ?_))
         ·have:0<m-l:=hpos;rw[Ah I,ho I];rfl
         ·show m-l<=cap-l;omega
        ·cases h
      ·rename_i hx;obtain⟨vx,hx1,hx2⟩:=DG hF hx;cases hx2;split at h
       ·rename_i l m c hbd;simp only[AH,Af]at h;obtain⟨rfl,rfl⟩:=h;obtain⟨a,b,dd,e1,e2,e3,hB,h1,h2⟩:=NZ (isS:=true) (Ao _) hbd uZ ub nK;exact DL.eJ hT hg hn hu hx1 e1 e2 e3 hB (ES _ (mem1 _) _ .val)
       ·cases h
      ·cases h
     ·rename_i N e CU sz hu;split at h
      ·rename_i k off hx;obtain⟨vx,hx1,hx2⟩:=DG hF hx;cases hx2 with|Au hρ=>
       split at h
       ·rename_i l m c hbd;simp only[AH,Af]at h;obtain⟨rfl,rfl⟩:=h;obtain⟨a,b,dd,e1,e2,e3,hB,h1,h2⟩:=NZ (isS:=false) (Ao _) hbd uZ ub nK;refine DL.Ld hT hg hn hu hx1 e1 e2 e3 hB (ES _ (mem1 _) _ ?_);rw[GH];by_cases hcl:c=l
        ·simp only[hcl,decide_true,AN,C9];exact .sl hρ
        ·simp only[hcl,decide_false,AO,Cc];exact .sl hρ
       ·cases h
      ·cases h
     ·cases h
    ·cases h
   ·cases h
  ·cases h
 case h_10 u x=>
  unfold fK at h;split at h
  ·rename_i N e CU sz hu;cases hN:Nat.ble 1 N<;>rw[hN]at h<;>simp only[AN,AO,reduceCtorEq]at h;have hN1:=AL hN;split at h
   ·rename_i k off len _ hx;obtain⟨vx,hx1,hx2⟩:=DG hF hx;cases hx2 with|sl hρ=>
    cases hb:Nat.ble N len<;>rw[hb]at h<;>simp only[AN,AO,reduceCtorEq,AH,Af]at h;obtain⟨rfl,rfl⟩:=h;exact DL.yu hT hg hn hu hx1 (AL hb) (ES _ (mem1 _) _ (.Au hρ))
   ·rename_i k len hx;obtain⟨vx,hx1,hx2⟩:=DG hF hx;cases hx2 with|G3 hρ hc=>
    cases hb:Nat.ble N len<;>rw[hb]at h<;>simp only[AN,AO,reduceCtorEq,AH,Af]at h;obtain⟨rfl,rfl⟩:=h;exact DL.yu hT hg hn hu hx1 (AL hb) (ES _ (mem1 _) _ (.Au hρ))
   ·rename_i k off len hx;obtain⟨vx,hx1,hx2⟩:=DG hF hx;cases hx2 with|O3 hρ ho hc=>
    cases hb:Nat.ble N len<;>rw[hb]at h<;>simp only[AN,AO,reduceCtorEq,AH,Af]at h;obtain⟨rfl,rfl⟩:=h;have:=AL hb;obtain rfl:=ho I;exact DL.yu hT hg hn hu hx1 this (ES _ (mem1 _) _ (.Au hρ))
   ·cases h
  ·cases h
 case h_11 u parts=>
  unfold fL at h;split at h
  ·rename_i ti hu;cases hag:ti.kd.agg<;>rw[hag]at h<;>simp only[AN,AO,reduceCtorEq]at h;split at h
   ·rename_i zs hzs;split at h
    ·rename_i ps hps;split at h
     ·rename_i rs hrs;simp only[AH,Af]at h;obtain⟨rfl,rfl⟩:=h;obtain⟨vs,h1,h2⟩:=NY hF hps;have hl:∀l:List Value,Bt ρ (l.map Jy) l:=fun l=>by
       induction l with
       |nil=>exact .nil
       |cons v l ih=>exact .cons (KA v) ih
      obtain⟨us,h3,h4⟩:=Vn hrs h2 (hl zs.toList);have:=DL.build (Q:=Q) (K:=K) (S:=S) (rest:=rest) (i:=i) (ty:=ty) (pos:=pos) (af:=af) (gd:=gd) (parts:=parts.toList) (zs:=zs.toList) hz hT hg hn hu hag (by simpa using hzs) h1 h3 (ES _ (mem1 _) _ (.agg h4));simpa using this
     ·cases h
    ·cases h
   ·cases h
  ·cases h
 case h_12=>
  split at h
  ·rename_i a ha;simp only[AH,Af]at h;obtain⟨rfl,rfl⟩:=h;exact Q8 ha (ES _ (mem1 _))
  ·cases h
end
structure St where
 fr:C7 AV
 hp:C7 AB
 nx:Nat
 md:List Nat
inductive Ex
 |nor|ret
 |ex (id:Nat)
 |Eu (v:AV)
abbrev Ej:=List (Ex×St)
inductive R1
 |val (v:AV) (s:St)
 |Eu (v:AV) (s:St)
structure FI where
 body:Code
 results:List ResultVar
 n:Nat
structure GI where
 T:Tr
 zt:Nat->Option Value
 lt:Nat->Option (List Kd)
 el:Nat->Option (Nat×Nat)
 ord:Nat->Nat->List Nat
 ft:Nat->Option FI
 ct:Nat->Option (List AV->St->Option (List R1))
def St.put(s:St)(d:Option Nat)(a:AV):St:=match d with
 |some d=>{s with fr:=s.fr.put 24 d (some a)}
 |none=>s
def St.new(s:St)(ab:AB):St:={s with hp:=s.hp.put 24 s.nx (some ab),nx:=Nat.succ s.nx}
def St.set(s:St)(k:Nat)(ab:AB):St:={s with hp:=s.hp.put 24 k (some ab),md:=k::s.md}
def St.del(s:St)(k:Nat):St:={s with hp:=s.hp.put 24 k none,md:=k::s.md}
def St.room(s:St):Bool:=Nat.blt s.nx 16777216
def SY:AV->Bool
 | .agg _| .Ec _=>false
 | .val v=>v.oneCell'
 |_=>true
def leC:AV->AV->Bool
 |a,.junk=>SY a
 | .int k l h,.int k' l' h'=>I9 k k'&&Gz l' l&&Gz h h'
 | .boo _,.boo none=>true
 | .boo (some b),.boo (some c)=>b==c
 | .Au n o,.Au m q=>Nat.beq n m&&Nat.beq o q
 | .G3 n l,.G3 m k=>Nat.beq n m&&Nat.beq l k
 | .sl n o l c,.sl m q k d=>Nat.beq n m&&Nat.beq o q&&Nat.beq l k&&Nat.beq c d
 | .mp n,.mp m=>Nat.beq n m
 | .GY n b j e x,.GY m c k f y=>Nat.beq n m&&Nat.beq b c&&Nat.ble j k&&Nat.beq e f&&(Nat.beq x y||Nat.beq y 0)
 | .cnt n j f m,.cnt n' j' f' m'=>Nat.beq n n'&&Nat.beq j j'&&(Nat.beq f' 0||(Nat.beq f f'&&Nat.beq m m'))
 |_,_=>false
def fW:List AV->List AV->Bool
 |[],[]=>true
 |a::l,b::m=>leC a b&&fW l m
 |_,_=>false
def P3:AV->AV->Bool
 | .agg l,.agg m=>fW l m
 |a,b=>leC a b
def Lp{α β:Type}:List α->(α->Option (List β))->Option (List β)
 |[],_=>some []
 |x::r,f=>match f x with
  |some l=>match Lp r f with
   |some m=>some (l++m)
   |none=>none
  |none=>none
def Hj(o:Ej)(f:St->Option Ej):Option Ej:=Lp o fun x=>match x.1 with
 | .nor=>f x.2
 |e=>some [(e,x.2)]
def Ld:AV->Option (Nat×Nat×Nat)
 | .sl n off len _=>some (n,off,len)
 | .G3 n len=>some (n,0,len)
 | .O3 n off len=>bif Nat.blt 0 len then some (n,off,len)else none
 |_=>none
def uc(hp:C7 AB)(CU:Nat):AV->Option (Nat×List AV)
 | .val (.slice none 0 _)=>some (0,[])
 | .val (.string s)=>bif Nat.beq CU 1 then some (s.data.toList.length,s.data.toList.map fun b=>.int .u8 (Int.ofNat b.toNat) (Int.ofNat b.toNat))else none
 |a=>match Ld a with
  |some (n,off,len)=>match hp.get n with
   |some ab=>match ab.cs with
    |some l=>bif Nat.beq (List.take (Nat.mul len CU) (List.drop off l)).length (Nat.mul len CU)&&(List.take (Nat.mul len CU) (List.drop off l)).all SY then some (len,List.take (Nat.mul len CU) (List.drop off l))else none
    |none=>none
   |none=>none
  |none=>none
def AB.with(l:List AV):AB->AB
 | .cells _ t=>.cells l t
 | .grown _ t e=>.grown l t e
 |b=>b
def TN(CU:Nat):Nat->List (Nat×List AV)->Option (List AV)
 |_,[]=>some []
 |k,(i,l)::r=>bif Nat.beq i k&&Nat.beq l.length CU then(match TN CU (Nat.succ k) r with|some m=>some (l++m)|none=>none)else none
def TO(a:Int)(v:AV):List (Int×AV)->List (Int×AV)
 |[]=>[(a,v)]
 |x::r=>bif FN a x.1 then(a,v)::r else x::TO a v r
def TP(a:Int):List (Int×AV)->List (Int×AV)
 |[]=>[]
 |x::r=>bif FN a x.1 then r else x::TP a r
def Xa:Kd->AV->Bool
 | .str,.val (.string _)=>true
 | .sl _ _,.val (.string _)=>false
 | .sl _ _,_=>true
 |_,_=>false
def ud(E:GI)(t tx:Nat)(base x:AV)(s:St):Option (List R1):=
 match E.T.get t with
 |some ⟨.sl e CU,_⟩=>match E.el e with
  |some (Q9,GN)=>bif Nat.beq CU Q9&&s.room then
   (match E.T.get tx with
   |some ⟨kx,_⟩=>bif Xa kx x then
    (match uc s.hp CU x with
    |some (m,news)=>match base with
     | .val (.slice none 0 0)=>bif Nat.beq m 0 then some [.val base s]else bif Nat.ble (Nat.mul m GN) 140737488355328&&Nat.ble m 9223372036854775807 then some [.val (.G3 s.nx m) (s.new (.grown news e CU))]else none
     | .sl n off 0 0=>bif Nat.beq m 0 then none else bif Nat.ble (Nat.mul m GN) 140737488355328&&Nat.ble m 9223372036854775807 then some [.val (.G3 s.nx m) (s.new (.grown news e CU))]else none
     | .sl n 0 len cap=>match s.hp.get n with
      |some (.cells l bt)=>bif Nat.beq bt e&&Nat.ble len cap&&Nat.beq l.length (Nat.mul cap CU)&&Nat.ble (Nat.mul (Nat.add len m) GN) 140737488355328&&Nat.ble (Nat.add len m) 9223372036854775807 then some [.val (.G3 s.nx (Nat.add len m)) ((s.del n).new (.grown (List.take (Nat.mul len CU) l++news) e CU))]else none
      |_=>none
     | .G3 n len=>match s.hp.get n with
      |some (.grown l bt ez)=>bif Nat.beq bt e&&Nat.beq ez CU&&Nat.ble (Nat.mul len CU) l.length&&Nat.ble (Nat.mul (Nat.add len m) GN) 140737488355328&&Nat.ble (Nat.add len m) 9223372036854775807 then some [.val (.G3 s.nx (Nat.add len m)) ((s.del n).new (.grown (List.take (Nat.mul len CU) l++news) e CU))]else none
      |_=>none
     | .GY n b j ez x=>match s.hp.get n with
      |some (.unk none bt)=>bif Nat.beq x 1&&Nat.beq bt e&&Nat.beq ez CU&&Nat.blt 0 m&&Nat.ble (Nat.mul (Nat.add (Nat.add 4294967296 j) m) GN) 140737488355328&&Nat.ble (Nat.add (Nat.add 4294967296 j) m) 9223372036854775807 then some [.val (.GY s.nx b (Nat.add j m) ez 1) ((s.del n).new (.unk none e))]else none
      |_=>none
     |_=>none
    |none=>none)else none
   |none=>none)else none
  |none=>none
 |_=>none
def uf(E:GI)(t tx:Nat)(base x:AV)(s:St):Option (List R1):=
 match x with
 | .int _ lo hi=>bif FN lo hi&&Gz 0 lo then(match E.T.get tx with
  |some ⟨.int _,_⟩=>(match E.T.get t with
   |some ⟨.sl e 1,_⟩=>(match E.el e with
    |some (1,GN)=>(match base with
     | .val (.slice none 0 0)=>(match E.zt e with
      |some z=>bif s.room&&Nat.blt 0 lo.toNat&&Nat.ble (Nat.mul lo.toNat GN) 140737488355328&&Nat.ble lo.toNat 9223372036854775807 then some [.val (.G3 s.nx lo.toNat) (s.new (.grown (List.replicate lo.toNat (GU (Is z))).flatten e 1))]else none
      |none=>none)
     | .G3 n len=>bif Nat.beq lo.toNat 0&&Nat.ble len 9223372036854775807 then some [.val (.G3 n len) s]else none
     |_=>none)
    |_=>none)
   |_=>none)
  |_=>none)else none
 |_=>none
def ug(E:GI)(t:Nat)(dst src:AV)(s:St):Option (List R1):=
 match E.T.get t with
 |some ⟨.sl e 1,_⟩=>match E.el e with
  |some (1,_)=>match Ld dst with
   |some (n,off,dl)=>match s.hp.get n with
    |some ab=>match ab.cs with
     |some l=>match Ld src with
      |some (n2,off2,sl)=>match s.hp.get n2 with
       |some rU=>match rU.cs with
        |some l2=>
         let m:=bif Nat.ble sl dl then sl else dl
         let vs:=List.take m (List.drop off2 l2)
         bif Nat.beq vs.length m&&vs.all SY&&Nat.ble (Nat.add off m) l.length then some [.val (.int .i64 (Int.ofNat m) (Int.ofNat m)) (s.set n (ab.with (List.take off l++vs++List.drop (Nat.add off m) l)))]else none
        |none=>none
       |none=>none
      |none=>none
     |none=>none
    |none=>none
   |none=>none
  |_=>none
 |_=>none
def M6(s:ByteArray):List AV:=s.data.toList.map fun b=>.int .u8 (Int.ofNat b.toNat) (Int.ofNat b.toNat)
def uh(E:GI)(t:Nat)(dst:AV)(str:ByteArray)(s:St):Option (List R1):=
 match E.T.get t with
 |some ⟨.sl e 1,_⟩=>match E.el e with
  |some (1,_)=>match Ld dst with
   |some (n,off,dl)=>match s.hp.get n with
    |some ab=>match ab.cs with
     |some l=>bif Nat.ble (M6 str).length dl&&Nat.ble (Nat.add off (M6 str).length) l.length then some [.val (.int .i64 (Int.ofNat (M6 str).length) (Int.ofNat (M6 str).length)) (s.set n (ab.with (List.take off l++M6 str++List.drop (Nat.add off (M6 str).length) l)))]else none
     |none=>none
    |none=>none
   |_=>none
  |_=>none
 |_=>none
def Xb(E:GI)(u:Nat)(x y:AV)(s:St):Option (List R1):=
 match x with
 | .Au k off=>match s.hp.get k with
  |some ab=>match ab.cs with
   |some l=>match E.T.get u with
    |some ti=>
     let vs:=GU y
     bif Nat.beq vs.length ti.size&&vs.all SY&&Nat.ble (Nat.add off vs.length) l.length then some [.val (.val undef) (s.set k (ab.with (List.take off l++vs++List.drop (Nat.add off vs.length) l)))]else none
    |none=>none
   |none=>none
  |none=>none
 | .dh k off m=>match s.hp.get k with
  |some (.cells l t)=>match E.T.get u with
   |some ti=>match y with
    | .int .u64 lo hi=>bif Nat.beq ti.size 1&&Gz 0 lo&&Gz hi 18446744073709551615&&XX l off m then some [.val (.val undef) (s.set k (.cells l t))]else none
    |_=>none
   |none=>none
  |_=>none
 |_=>none
def ui(E:GI)(u:Nat)(m k v:AV)(s:St):Option (List R1):=
 match m with
 | .mp n=>match E.T.get u with
  |some ⟨.mp kt e,_⟩=>match E.T.get kt with
   |some ⟨.int .i64,_⟩=>match s.hp.get n with
    |some (.map L)=>match k with
     | .int .i64 lo hi=>bif FN lo hi then some [.val (.val undef) (s.set n (.map (TO lo v L)))]else none
     |_=>none
    |some (.Hl a)=>match k with
     | .int .i64 _ _=>bif P3 v a then some [.val (.val undef) (s.set n (.Hl a))]else none
     |_=>none
    |_=>none
   |_=>none
  |_=>none
 |_=>none
def uj(E:GI)(u:Nat)(m k:AV)(s:St):Option (List R1):=
 match m with
 | .mp n=>match E.T.get u with
  |some ⟨.mp kt e,_⟩=>match E.T.get kt with
   |some ⟨.int .i64,_⟩=>match s.hp.get n with
    |some (.map L)=>match k with
     | .int .i64 lo hi=>bif FN lo hi then some [.val (.val (.tuple #[])) (s.set n (.map (TP lo L)))]else none
     |_=>none
    |some (.Hl a)=>match k with
     | .int .i64 _ _=>some [.val (.val (.tuple #[])) (s.set n (.Hl a))]
     |_=>none
    |_=>none
   |_=>none
  |_=>none
 |_=>none
def PX:Nat->List AV->C7 AV->C7 AV
 |_,[],t=>t
 |k,a::r,t=>PX (Nat.succ k) r (t.put 24 k (some a))
def rW(T:Tr)(s:St):ResultVar->Option AV
 | .tmp t=>s.fr.get t
 | .cell x u=>match s.fr.get x with
  |some (.Au k 0)=>match T.get u with
   |some ti=>match s.hp.get k with
    |some (.cells l _)=>bif ti.kd.agg then(bif Nat.beq l.length ti.size then some (.agg l)else none)else E1 l 0
    |_=>none
   |none=>none
  |_=>none
def fX(T:Tr)(s:St):List ResultVar->Option AV
 |[]=>some (.Ec [])
 |[r]=>rW T s r
 |[r,q]=>match rW T s r with
  |some a=>match rW T s q with
   |some b=>some (.Ec [a,b])
   |none=>none
  |none=>none
 |[r,q,p]=>match rW T s r with
  |some a=>match rW T s q with
   |some b=>match rW T s p with
    |some c=>some (.Ec [a,b,c])
    |none=>none
   |none=>none
  |none=>none
 |_=>none
abbrev Ih:=Nat->Nat->Code->St->Option Ej
def B7(E:GI)(ih:Ih)(f:Nat)(args:List AV)(s:St):Option (List R1):=
 match E.ct f with
 |some c=>c args s
 |none=>match E.ft f with
  |some fi=>match(bif Nat.ble args.length 1000 then ih f fi.n fi.body {s with fr:=PX 0 args .e}else none)with
   |some outs=>Lp outs fun o=>match o.1 with
    | .nor| .ret=>match fX E.T o.2 fi.results with
     |some a=>some [.val a {o.2 with fr:=s.fr}]
     |none=>none
    | .Eu v=>some [.Eu v {o.2 with fr:=s.fr}]
    | .ex _=>none
   |none=>none
  |none=>none
def uk(E:GI)(ih:Ih)(g hd:Bool)(s:St)(u:Nat):Option (List R1):=bif g&&hd&&s.room then(match E.zt u with
 |some z=>match z with
  | .tuple _=>none
  |z=>some [.val (.Au s.nx 0) (s.new (.cells (GU (Is z)) u))]
 |none=>none)else none
def ul(E:GI)(ih:Ih)(g hd:Bool)(s:St)(_u:Nat):Option (List R1):=bif g&&hd&&s.room then some [.val (.mp s.nx) (s.new (.map []))]else none
def um(E:GI)(ih:Ih)(g hd:Bool)(s:St)(u:Nat)(x:Operand):Option (List R1):=match ao s.fr x with
 |some (.Ec _)=>none
 |some a=>bif hd&&s.room then some [.val (.Au s.nx 0) (s.new (.cells (GU a) u))]else none
 |none=>none
def uo(E:GI)(ih:Ih)(g hd:Bool)(s:St)(u:Nat)(x y:Operand):Option (List R1):=bif hd then none else match ao s.fr x with
 |some a=>match ao s.fr y with
  |some b=>Xb E u a b s
  |none=>none
 |none=>none
def fY(E:GI)(ih:Ih)(g hd:Bool)(s:St)(u:Nat)(m k v:Operand):Option (List R1):=bif hd then none else match ao s.fr m with
 |some a=>match ao s.fr k with
  |some b=>match ao s.fr v with
   |some c=>ui E u a b c s
   |none=>none
  |none=>none
 |none=>none
def uq(E:GI)(ih:Ih)(g hd:Bool)(s:St)(u len:Nat)(parts:Array (Nat×Operand)):Option (List R1):=match E.T.get u with
 |some ⟨.sl e CU,_⟩=>match E.el e with
  |some (Q9,_)=>bif Nat.beq CU Q9&&hd&&s.room then(match Ku s.fr parts.toList with
   |some ps=>match TN CU 0 ps with
    |some l=>bif Nat.beq ps.length len&&Nat.ble (Nat.mul len CU) 16777216 then some [.val (.sl s.nx 0 len len) (s.new (.cells l e))]else none
    |none=>none
   |none=>none)else none
  |none=>none
 |_=>none
def ut(E:GI)(ih:Ih)(g hd:Bool)(s:St)(u:Nat)(x y:Operand):Option (List R1):=match E.T.get u with
 |some ⟨.sl e CU,_⟩=>match E.el e with
  |some (Q9,GN)=>bif Nat.beq CU Q9&&hd&&s.room then(match ao s.fr x with
   |some a=>match ao s.fr y with
    |some b=>match VU a with
     |some m=>match VU b with
      |some m'=>match E.zt e with
       |some z=>bif Nat.beq m m'&&Nat.ble (Nat.mul GN m) 281474976710656&&Nat.ble m 9223372036854775807 then some [.val (.sl s.nx 0 m m) (s.new (.cells (List.replicate m (GU (Is z))).flatten e))]else none
       |none=>none
      |none=>none
     |none=>none
    |none=>none
   |none=>none)else none
  |none=>none
 |_=>none
def uu(E:GI)(ih:Ih)(g hd:Bool)(s:St)(x:Operand):Option (List R1):=bif hd then none else match ao s.fr x with
 |some (.LU t a)=>some [.Eu (.LU t a) s]
 |_=>none
def uv(E:GI)(ih:Ih)(g hd:Bool)(s:St)(AA:Array Operand)(t tx:Nat):Option (List R1):=bif !hd then none else match W7 s.fr AA.toList with
 |some [b,x]=>(match uf E t tx b x s with|some r=>some r|none=>ud E t tx b x s)
 |_=>none
def fZ(E:GI)(ih:Ih)(g hd:Bool)(s:St)(AA:Array Operand)(t:Nat):Option (List R1):=match W7 s.fr AA.toList with
 |some [b,.val (.string str)]=>uh E t b str s
 |some [b,x]=>ug E t b x s
 |_=>none
def fb(E:GI)(ih:Ih)(g hd:Bool)(s:St)(AA:Array Operand)(t:Nat):Option (List R1):=match W7 s.fr AA.toList with
 |some [b,x]=>uj E t b x s
 |_=>none
def ff(E:GI)(ih:Ih)(g hd:Bool)(s:St)(fv:Operand)(AA:Array Operand):Option (List R1):=match ao s.fr fv with
 |some (.fn f a c)=>match W7 s.fr AA.toList with
  |some vs=>B7 E ih f (a++vs++c) s
  |none=>none
 |_=>none
def yx(E:GI)(ih:Ih)(g hd:Bool)(s:St):Op->Option (List R1)
 | .alloc u=>uk E ih g hd s u
 | .makeMap _ none=>ul E ih g hd s 0
 | .box u x=>um E ih g hd s u x
 | .store u x y=>uo E ih g hd s u x y
 | .insert u m k v| .mapUpdate u m k v=>fY E ih g hd s u m k v
 | .buildSlice u len parts=>uq E ih g hd s u len parts
 | .makeSlice u x y=>ut E ih g hd s u x y
 | .panic x=>uu E ih g hd s x
 | .call ⟨.builtin .append,AA,⟨[t,tx]⟩⟩=>uv E ih g hd s AA t tx
 | .call ⟨.builtin .copy,AA,⟨[t,_]⟩⟩=>fZ E ih g hd s AA t
 | .call ⟨.builtin .delete,AA,⟨[t,_]⟩⟩=>fb E ih g hd s AA t
 | .call ⟨.value fv,AA,_⟩=>ff E ih g hd s fv AA
 |_=>none
def uw(E:GI)(x:FO)(s:St):Option (List R1×List Nat):=bif x.o.dst.isSome then(match yw E.T E.zt E.lt s.fr s.hp x.o.op with
 |some (outs,L)=>some (outs.map fun a=>.val a s,L)
 |none=>none)else none
def ux(E:GI)(ih:Ih)(x:FO)(s:St):Option (List R1×List Nat):=
 match x.o.op with
 | .pick (.tmp c) a b=>match s.fr.get c with
  |some (.boo none)=>bif !x.o.dst.isSome|| !Nat.blt c 16777216 then none else
   let s1:=s.put (some c) (.boo (some true))
   let s2:=s.put (some c) (.boo (some false))
   match ao s1.fr a with
   |some u=>match ao s2.fr b with
    |some v=>some ([.val u s1,.val v s2],[])
    |none=>none
   |none=>none
  |_=>uw E x s
 |op=>match yx E ih x.g.isNone x.o.dst.isSome s op with
  |some r=>some (r,[])
  |none=>uw E x s
inductive OpF
 |mk (f:GI->Ih->Bool->Bool->St->Option (List R1×List Nat))
def Nb(hd:Bool)(s:St)(r:Option AV):Option (List R1×List Nat):=bif hd then(match r with
 |some a=>some ([.val a s],[])
 |none=>none)else none
def fh(hd:Bool)(s:St)(r:Option (List AV×List Nat)):Option (List R1×List Nat):=bif hd then(match r with
 |some (outs,L)=>some (outs.map fun a=>.val a s,L)
 |none=>none)else none
def Xc(r:Option (List R1)):Option (List R1×List Nat):=match r with
 |some r=>some (r,[])
 |none=>none
def rX(hd:Bool)(s:St)(T:Tr)(c:Nat)(a b:Operand):Option (List R1×List Nat):=match s.fr.get c with
 |some (.boo none)=>bif !hd|| !Nat.blt c 16777216 then none else
  let s1:=s.put (some c) (.boo (some true))
  let s2:=s.put (some c) (.boo (some false))
  match ao s1.fr a with
  |some u=>match ao s2.fr b with
   |some v=>some ([.val u s1,.val v s2],[])
   |none=>none
  |none=>none
 |_=>Nb hd s (uD T s.fr (.tmp c) a b)
def aCA(T:Tr)(zt:Nat->Option Value)(lt:Nat->Option (List Kd))(s:St)(u:Nat)(x:Operand)(lo hi mx:Option Operand):Option (List AV×List Nat):=match oH T zt lt s.fr s.hp u x lo hi mx with
 |some r=>some r
 |none=>fJ T s.fr u x lo hi mx
def aAg(op:Op):OpF:=match op with
 | .move x=>.mk fun _ _ _ hd s=>Nb hd s (ao s.fr x)
 | .assign x=>.mk fun _ _ _ hd s=>Nb hd s (ao s.fr x)
 | .pick (.tmp c) a b=>.mk fun E _ _ hd s=>rX hd s E.T c a b
 | .nilCheck x=>.mk fun E _ _ hd s=>Nb hd s (uE E.T s.fr x)
 | .binOp .shr _ x y _=>.mk fun E _ _ hd s=>fh hd s (uL E.T E.zt E.lt s.fr s.hp x y)
 | .binOp .shl _ x y _=>.mk fun E _ _ hd s=>fh hd s (uM E.T E.zt E.lt s.fr s.hp x y)
 | .binOp .eql u x y u'=>.mk fun E _ _ hd s=>fh hd s (uN E.T E.zt E.lt s.fr s.hp u x y u')
 | .binOp .neq u x y u'=>.mk fun E _ _ hd s=>fh hd s (uO E.T E.zt E.lt s.fr s.hp u x y u')
 | .binOp .add u x y _=>.mk fun E _ _ hd s=>Nb hd s (NW E.T s.fr .add u x y)
 | .binOp .sub u x y _=>.mk fun E _ _ hd s=>Nb hd s (NW E.T s.fr .sub u x y)
 | .binOp .mul u x y _=>.mk fun E _ _ hd s=>Nb hd s (NW E.T s.fr .mul u x y)
 | .binOp .quo u x y _=>.mk fun E _ _ hd s=>Nb hd s (NW E.T s.fr .quo u x y)
 | .binOp .rem u x y _=>.mk fun E _ _ hd s=>Nb hd s (NW E.T s.fr .rem u x y)
 | .binOp .and u x y _=>.mk fun E _ _ hd s=>Nb hd s (NW E.T s.fr .and u x y)
 | .binOp .or u x y _=>.mk fun E _ _ hd s=>Nb hd s (NW E.T s.fr .or u x y)
 | .binOp .xor u x y _=>.mk fun E _ _ hd s=>Nb hd s (NW E.T s.fr .xor u x y)
 | .binOp .andNot u x y _=>.mk fun E _ _ hd s=>Nb hd s (NW E.T s.fr .andNot u x y)
 | .binOp .lss u x y _=>.mk fun E _ _ hd s=>Nb hd s (NW E.T s.fr .lss u x y)
 | .binOp .leq u x y _=>.mk fun E _ _ hd s=>Nb hd s (NW E.T s.fr .leq u x y)
 | .binOp .gtr u x y _=>.mk fun E _ _ hd s=>Nb hd s (NW E.T s.fr .gtr u x y)
 | .binOp .geq u x y _=>.mk fun E _ _ hd s=>Nb hd s (NW E.T s.fr .geq u x y)
 | .unOp .not _ x=>.mk fun E _ _ hd s=>Nb hd s (uF E.T s.fr x)
 | .unOp .neg _ x=>.mk fun E _ _ hd s=>Nb hd s (uG E.T s.fr x)
 | .unOp .xor _ x=>.mk fun E _ _ hd s=>Nb hd s (uH E.T s.fr x)
 | .convert u d x=>.mk fun E _ _ hd s=>Nb hd s (oD E.T s.fr u d x)
 | .fieldAddr u x f=>.mk fun E _ _ hd s=>Nb hd s (ew E.T s.fr u x f)
 | .extract x i=>.mk fun E _ _ hd s=>Nb hd s (ey E.T s.fr x i)
 | .makeFunc (.func f) a c=>.mk fun E _ _ hd s=>Nb hd s (fA E.T s.fr f a c)
 | .makeInterface u x=>.mk fun E _ _ hd s=>Nb hd s (fB E.T s.fr u x)
 | .load u x=>.mk fun E _ _ hd s=>fh hd s (uQ E.T E.zt E.lt s.fr s.hp u x)
 | .lookup u m x ok=>.mk fun E _ _ hd s=>fh hd s (uR E.T E.zt E.lt s.fr s.hp u m x ok)
 | .indexAddr u x y=>.mk fun E _ _ hd s=>fh hd s (uS E.T E.zt E.lt s.fr s.hp u x y)
 | .index u x y=>.mk fun E _ _ hd s=>fh hd s (uT E.T E.zt E.lt s.fr s.hp u x y)
 | .slice u x lo hi mx=>.mk fun E _ _ hd s=>fh hd s (aCA E.T E.zt E.lt s u x lo hi mx)
 | .sliceToArrayPointer u x=>.mk fun E _ _ hd s=>fh hd s (fK E.T E.zt E.lt s.fr s.hp u x)
 | .build u parts=>.mk fun E _ _ hd s=>fh hd s (fL E.T E.zt E.lt s.fr s.hp u parts)
 | .alloc u=>.mk fun E ih g hd s=>Xc (uk E ih g hd s u)
 | .makeMap _ none=>.mk fun E ih g hd s=>Xc (ul E ih g hd s 0)
 | .box u x=>.mk fun E ih g hd s=>Xc (um E ih g hd s u x)
 | .store u x y=>.mk fun E ih g hd s=>Xc (uo E ih g hd s u x y)
 | .insert u m k v=>.mk fun E ih g hd s=>Xc (fY E ih g hd s u m k v)
 | .mapUpdate u m k v=>.mk fun E ih g hd s=>Xc (fY E ih g hd s u m k v)
 | .buildSlice u len parts=>.mk fun E ih g hd s=>Xc (uq E ih g hd s u len parts)
 | .makeSlice u x y=>.mk fun E ih g hd s=>Xc (ut E ih g hd s u x y)
 | .panic x=>.mk fun E ih g hd s=>Xc (uu E ih g hd s x)
 | .call ⟨.builtin .append,vs,⟨[t,tx]⟩⟩=>.mk fun E ih g hd s=>Xc (uv E ih g hd s vs t tx)
 | .call ⟨.builtin .copy,vs,⟨[t,_]⟩⟩=>.mk fun E ih g hd s=>Xc (fZ E ih g hd s vs t)
 | .call ⟨.builtin .delete,vs,⟨[t,_]⟩⟩=>.mk fun E ih g hd s=>Xc (fb E ih g hd s vs t)
 | .call ⟨.builtin .len,⟨[x]⟩,⟨[u]⟩⟩=>.mk fun E _ _ hd s=>Nb hd s (fC E.T s.fr x u)
 | .call ⟨.builtin .min,⟨[x,y]⟩,_⟩=>.mk fun E _ _ hd s=>Nb hd s (fD E.T s.fr x y)
 | .call ⟨.builtin .max,⟨[x,y]⟩,_⟩=>.mk fun E _ _ hd s=>Nb hd s (fE E.T s.fr x y)
 | .call ⟨.builtin .cap,⟨[x]⟩,⟨[u]⟩⟩=>.mk fun E _ _ hd s=>Nb hd s (fF E.T s.fr x u)
 | .call ⟨.value fv,vs,_⟩=>.mk fun E ih g hd s=>Xc (ff E ih g hd s fv vs)
 |_=>.mk fun _ _ _ _ _=>none
def opF(E:GI)(ih:Ih)(x:FO)(s:St):Option (List R1×List Nat):=match aAg x.o.op with
 | .mk f=>f E ih x.g.isNone x.o.dst.isSome s
def aE(E:GI)(ih:Ih)(x:FO)(s:St):Option (List R1×List Nat):=
 match x.g with
 |none=>opF E ih x s
 |some (c,b)=>match s.fr.get c with
  |some (.boo (some b'))=>bif b'==b then opF E ih x s else some ([.val (.val undef) s],[])
  |some (.boo none)=>bif !Nat.blt c 16777216 then none else match opF E ih x (s.put (some c) (.boo (some b)))with
   |some (r,L)=>some (.val (.val undef) (s.put (some c) (.boo (some (!b))))::r,L)
   |none=>none
  |some (.val v)=>match v with
   | .bool _=>none
   |_=>some ([.val (.val undef) s],[])
  |_=>none
def Lq(n:Nat):Option Nat->Bool
 |none=>true
 |some d=>Nat.blt d n&&Nat.blt d 16777216
def Xd(k:St->Option (Ej×List Nat×List Nat))(d:Option Nat):List R1->Option (Ej×List Nat×List Nat)
 |[]=>some ([],[],[])
 | .val a s::q=>match k (s.put d a)with
  |some (o,L,M)=>match Xd k d q with
   |some (o',L',M')=>some (o++o',L++L',s.md++M++M')
   |none=>none
  |none=>none
 | .Eu a s::q=>match Xd k d q with
  |some (o',L',M')=>some ((.Eu a,s)::o',L',s.md++M')
  |none=>none
def LY(E:GI)(ih:Ih)(n:Nat):List FO->St->Option (Ej×List Nat×List Nat)
 |[],s=>some ([(.nor,s)],[],s.md)
 |x::r,s=>bif Lq n x.o.dst then(match aE E ih x s with
  |some (rs,L)=>match Xd (LY E ih n r) x.o.dst rs with
   |some (o,L',M)=>some (o,L++L',M)
   |none=>none
  |none=>none)else none
def Gu(a:Nat):List Nat->Bool
 |[]=>false
 |b::r=>bif Nat.beq a b then true else Gu a r
def US:List Nat->Option (List Nat×Nat)
 |[]=>none
 |[z]=>some ([],z)
 |a::r=>match US r with
  |some (p,z)=>some (a::p,z)
  |none=>none
def IV:Ex×St->Bool
 |(.nor,_)=>true
 |(.Eu _,_)=>true
 |_=>false
def fj(E:GI)(ih:Ih)(f n id:Nat)(An:List Oper)(s:St):Option Ej:=match US (E.ord f id)with
 |some (pre,z)=>bif HN An.toArray (pre++[z])&&FT An.toArray&&HO E.zt n An.toArray&&lastB An.toArray z then
  (match LY E ih n (E2 An pre) {s with md:=[]}with
  |some (o,L,M)=>bif L.all (fun k=>Nat.blt k s.nx&& !(Gu k M))&&o.all IV then
   (match Hj o (fun s'=>match LY E ih n (E2 An [z]) s' with|some (o',_,_)=>some o'|none=>none)with
   |some o2=>some (o2.map fun x=>(x.1,{x.2 with md:=x.2.md++s.md}))
   |none=>none)else none
  |none=>none)else none
 |none=>none
def aF(E:GI)(ih:Ih)(f n id:Nat)(An:List Oper)(draw:Bool)(s:St):Option Ej:=
 bif draw then
  (bif HN An.toArray (E.ord f id)&&FT An.toArray&&HO E.zt n An.toArray then
   (match LY E ih n (E2 An (E.ord f id)) {s with md:=[]}with
   |some (o,L,M)=>bif L.all (fun k=>Nat.blt k s.nx&& !(Gu k M))then some (o.map fun x=>(x.1,{x.2 with md:=x.2.md++s.md}))else fj E ih f n id An s
   |none=>none)else none)
 else
  (bif I2 An then
   (match LY E ih n (He An An 0) s with
   |some (o,_,_)=>some o
   |none=>none)else none)
def P4(id:Nat):Ej->Ej
 |[]=>[]
 |(.ex j,s)::r=>bif Nat.beq j id then(.nor,s)::P4 id r else(.ex j,s)::P4 id r
 |x::r=>x::P4 id r
def Xe(g:St->Option Ej):Nat->St->Option Ej
 |0,_=>none
 |m+1,s=>match g s with
  |some o=>Hj o (Xe g m)
  |none=>none
def HB(E:GI)(ih:Ih)(f n:Nat):Code->St->Option Ej
 | .skip,s=>some [(.nor,s)]
 | .label _,s=>some [(.nor,s)]
 | .ret,s=>some [(.ret,s)]
 | .exit id,s=>some [(.ex id,s)]
 | .seq a b,s=>match ih f n a s with
  |some o=>Hj o (ih f n b)
  |none=>none
 | .cond c a b,s=>match ao s.fr c with
  |some (.boo (some t))=>bif t then ih f n a s else ih f n b s
  |some (.boo none)=>match c with
   | .tmp t=>bif !Nat.blt t 16777216 then none else match ih f n a (s.put (some t) (.boo (some true)))with
    |some o=>match ih f n b (s.put (some t) (.boo (some false)))with
     |some o'=>some (o++o')
     |none=>none
    |none=>none
   |_=>none
  |_=>none
 | .block id a,s=>match ih f n a s with
  |some o=>some (P4 id o)
  |none=>none
 | .loop a,s=>Xe (ih f n a) 100000 s
 | .scope a,s=>ih f n a s
 | .region id An draw,s=>aF E ih f n id An.toList draw s
 |_,_=>none
def exec(E:GI):Nat->Nat->Nat->Code->St->Option Ej
 |0,_,_,_,_=>none
 |m+1,f,n,c,s=>HB E (exec E m) f n c s
section
structure Pt where
 ρ:Nm
 st:St
 fr:Fr
 S:A2
 live:List Nat
 C:Nat->List CH
structure Pt.good (RS:EA) (p:Pt):Prop where
 F:Kr p.ρ p.st.fr p.fr
 H:LW RS p.ρ p.st.hp p.st.nx p.S p.live p.C
 lt:p.st.nx<=2^24
structure Pt.to (p q:Pt):Prop where
 ext:∃σ,q.ρ=p.ρ++σ
 kept:∀k∈p.live,k∉q.st.md->k∈q.live/\q.C k=p.C k
 old:∀k∈q.live,k<p.st.nx->k∈p.live
 nx:p.st.nx<=q.st.nx
 md:∀k∈p.st.md,k∈q.st.md
theorem Pt.to.refl(p:Pt):p.to p:=⟨⟨[],by simp⟩,fun k h _=>⟨h,rfl⟩,fun k h _=>h,Ao _,fun k h=>h⟩
theorem Pt.to.trans{p q r:Pt}(h:p.to q)(k:q.to r):p.to r:=by obtain⟨σ,e⟩:=h.ext;obtain⟨τ,e'⟩:=k.ext;refine⟨⟨σ++τ,by rw[e',e,AU]⟩,fun j hj hn=> ?_,fun j hj hlt=>h.old j (k.old j hj (Nat.lt_of_lt_of_le hlt h.nx)) hlt,Nat.le_trans h.nx k.nx,fun j hj=>k.md j (h.md j hj)⟩;obtain⟨a1,a2⟩:=h.kept j hj (fun hm=>hn (k.md j hm));obtain⟨b1,b2⟩:=k.kept j a1 hn;exact⟨b1,b2.trans a2⟩
variable{t:C7 AV}
theorem Pt.to.aAh{p q:Pt}(h:p.to q){fr:Fr}(hc:Kr p.ρ t fr):Kr q.ρ t fr:=by obtain⟨σ,e⟩:=h.ext;rw[e];exact hc.mono σ
variable{RS:EA}
variable{a:AV}{v:Value}
theorem Pt.good.put{p:Pt}(h:p.good RS){d:Nat}(hd:d<2^24)(hc:EM p.ρ a v):Pt.good RS {p with st:=p.st.put (some d) a,fr:=(d,v)::p.fr}:=⟨h.F.put hd hc,h.H,h.lt⟩
theorem Pt.good.Dc{p:Pt}(h:p.good RS){d:Option Nat}(hd:∀e,d=some e->e<2^24)(hc:EM p.ρ a v):Pt.good RS {p with st:=p.st.put d a,fr:=Sep.Dc d v p.fr}:=by
 cases d with
 |none=>exact h
 |some d=>exact h.put (hd d J) hc
theorem Pt.to.Dc{p q:Pt}(h:p.to q)(d:Option Nat)(a:AV)(v:Value):p.to {q with st:=q.st.put d a,fr:=Sep.Dc d v q.fr}:=by cases d<;>exact⟨h.ext,h.kept,h.old,h.nx,h.md⟩
theorem Pt.good.refine{p:Pt}(h:p.good RS){c:Nat}(hd:c<2^24){b:Bool}(hc:lk p.fr c=some (.bool b)):Pt.good RS {p with st:=p.st.put (some c) (.boo (some b))}:=by
 refine⟨fun s a hs=> ?_,h.H,h.lt⟩;simp only[St.put]at hs;rw[C7.get_put 24 _ c s _ hd]at hs;by_cases e:s=c
 ·subst e;simp at hs;subst hs;exact⟨_,hc,.boo⟩
 ·rw[Ah e]at hs;exact h.F s a hs
theorem Pt.to.refine(p:Pt)(c:Nat)(b:Bool):p.to {p with st:=p.st.put (some c) (.boo (some b))}:=⟨⟨[],by simp⟩,fun k h _=>⟨h,rfl⟩,fun k h _=>h,Ao _,fun k h=>h⟩
def Pt.new(p:Pt)(x:Nat×Nat)(ab:AB)(c:List CH):Pt:=⟨p.ρ++[x],p.st.new ab,p.fr,c::p.S,p.st.nx::p.live,Jw p.C p.st.nx c⟩
theorem Y1{s:St}(h:s.room=true):s.nx<2^24:=by simpa[St.room]using h
variable{ab:AB}
theorem Pt.good.new{p:Pt}(h:p.good RS)(hr:p.st.room=true)(x:Nat×Nat){c:List CH}(hc:Da RS (p.ρ++[x]) p.st.nx ab c):(p.new x ab c).good RS:=⟨h.F.mono _,h.H.new (Y1 hr) x hc,by have:=Y1 hr;show p.st.nx+1<=2^24;omega⟩
variable{k:Nat}
theorem Pt.good.fresh{p:Pt}(h:p.good RS)(hk:k∈p.live):k<p.st.nx:=h.H.lt k hk
theorem Pt.to.new{p:Pt}(h:p.good RS)(x:Nat×Nat)(ab:AB)(c:List CH):p.to (p.new x ab c):=by
 refine⟨⟨[x],rfl⟩,fun k hk _=>⟨Aw _ hk,Gj _ _ (Nat.ne_of_lt (h.fresh hk))⟩,fun k hk hlt=> ?_,EG _,fun k hk=>hk⟩;rcases Ab.1 hk with rfl|hk
 ·exact absurd hlt (Nat.lt_irrefl _)
 ·exact hk
theorem Pt.EZ{p:Pt}(h:p.good RS)(x:Nat×Nat):(p.ρ++[x])[p.st.nx]? =some x:=h.H.EZ x
def Pt.set(p:Pt)(k:Nat)(ab:AB)(c:List CH):Pt:=⟨p.ρ,p.st.set k ab,p.fr,c::(p.live.erase k).map p.C,p.live,Jw p.C k c⟩
theorem Pt.good.set{p:Pt}(h:p.good RS)(hk:k∈p.live){c:List CH}(hc:Da RS p.ρ k ab c):(p.set k ab c).good RS:=⟨h.F,h.H.put h.lt hk hc,h.lt⟩
theorem Pt.to.set(p:Pt)(k:Nat)(ab:AB)(c:List CH):p.to (p.set k ab c):=⟨⟨[],by simp[Pt.set]⟩,fun j hj hn=>⟨hj,Gj _ _ (fun e=>hn (by subst e;exact BH))⟩,fun j hj _=>hj,Ao _,fun j hj=>Aw _ hj⟩
def Pt.del(p:Pt)(k:Nat):Pt:=⟨p.ρ,p.st.del k,p.fr,(p.live.erase k).map p.C,p.live.erase k,p.C⟩
theorem Pt.good.del{p:Pt}(h:p.good RS)(hk:k∈p.live):(p.del k).good RS:=⟨h.F,h.H.del h.lt hk,h.lt⟩
theorem Pt.to.del(p:Pt)(k:Nat):p.to (p.del k):=⟨⟨[],by simp[Pt.del]⟩,fun j hj hn=>⟨(Be (fun e=>hn (by subst e;exact BH))).2 hj,rfl⟩,fun j hj _=>List.mem_of_mem_erase hj,Ao _,fun j hj=>Aw _ hj⟩
theorem Pt.good.perm{p:Pt}(h:p.good RS){T:A2}(hp:p.S.Perm T):Pt.good RS {p with S:=T}:=⟨h.F,⟨h.H.len,h.H.nd,h.H.lt,hp.symm.trans h.H.perm,h.H.at_⟩,h.lt⟩
theorem Pt.good.mem{p:Pt}(h:p.good RS)(hk:p.st.hp.get k=some ab):k∈p.live/\Da RS p.ρ k ab (p.C k):=h.H.at_ k ab hk
theorem Pt.good.inS{p:Pt}(h:p.good RS)(hk:k∈p.live):p.C k∈p.S:=h.H.perm.mem_iff.2 (EH hk)
def Fin(e:Ex)(q:Pt)(Q:EX):Prop:=match e with
 | .nor=>Q.go .normal q.fr q.S
 | .ret=>Q.go .ret q.fr q.S
 | .ex id=>Q.go (.exit id) q.fr q.S
 | .Eu a=>∀v,EM q.ρ a v->Q.Eu [{v:=v,recovered:=false}] q.S
def Snd(P:Program)(RS:EA)(n:Nat)(c:Code)(st:St)(outs:Ej):Prop:=∀p:Pt,p.st=st->p.good RS->∀Q:EX,
 (∀o∈outs,∀q:Pt,q.st=o.2->p.to q->q.good RS->Fin o.1 q Q)->CW P n c Q p.fr p.S
def Ij(RS:EA)(p:Pt)(rs:List R1):Ending->A2->Prop:=fun e S'=>
 (∃a s,R1.val a s∈rs/\∃q v,q.st=s/\q.fr=p.fr/\q.S=S'/\p.to q/\q.good RS/\EM q.ρ a v/\e=.returned v)\/
 (∃a s,R1.Eu a s∈rs/\∃q v,q.st=s/\q.fr=p.fr/\q.S=S'/\p.to q/\q.good RS/\EM q.ρ a v/\e=.panicked [{v:=v,recovered:=false}])
def ET(P:Program)(RS:EA)(f:Nat)(c:List AV->St->Option (List R1)):Prop:=∀(args:List AV) (s:St) (rs:List R1),c args s=some rs->∀p:Pt,p.st=s->p.good RS->∀vs,Bt p.ρ args vs->Fn P f vs p.S (Ij RS p rs)
structure aAi (P:Program) (f:Nat) (fi:FI):Prop where
 fn:∃fn,P.funcs[f]? =some fn/\fn.body=some fi.body/\fn.ntmps=fi.n/\fn.results=fi.results.toArray
 ok:E5 P f=true
structure En (P:Program) (RS:EA) (E:GI):Prop where
 T:Dp P E.T=true
 zt:∀t v,E.zt t=some v->(P.info? t).bind (·.zero)=some v
 lt:∀u ls,E.lt u=some ls->Vl P u ls
 el:∀e CU GN,E.el e=some (CU,GN)->Ew P e CU GN=true
 ft:∀f fi,E.ft f=some fi->aAi P f fi
 ct:∀f c,E.ct f=some c->ET P RS f c
 uy:∀f c,E.ct f=some c->E5 P f=true
 mixed:P.follows .mixedOrders=true
variable{ρ:Nm}
theorem Y2(h:EM ρ a v)(ha:SY a=true):v.oneCell'=true:=by cases h<;>first|rfl|(simp[SY]at ha;done)|exact ha|(rename_i h;exact h)|(rename_i h;rcases h with⟨_,rfl,_⟩|⟨_,_,_,_,rfl,_⟩<;>rfl)
theorem Lr{ρ:Nm}:∀{l:List AV} {vs:List Value},Bt ρ l vs->l.all SY=true->∀u∈vs,u.oneCell'=true
 |_,_,.nil,_,u,hu=>by cases hu
 |_,_,.cons h k,ha,u,hu=>by
  simp only[List.all_cons,AI]at ha;rcases Ab.1 hu with rfl|hu
  ·exact Y2 h ha.1
  ·exact Lr k ha.2 u hu
theorem Xf{b:AV}(h:EM ρ a v)(hl:leC a b=true):EM ρ b v:=by
 unfold leC at hl;split at hl
 ·exact .junk (Y2 h hl)
 ·cases h with|int h1 h2=>
  simp only[AI,FU]at hl;obtain rfl:=Fz hl.1.1;exact .int I I
 ·cases h<;>exact .Jh
 ·cases h;have:=(by simpa using hl);subst this;exact .boo
 ·cases h with|Au h=>
  simp only[AI]at hl;obtain rfl:=AK hl.1;obtain rfl:=AK hl.2;exact .Au h
 ·cases h with|G3 h hc=>
  simp only[AI]at hl;obtain rfl:=AK hl.1;obtain rfl:=AK hl.2;exact .G3 h hc
 ·cases h with|sl h=>
  simp only[AI]at hl;obtain rfl:=AK hl.1.1.1;obtain rfl:=AK hl.1.1.2;obtain rfl:=AK hl.1.2;obtain rfl:=AK hl.2;exact .sl h
 ·cases h with|mp h=>
  obtain rfl:=AK hl;exact .mp h
 ·cases h with|GY h hb hv=>
  simp only[AI]at hl;obtain rfl:=AK hl.1.1.1.1;obtain rfl:=AK hl.1.1.1.2;have hjk:=AL hl.1.1.2;obtain rfl:=AK hl.1.2;have hxy:=hl.2;refine .GY h hb ?_;rcases hv with⟨h0,h1,hx0⟩|⟨h0,off,len,cap,h1,h2,h3,h4⟩
  ·refine .inl ⟨h0,h1,fun e=> ?_⟩;simp only[BI]at hxy;rcases hxy with hxy|hxy
   ·obtain rfl:=AK hxy;exact hx0 e
   ·obtain rfl:=AK hxy;cases e
  ·refine .inr ⟨h0,off,len,cap,h1,h2,I,h4.1,?_⟩;simp only[BI]at hxy;rcases hxy with hxy|hxy
   ·obtain rfl:=AK hxy;exact h4.2
   ·obtain rfl:=AK hxy;exact⟨fun h=>(by cases h),fun h=>(by cases h)⟩
 ·cases h with|cnt h h1 h2=>
  simp only[AI,BI]at hl;obtain⟨⟨l1,l2⟩,l3⟩:=hl;obtain rfl:=AK l1;obtain rfl:=AK l2;rcases l3 with l3|⟨l3,l4⟩
  ·obtain rfl:=AK l3;exact .cnt h (fun e=>by cases e) (fun e=>by cases e)
  ·obtain rfl:=AK l3;obtain rfl:=AK l4;exact .cnt h h1 h2
 ·cases hl
theorem O5{ρ:Nm}:∀{l m:List AV} {vs:List Value},Bt ρ l vs->fW l m=true->Bt ρ m vs
 |_,[],_,.nil,_=>.nil
 |_,_::_,_,.nil,h=>by simp[fW]at h
 |_,[],_,.cons h k,hl=>by simp[fW]at hl
 |_,b::m,_,.cons h k,hl=>by simp only[fW,AI]at hl;exact .cons (Xf h hl.1) (O5 k hl.2)
theorem IW{b:AV}(h:EM ρ a v)(hl:P3 a b=true):EM ρ b v:=by
 unfold P3 at hl;split at hl
 ·cases h with|agg h=>exact .agg (O5 h hl)
 ·exact Xf h hl
end
end
end Go.Proofs.YtfekkjbdcdnhlaaGreatDoor.Sep
