/- Lemmas for TopScrubs. No condition but those that each states. -/
import Derived.Test.YtfekkjbdcdnhlaaGreatDoorMap
set_option linter.all false
set_option maxHeartbeats 8000000
set_option maxRecDepth 100000
namespace Go.Proofs.YtfekkjbdcdnhlaaGreatDoor.Sep
noncomputable section
structure Rv where
 id:Int
 st:Int
 a:Int
 c:Int
 dg:List Int
 key:List Int
 nx:Int
 tr:List Int
 rc:Int
structure Rv.ok (r:Rv):Prop where
 id:0<=r.id/\r.id<=18446744073709551615
 st: -9223372036854775808<=r.st/\r.st<=9223372036854775807
 a: -9223372036854775808<=r.a/\r.a<=9223372036854775807
 c:0<=r.c/\r.c<=18446744073709551615
 dg:r.dg.length=32/\BN r.dg
 key:r.key.length=32/\BN r.key
 nx:0<=r.nx/\r.nx<=18446744073709551615
 tr:r.tr.length=32/\BN r.tr
 rc: -9223372036854775808<=r.rc/\r.rc<=9223372036854775807
variable{r:Rv}
theorem Rv.ok.rc'(h:r.ok)(z:Int):Rv.ok {r with rc:=IntKind.i64.wrap z}:=⟨h.id,h.st,h.a,h.c,h.dg,h.key,h.nx,h.tr,by have:=wrap_in .i64 z;rw[Fj,F2]at this;exact this⟩
theorem Rv.ok.nx'(h:r.ok)(z:Int):Rv.ok {r with nx:=IntKind.u64.wrap z}:=⟨h.id,h.st,h.a,h.c,h.dg,h.key,by have:=wrap_in .u64 z;rw[Fj,F2]at this;exact this,h.tr,h.rc⟩
variable{D:List Int}
theorem Rv.ok.dg'(h:r.ok)(hD:D.length=32/\BN D):Rv.ok {r with dg:=D}:=⟨h.id,h.st,h.a,h.c,hD,h.key,h.nx,h.tr,h.rc⟩
theorem Rv.ok.tr'(h:r.ok)(hD:D.length=32/\BN D):Rv.ok {r with tr:=D}:=⟨h.id,h.st,h.a,h.c,h.dg,h.key,h.nx,hD,h.rc⟩
def Fv(r:Rv)(lv:Value):List Value:=.int .u64 r.id:: .int .i64 r.st:: .int .i64 r.a:: .int .u64 r.c::(bs r.dg++lv::(bs r.key++ .int .u64 r.nx::(bs r.tr++[.int .i64 r.rc])))
section
variable{r:Rv} (h:r.ok) {lv:Value}
include h
theorem EP:(Fv r lv).length=103:=by simp[Fv,Aa,h.dg.1,h.key.1,h.tr.1]
theorem Xt:E1 (Fv r lv) 36=some lv:=by rw[D5];simp[Fv,CX,Aa,h.dg.1]
theorem Xu:E1 (Fv r lv) 69=some (.int .u64 r.nx):=by rw[D5];simp[Fv,CX,Aa,h.dg.1,h.key.1]
theorem QO:E1 (Fv r lv) 102=some (.int .i64 r.rc):=by rw[D5];simp[Fv,CX,Aa,h.dg.1,h.key.1,h.tr.1]
theorem PE(Xv:Value):(Fv r lv).set 36 Xv=Fv r Xv:=by simp only[Fv,Cf];rw[DN _ _ (by simp[Aa,h.dg.1])];simp[Aa,h.dg.1]
theorem aK(x:Int):(Fv r lv).set 69 (.int .u64 x)=Fv {r with nx:=x} lv:=by simp only[Fv,Cf];rw[DN _ _ (by simp[Aa,h.dg.1])];simp only[Aa,h.dg.1,Cf];rw[DN _ _ (by simp[Aa,h.key.1])];simp[Aa,h.key.1]
theorem RZ(x:Int):(Fv r lv).set 102 (.int .i64 x)=Fv {r with rc:=x} lv:=by simp only[Fv,Cf];rw[DN _ _ (by simp[Aa,h.dg.1])];simp only[Aa,h.dg.1,Cf];rw[DN _ _ (by simp[Aa,h.key.1])];simp only[Aa,h.key.1,Cf];rw[DN _ _ (by simp[Aa,h.tr.1])];simp[Aa,h.tr.1]
theorem Ta{X:List Int}(hX:X.length=32):(Fv r lv).take 4++bs X++(Fv r lv).drop (4+(bs X).length)=Fv {r with dg:=X} lv:=by simp[Fv,Aa,hX,h.dg.1,CM,BJ]
theorem aM{X:List Int}(hX:X.length=32):(Fv r lv).take 70++bs X++(Fv r lv).drop (70+(bs X).length)=Fv {r with tr:=X} lv:=by simp[Fv,Aa,hX,h.dg.1,h.key.1,h.tr.1,CM,BJ,C4,AX]
end
variable{lv:Value}
theorem ID(h:lv.oneCell'=true):∀u∈Fv r lv,u.oneCell'=true:=by
 intro u hu;simp only[Fv,Ab,Aj,List.mem_nil_iff,BX]at hu;rcases hu with rfl|rfl|rfl|rfl|hu|rfl|hu|rfl|hu|rfl
 ·rfl
 ·rfl
 ·rfl
 ·rfl
 ·exact BV _ u hu
 ·exact h
 ·exact BV _ u hu
 ·rfl
 ·exact BV _ u hu
 ·rfl
def J1(m:Nat)(lv:Value)(lc:List CH):Prop:=(lv=.slice none 0 0/\lc=[])\/∃b n cap xs ex,lv=.slice (some ⟨b,0,none⟩) n cap/\n<=cap/\n<=m/\lc=A7 b (xs++ex) 301/\xs.length=n*172/\ex.length=(cap-n)*172/\∀u∈xs,u.oneCell'=true
variable{m m':Nat}{lc:List CH}
theorem J1.mono(h:J1 m lv lc)(hm:m<=m'):J1 m' lv lc:=by
 rcases h with h|⟨b,n,cap,xs,ex,h1,h2,h3,h4⟩
 ·exact .inl h
 ·exact .inr ⟨b,n,cap,xs,ex,h1,h2,I,h4⟩
theorem J1.form(h:J1 m lv lc):∃p n cap,lv=.slice p n cap/\n<=m:=by
 rcases h with⟨rfl,_⟩|⟨b,n,cap,xs,ex,rfl,h2,h3,h4⟩
 ·exact⟨none,0,0,rfl,Cj _⟩
 ·exact⟨_,n,cap,rfl,h3⟩
theorem J1.one(h:J1 m lv lc):lv.oneCell'=true:=by obtain⟨p,n,cap,rfl,_⟩:=h.form;rfl
variable{b:Nat}
theorem aN{cap bt:Nat}{cs news:List Value}(hv:cs.take (m*172)=news)(hl:news.length=m*172)(h1:∀u∈news,u.oneCell'=true)(hbd:m<=4294967296):Fn Tryz.prog 273 [.slice (some ⟨b,0,none⟩) m cap] [A7 b cs bt] (Dv (ι:=Z8) (fun i=>m<=i.2.1/\i.2.2.length=(i.2.1-m)*172) (fun i=>.slice (some ⟨i.1,0,none⟩) m i.2.1) (fun i=>[A7 i.1 (news++i.2.2) 301,A7 b cs bt])):=by
 refine Fn.of Tryz.func273 J J [_] J ?_
 (refine wW ?_;intro b;refine wW ?_)
 refine DL.append (xs:=[]) (ex:=[]) (news:=news) tt J J J Yo J .here (DO.slice tt J iN (by simpa using hv) (by simpa using hl) h1) J J I I I kC ?_;intro b' cap' ex' h2 h3;rw[show 0+m=m from BM m]at h2 h3⊢;rw[AS];refine vR ?_;exact BD (b',cap',ex') ⟨h3,by simpa using h2⟩ (DC (RV.tmp J)) pK
theorem Ul:Fn Tryz.prog 273 [.slice none 0 0] [] (E4 (.slice none 0 0) []):=by refine Fn.of Tryz.func273 J J [_] J ?_;exact wW trivial
theorem Rb(h:J1 m lv lc)(hm:m<=4294967295):Fn Tryz.prog 273 [lv] [lc] (Dv (ι:=Value×List CH) (fun i=>J1 m i.1 i.2) (fun i=>i.1) (fun i=>[i.2,lc])):=by
 rcases h with⟨rfl,rfl⟩|⟨b,n,cap,xs,ex,rfl,h2,h3,rfl,h4,h5,h6⟩
 ·refine Ul.Cd (F:=[]) DI ?_;rintro e S' ⟨rfl,rfl⟩;exact⟨_,⟨(_,[]),.inl ⟨rfl,rfl⟩,rfl,rfl⟩,by simp⟩
 ·refine(aN (news:=xs) (by rw[Ar I,AX I]) h4 h6 I).mono ?_;rintro e S' ⟨⟨b',cap',ex'⟩,⟨h7,h8⟩,rfl,rfl⟩;exact⟨(_,_),.inr ⟨b',n,cap',xs,ex',rfl,h7,h3,rfl,h4,h8,h6⟩,rfl,rfl⟩
def PG(m:Nat)(rv:List Value)(lc:List CH):Prop:=∃r lv,rv=Fv r lv/\Rv.ok r/\J1 m lv lc
variable{rv:List Value}
theorem PG.mono(h:PG m rv lc)(hm:m<=m'):PG m' rv lc:=by obtain⟨r,lv,h1,h2,h3⟩:=h;exact⟨r,lv,h1,h2,h3.mono hm⟩
inductive K6 (m:Nat):List (Int×Value×Nat)->List CH->Prop
 |nil:K6 m [] []
 |cons {q:Int} {clk:Nat} {rv:List Value} {lc c:List CH} {L:List (Int×Value×Nat)} (h:PG m rv lc) (k:K6 m L c):K6 m ((q,.agg rv.toArray,clk)::L) (lc++c)
theorem K6.mono(hm:m<=m'):∀{L:List (Int×Value×Nat)} {c:List CH},K6 m L c->K6 m' L c
 |_,_,.nil=>.nil
 |_,_,.cons h k=>.cons (h.mono hm) (k.mono hm)
variable{id:Int}
theorem K6.at_{v:Value}:∀{L:List (Int×Value×Nat)} {c:List CH},K6 m L c->E9 L id=some v->∃rv lc r,v=.agg rv.toArray/\PG m rv lc/\c.Perm (lc++r)/\(∃c',K6 m (Jg L id) c'/\c'.Perm r)/\∀m' rv' Re clk,m<=m'->PG m' rv' Re->∃c',K6 m' (F8 L id (.agg rv'.toArray) clk) c'/\c'.Perm (Re++r)
 |_,_,.nil,h=>by simp[E9]at h
 |_,_,@K6.cons _ k clk rv lc c L h0 hk,h=>by
  simp only[E9]at h;by_cases e:id=k
  ·subst e;simp only[C9,AH]at h;subst h;refine⟨rv,lc,c,rfl,h0,.refl _,⟨c,by simpa[Jg]using hk,.refl _⟩,fun m' rv' Re JY hm hr=>⟨Re++c,?_,.refl _⟩⟩;simp only[F8,C9];exact .cons hr (hk.mono hm)
  ·rw[Ah e]at h;obtain⟨rv2,dk,r,h1,h2,h3,⟨c1,h5,h6⟩,h4⟩:=hk.at_ h;have key:∀{x y:List CH} {z:List CH},x.Perm (y++z)->(lc++x).Perm (y++(lc++z)):=fun hp=>by
    refine(hp.append_left _).trans ?_;refine C2 fun _ x=> ?_
    simp only[Ax];omega
   refine⟨rv2,dk,lc++r,h1,h2,key h3,⟨lc++c1,?_,h6.append_left _⟩,fun m' rv' Re JY hm hr=> ?_⟩
   ·simp only[Jg,Ah e];exact .cons h0 h5
   ·obtain⟨c',h7,h8⟩:=h4 m' rv' Re JY hm hr;refine⟨lc++c',?_,key h8⟩;simp only[F8,Ah e];exact .cons (h0.mono hm) h7
theorem K6.new{m m':Nat}{id:Int}{rv:List Value}{lc:List CH}{clk:Nat}(hm:m<=m')(hr:PG m' rv lc):∀{L:List (Int×Value×Nat)} {c:List CH},K6 m L c->E9 L id=none->K6 m' (F8 L id (.agg rv.toArray) clk) (c++lc)
 |_,_,.nil,_=>by simpa[F8]using K6.cons (q:=id) (clk:=clk) hr .nil
 |_,_,@K6.cons _ k gW rv2 dk c L h0 hk,h=>by
  simp only[E9]at h;by_cases e:id=k
  ·rw[BE e]at h;cases h
  ·rw[Ah e]at h;simp only[F8,Ah e];rw[AU];exact .cons (h0.mono hm) (K6.new hm hr hk h)
abbrev JF(b ob mb:Nat)(x:Int):List CH:=A7 b [Au ob,.map (some mb),.int .u64 x] 138
def M9(ob K:Nat)(d:List Nat)(b:Nat)(comp:List CH):Prop:=∃j,d=[j]/\∃mb x L clk c,comp=[JF b ob mb x,DX (Value.int .i64) mb L clk,c].flatten/\0<=x/\x<=4294967296/\K6 (K+j) L c
variable{ob K a:Nat}
theorem aO{AC:Nat}{c:List CH}:M9 ob K [AC+a] b c↔M9 ob (K+AC) [a] b c:=by
 constructor
 ·rintro⟨j,h,rest⟩;cases h;rw[<-Nat.add_assoc]at rest;exact⟨a,rfl,rest⟩
 ·rintro⟨j,h,rest⟩;cases h;rw[Nat.add_assoc]at rest;exact⟨AC+a,rfl,rest⟩
theorem L6{a':Nat}{c:List CH}(h:a<=a'):M9 ob K [a] b c->M9 ob K [a'] b c:=by rintro⟨j,e,mb,x,L,clk,c,h1,h2,h3,h4⟩;cases e;exact⟨a',rfl,mb,x,L,clk,c,h1,h2,h3,h4.mono I⟩
variable{mb:Nat}{x:Int}
theorem OM:Fn Tryz.prog 183 [Au b] [JF b ob mb x] (E4 (.bool true) [JF b ob mb x]):=by refine Fn.of Tryz.func183 J J [_] J ?_;exact wW trivial
section
variable{P:Program} {n:Nat} {K:Option A2} {Q:EX} {fr:Fr} {S:A2} {rest:List FO}
variable{i ty:Nat} {pos:String} {af:Array Edge} {gd g:Option (Nat×Bool)}
variable{f:Nat}
theorem DL.IE{d:Nat}{t:Nat}{ax:Array Operand}{ts:Array TypeId}{first cap vals:List Value}{ι:Type}{ok:ι->Prop}{v:ι->Value}{F:A2}{F':ι->A2}{U:A2}{S2:ι->A2}(hg:lg fr g=some true)(hn:Nat.blt d n=true)(hf:lk fr t=some (.func (.func f) first.toArray cap.toArray))(ha:FP fr ax.toList=some vals)(hp:DV S F U)
 (hR:Fn P f (first++vals++cap) F (Dv ok v F')) (hok:E5 P f=true) (hq:∀j,App (F' j) U (S2 j)) (hK:∀j,Ge K (S2 j)) (h:∀j,ok j->DL P n K Q rest ((d,v j)::fr) (S2 j)):
 DL P n K Q (⟨i,⟨some d,.call ⟨.value (.tmp t),ax,ts⟩,ty,pos,af,gd⟩,g⟩::rest) fr S:=
 DL.rM hg hn hf ha hp hR hok (fun ch S1 hc=>by obtain⟨_,_,hc,_⟩:=hc;cases hc) (by rintro u S1 ⟨j,hj,hu,rfl⟩;cases hu;rw[(hq j).eq];exact⟨hK j,h j hj⟩)
end
abbrev ClJ:=Int×List Value×List CH×List CH
def PH(st:List CH)(m m' f:Nat)(first cap:List Value)(X:List CH)(R:Int->List CH->Prop):Prop:=∀b7 rv lc,PG m rv lc->Fn Tryz.prog f (first++[Au b7]++cap) [A7 b7 rv 219,lc,st,X] (Dv (ι:=ClJ) (fun i=>0<=i.1/\i.1<=30/\i.2.1.length=103/\R i.1 i.2.2.2/\((i.1=0/\PG m' i.2.1 i.2.2.1)\/(i.1≠0/\i.2.2.1=lc))) (fun i=>.int .i64 i.1) (fun i=>[A7 b7 i.2.1 219,i.2.2.1,st,i.2.2.2]))
abbrev AtI:=Int×List Value×List CH×List CH×List (Int×Value×Nat)×Nat
variable{clk:Nat}{L:List (Int×Value×Nat)}{X:List CH}{f:Nat}{R:Int->List CH->Prop}
theorem Xw{b0:Nat}{first cap:List Value}(hrl:PG m rv lc)(hg:E9 L id=some (.agg rv.toArray))(hok:E5 Tryz.prog f=true)(hc:PH (JF b0 ob mb x) m m' f first cap X R):
 Fn Tryz.prog 192 [Au b0,.int .i64 id,.func (.func f) first.toArray cap.toArray] [JF b0 ob mb x,DX (Value.int .i64) mb L clk,lc,X] (Dv (ι:=AtI) (fun i=>0<=i.1/\i.1<=30/\R i.1 i.2.2.2.1/\((i.1=0/\PG m' i.2.1 i.2.2.1/\i.2.2.2.2.1=F8 L id (.agg i.2.1.toArray) clk)\/(i.1≠0/\i.2.2.1=lc/\i.2.2.2.2.1=L))) (fun i=>.int .i64 i.1) (fun i=>[JF b0 ob mb x,DX (Value.int .i64) mb i.2.2.2.2.1 i.2.2.2.2.2,i.2.2.1,i.2.2.2.1])):=by
 have aCO:=hrl;obtain⟨rr,lv,rfl,Ss,I3⟩:=aCO;have hlen:=EP (lv:=lv) Ss;refine Fn.of Tryz.func192 J J [_] J ?_
 (refine W ?_;refine DL.BS J J J pK (OM) kR aP kO ?_;refine W ?_)
 refine DL.I0 (a:=id) (L:=L) (clk:=clk) (IA tt (kt:=3) J) tt hz J J J J J J J (.there .here) ?_;rw[hg];simp only[B0,Option.isSome_some]
 (refine W ?_;intro b)
 refine DL.Bj tt J J J J uP (by rw[hlen]) (ID I3.one) HS kO ?_;refine W ?_;refine DL.IE J J J J pK (hc _ _ _ hrl) hok (fun _=>aP) (fun _=>kO) ?_;rintro⟨er,rv',Re,X'⟩ ⟨h1,h2,h3,h4,h5⟩;dsimp only at h1 h2 h3 h4 h5⊢;refine W ?_;by_cases he:er=0
 ·subst he;rw[show decide (¬(0:Int)=0)=false by decide];refine W ?_;refine CW.dw [0,1,2,3,4,5,6] [A7 b rv' 219,JF b0 ob mb x] mixed hz kR pK nD ?_;refine W ?_;refine DL.GG tt J J J J J iN (by rw[h3]) ?_;refine DL.Ju (a:=id) (IA tt (kt:=3) J) tt J J J J J J uP (Du pK) ?_;refine W ?_;exact BD (0,rv',Re,X',_,_) ⟨h1,h2,h4,.inl ⟨rfl,(h5.resolve_right (fun h=>h.1 J)).2,rfl⟩⟩ (DC (RV.tmp J)) pK
 ·rw[show decide (¬er=0)=true by simp[he]];refine W ?_;exact BD (er,rv',Re,X',_,_) ⟨h1,h2,h4,.inr ⟨he,(h5.resolve_left (fun h=>he h.1)).2,rfl⟩⟩ (DC (RV.tmp J)) pK
theorem Xx{fv:Value}(hg:E9 L id=none):
 Fn Tryz.prog 192 [Au b,.int .i64 id,fv] [JF b ob mb x,DX (Value.int .i64) mb L clk] (E4 (.int .i64 6) [JF b ob mb x,DX (Value.int .i64) mb L clk]):=by
 refine Fn.of Tryz.func192 J J [_] J ?_
 (refine W ?_;refine DL.BS J J J pK (OM) kR aP kO ?_;refine W ?_)
 refine DL.I0 (a:=id) (L:=L) (clk:=clk) (IA tt (kt:=3) J) tt hz J J J J J J J (.there .here) ?_;rw[hg];simp only[EN,Option.isSome_none]
 (refine W ?_;intro b)
 refine DL.Bj tt J J J J uP HS (by
  intro u hu;simp only[Aj,Ab,List.mem_nil_iff,BX]at hu;rcases hu with(((((hu|hu)|hu)|hu)|hu)|hu)|hu
  ·rcases hu with rfl|rfl|rfl|rfl<;>rfl
  ·exact BV _ u hu
  ·subst hu;rfl
  ·exact BV _ u hu
  ·subst hu;rfl
  ·exact BV _ u hu
  ·subst hu;rfl) HS kO ?_
 exact W trivial
abbrev RlI:=Int×List CH×List CH
theorem at_rl{j j':Nat}{comp:List CH}{first cap:List Value}(h:M9 ob K [j] b comp)(hj:j<=j')(hok:E5 Tryz.prog f=true)(hc:∀mb x,PH (JF b ob mb x) (K+j) (K+j') f first cap X R)(hR:R 6 X):
 Fn Tryz.prog 192 [Au b,.int .i64 id,.func (.func f) first.toArray cap.toArray] [comp,X] (Dv (ι:=RlI) (fun i=>0<=i.1/\i.1<=30/\M9 ob K [j'] b i.2.1/\R i.1 i.2.2) (fun i=>.int .i64 i.1) (fun i=>[i.2.1,i.2.2])):=by
 obtain⟨j0,e,mb,x,L,clk,c,rfl,hx0,hx1,hp⟩:=h;cases e;cases hg:E9 L id with
 |none=>
  refine(Xx (ob:=ob) (mb:=mb) (b:=b) (clk:=clk) (x:=x) (fv:=.func (.func f) first.toArray cap.toArray) hg).Cd (F:=[c,X]) ?_ ?_
  ·refine C2 fun _ x=> ?_
   simp only[AW,A0,Am,AQ,AS,Ax];omega
  ·rintro e S' ⟨rfl,rfl⟩;refine⟨_,⟨(6,[JF b ob mb x,DX (Value.int .i64) mb L clk,c].flatten,X),⟨(show(0:Int)<=6 by decide),(show(6:Int)<=30 by decide),L6 hj ⟨j,rfl,mb,x,L,clk,c,rfl,hx0,hx1,hp⟩,hR⟩,rfl,rfl⟩,?_⟩;refine C2 fun _ x=> ?_
   simp only[AW,A0,Am,AQ,AS,Ax];omega
 |some v=>
  obtain⟨rv,lc,r,rfl,hrl,hperm,_,hset⟩:=hp.at_ hg;refine(Xw (ob:=ob) (mb:=mb) (b0:=b) (clk:=clk) (x:=x) hrl hg hok (hc mb x)).Cd (F:=[r]) ?_ ?_
  ·refine C2 fun _ x=> ?_
   have:=hperm.count_eq x;simp only[AW,A0,Am,AQ,AS,Ax]at this⊢;omega
  ·rintro e S' ⟨⟨er,rv',Re,X',L',JY⟩,⟨h1,h2,h3,h4⟩,rfl,rfl⟩;dsimp only at h1 h2 h3 h4⊢;rcases h4 with⟨rfl,h5,rfl⟩|⟨h5,rfl,rfl⟩
   ·obtain⟨c',h6,h7⟩:=hset (K+j') rv' Re clk I h5;refine⟨_,⟨(0,[JF b ob mb x,DX (Value.int .i64) mb (F8 L id (.agg rv'.toArray) clk) JY,c'].flatten,X'),⟨h1,h2,⟨j',rfl,mb,x,_,JY,c',rfl,hx0,hx1,h6⟩,h3⟩,rfl,rfl⟩,?_⟩;refine C2 fun _ x=> ?_
    have:=h7.count_eq x;simp only[AW,A0,Am,AQ,AS,Ax]at this⊢;omega
   ·refine⟨_,⟨(er,[JF b ob mb x,DX (Value.int .i64) mb L' JY,c].flatten,X'),⟨h1,h2,⟨j',rfl,mb,x,_,JY,c,rfl,hx0,hx1,hp.mono I⟩,h3⟩,rfl,rfl⟩,?_⟩;refine C2 fun _ x=> ?_
    have:=hperm.count_eq x;simp only[AW,A0,Am,AQ,AS,Ax]at this⊢;omega
variable{st:List CH}
theorem aAv:PH st m m 196 [] [] X (fun _ X'=>X'=X):=by
 rintro b7 rv lc ⟨r,lv,rfl,hok,I3⟩;refine Fn.of Tryz.func196 J J [_] J ?_;refine W ?_;by_cases h:r.st=1
 ·rw[show decide (¬r.st=1)=false by simp[h]];refine W ?_;refine DL.Br (cs':=Fv {r with st:=2} lv) tt J J J J J uP J J J (by rw[EP hok];decide) kO ?_;refine W ?_;exact BD (0,Fv {r with st:=2} lv,lc,X) ⟨(show(0:Int)<=0 by decide),(show(0:Int)<=30 by decide),EP (r:={r with st:=2}) ⟨hok.id,(show(-9223372036854775808:Int)<=2/\(2:Int)<=9223372036854775807 by decide),hok.a,hok.c,hok.dg,hok.key,hok.nx,hok.tr,hok.rc⟩,rfl,.inl ⟨rfl,_,_,rfl,⟨hok.id,(show(-9223372036854775808:Int)<=2/\(2:Int)<=9223372036854775807 by decide),hok.a,hok.c,hok.dg,hok.key,hok.nx,hok.tr,hok.rc⟩,I3⟩⟩ (DC (RV.tmp J)) pK
 ·rw[show decide (¬r.st=1)=true by simp[h]];refine W ?_;exact BD (7,Fv r lv,lc,X) ⟨(show(0:Int)<=7 by decide),(show(7:Int)<=30 by decide),EP hok,rfl,.inr ⟨(show(7:Int)≠0 by decide),rfl⟩⟩ (DC (RV.tmp J)) pK
theorem aAw:PH st m m 197 [] [] X (fun _ X'=>X'=X):=by rintro b7 rv lc ⟨r,lv,rfl,hok,I3⟩;refine Fn.of Tryz.func197 J J [_] J ?_;refine W ?_;refine DL.Br (cs':=Fv {r with st:=3} lv) tt J J J J J uP J J J (by rw[EP hok];decide) kO ?_;refine W ?_;exact BD (0,Fv {r with st:=3} lv,lc,X) ⟨(show(0:Int)<=0 by decide),(show(0:Int)<=30 by decide),EP (r:={r with st:=3}) ⟨hok.id,(show(-9223372036854775808:Int)<=3/\(3:Int)<=9223372036854775807 by decide),hok.a,hok.c,hok.dg,hok.key,hok.nx,hok.tr,hok.rc⟩,rfl,.inl ⟨rfl,_,_,rfl,⟨hok.id,(show(-9223372036854775808:Int)<=3/\(3:Int)<=9223372036854775807 by decide),hok.a,hok.c,hok.dg,hok.key,hok.nx,hok.tr,hok.rc⟩,I3⟩⟩ (DC (RV.tmp J)) pK
theorem aAx:PH st m m 203 [] [] X (fun _ X'=>X'=X):=by
 rintro b7 rv lc ⟨r,lv,rfl,hok,I3⟩;refine Fn.of Tryz.func203 J J [_] J ?_;refine W ?_;refine DL.ld1 tt J J J J J iN (QO hok) ?_;refine W ?_;by_cases h:0<r.rc
 ·rw[show decide (0<r.rc)=true by simp[h]];refine W ?_;exact BD (9,Fv r lv,lc,X) ⟨(show(0:Int)<=9 by decide),(show(9:Int)<=30 by decide),EP hok,rfl,.inr ⟨(show(9:Int)≠0 by decide),rfl⟩⟩ (DC (RV.tmp J)) pK
 ·rw[show decide (0<r.rc)=false by simp[h]];refine W ?_;exact BD (0,Fv r lv,lc,X) ⟨(show(0:Int)<=0 by decide),(show(0:Int)<=30 by decide),EP hok,rfl,.inl ⟨rfl,_,_,rfl,hok,I3⟩⟩ (DC (RV.tmp J)) pK
theorem aAy:PH st m m 230 [] [] X (fun _ X'=>X'=X):=by
 rintro b7 rv lc ⟨r,lv,rfl,hok,I3⟩;refine Fn.of Tryz.func230 J J [_] J ?_;refine W ?_;refine DL.ld1 tt J J J J J iN (QO hok) ?_;refine W ?_;by_cases h:r.rc=0
 ·rw[show decide (r.rc=0)=true by simp[h]];refine W ?_;exact BD (2,Fv r lv,lc,X) ⟨(show(0:Int)<=2 by decide),(show(2:Int)<=30 by decide),EP hok,rfl,.inr ⟨(show(2:Int)≠0 by decide),rfl⟩⟩ (DC (RV.tmp J)) pK
 ·rw[show decide (r.rc=0)=false by simp[h]];refine W ?_;refine DL.ld1 tt J J J J J iN (QO hok) ?_;refine DL.p tt J J J J ?_;refine W ?_;refine DL.Br (cs':=Fv {r with rc:=IntKind.i64.wrap (r.rc-1)} lv) tt J J J J J uP (RZ hok _) J J (by rw[EP hok];decide) kO ?_;refine W ?_;exact BD (0,Fv {r with rc:=IntKind.i64.wrap (r.rc-1)} lv,lc,X) ⟨(show(0:Int)<=0 by decide),(show(0:Int)<=30 by decide),EP (hok.rc' _),rfl,.inl ⟨rfl,_,_,rfl,hok.rc' _,I3⟩⟩ (DC (RV.tmp J)) pK
theorem aAz{bn:Nat}{x:Value}(hx:x.cells= #[x]):PH st m m 306 [] [Au bn] (A7 bn [x] 43) (fun er X'=>∃y:Value,X'=A7 bn [y] 43/\(er≠0->y=x)/\(er=0->∃z:Int,y=.int .u64 z/\0<=z/\z<=18446744073709551615)):=by
 rintro b7 rv lc ⟨r,lv,rfl,hok,I3⟩;refine Fn.of Tryz.func306 J J [_] J ?_;refine W ?_;refine DL.ld1 tt J J J J J iN (Xu hok) ?_;refine W ?_;by_cases h:r.nx=4294967296
 ·rw[show decide (r.nx=4294967296)=true by simp[h]];refine W ?_;exact BD (12,Fv r lv,lc,A7 bn [x] 43) ⟨(show(0:Int)<=12 by decide),(show(12:Int)<=30 by decide),EP hok,⟨x,rfl,fun _=>rfl,fun h=>absurd h (show¬(12:Int)=0 by decide)⟩,.inr ⟨(show(12:Int)≠0 by decide),rfl⟩⟩ (DC (RV.tmp J)) pK
 ·rw[show decide (r.nx=4294967296)=false by simp[h]];refine W ?_;refine DL.ld1 tt J J J J J iN (Xu hok) ?_;refine DL.p tt J J J J ?_;refine W ?_;refine DL.Br (cs':=Fv {r with nx:=IntKind.u64.wrap (r.nx+1)} lv) tt J J J J J uP (aK hok _) J J (by rw[EP hok];decide) kO ?_;refine W ?_;have hok2:=hok.nx' (r.nx+1);refine DL.ld1 tt J J J J J iN (show E1 (Fv {r with nx:=IntKind.u64.wrap (r.nx+1)} lv) 69=some (.int .u64 (IntKind.u64.wrap (r.nx+1)))from Xu hok2) ?_;skip
  refine DL.Br (cs':=[.int .u64 (IntKind.u64.wrap (r.nx+1))]) tt J J J J J uP J J J DI kO ?_;refine W ?_;exact BD (0,Fv {r with nx:=IntKind.u64.wrap (r.nx+1)} lv,lc,A7 bn [.int .u64 (IntKind.u64.wrap (r.nx+1))] 43) ⟨(show(0:Int)<=0 by decide),(show(0:Int)<=30 by decide),EP hok2,⟨_,rfl,fun h=>absurd J h,fun _=>⟨_,rfl,hok2.nx⟩⟩,.inl ⟨rfl,_,_,rfl,hok2,I3⟩⟩ (DC (RV.tmp J)) pK
theorem aAA{bd:Nat}(hD:D.length=32)(hb:BN D):PH st m m 193 [] [Au bd] (A7 bd (bs D) 23) (fun _ X'=>X'=A7 bd (bs D) 23):=by rintro b7 rv lc ⟨r,lv,rfl,hok,I3⟩;refine Fn.of Tryz.func193 J J [_] J ?_;refine W ?_;refine DL.LJ tt J J J J J iN (by rw[Aa,hD]) ?_;refine W ?_;refine DL.NM (vs:=bs D) (cs':=Fv {r with tr:=D} lv) tt J J J J uP (aM hok hD) (by rw[Aa,hD]) (BV _) (by rw[EP hok,Aa,hD];decide) kO ?_;refine W ?_;have hok2:=hok.tr' ⟨hD,hb⟩;exact BD (0,Fv {r with tr:=D} lv,lc,A7 bd (bs D) 23) ⟨(show(0:Int)<=0 by decide),(show(0:Int)<=30 by decide),EP hok2,rfl,.inl ⟨rfl,_,_,rfl,hok2,I3⟩⟩ (DC (RV.tmp J)) pK
theorem gX(hok:r.ok)(I3:J1 m lv lc)(hm:m<=4294967295):Fn Tryz.prog 186 [.agg (Fv r lv).toArray] [lc] (Dv (ι:=Value×List CH) (fun i=>J1 m i.1 i.2) (fun i=>.agg (Fv r i.1).toArray) (fun i=>[i.2,lc])):=by
 have hl:=EP (lv:=lv) hok;refine Fn.of Tryz.func186 J J [_] J ?_
 (refine W ?_;intro b;refine W ?_;intro b;refine W ?_)
 refine DL.ld1 tt J J J J J iN (Xt hok) ?_;refine DL.B7 J J J (F:=[lc]) pK (Rb I3 hm) kR (fun _=>aP) (fun _=>kO) ?_;rintro⟨Xv,Re⟩ h2;dsimp only at h2⊢;refine W ?_;obtain⟨p,n,cap,rfl,hn⟩:=h2.form;refine DL.Br (cs':=Fv r (.slice p n cap)) tt J J J J J uP (PE hok _) J J (by rw[hl];decide) kO ?_;refine W ?_;have hl2:=EP (lv:=.slice p n cap) hok;refine DL.LJ tt J J J J J iN (by rw[hl2]) ?_;refine DL.Bj tt J J J J uP (by rw[hl2]) (ID J) HS kO ?_;refine W ?_;exact Qq (.slice p n cap,Re) h2 (DC (RV.D8 tt J J J (In.mem iN) (by rw[hl2]))) pK
theorem aAB{bo:Nat}{cs:List Value}(hcs:cs.length=103)(hm:m<=4294967295):PH st m m 277 [] [Au bo] (A7 bo cs 219) (fun er X'=>∃r lv lc,X'=A7 bo (Fv r lv) 219++lc/\Rv.ok r/\J1 m lv lc):=by
 rintro b7 rv lc ⟨r,lv,rfl,hok,I3⟩;have hl:=EP (lv:=lv) hok;have key:Fn Tryz.prog 277 [Au b7,Au bo] [A7 b7 (Fv r lv) 219,lc,st,A7 bo cs 219] (Dv (ι:=Value×List CH) (fun i=>J1 m i.1 i.2) (fun i=>.int .i64 0) (fun i=>[A7 b7 (Fv r lv) 219,lc,st,A7 bo (Fv r i.1) 219,i.2])):=by refine Fn.of Tryz.func277 J J [_] J ?_;refine W ?_;refine DL.LJ tt J J J J J iN (by rw[hl]) ?_;refine DL.B7 J J J (F:=[lc]) pK (gX hok I3 hm) kR (fun _=>aP) (fun _=>kO) ?_;rintro⟨Xv,Re⟩ h2;dsimp only at h2⊢;have hl2:=EP (lv:=Xv) hok;refine DL.Bj tt J J J J uP (by rw[hl2]) (ID h2.one) (by rw[hcs]) kO ?_;refine W ?_;exact BD (Xv,Re) h2 (DC (RV.tmp J)) pK
 refine key.Cd (F:=[]) DI ?_;rintro e S' ⟨⟨Xv,Re⟩,h1,rfl,rfl⟩;dsimp only at h1⊢;refine⟨_,⟨(0,Fv r lv,lc,A7 bo (Fv r Xv) 219++Re),⟨(show(0:Int)<=0 by decide),(show(0:Int)<=30 by decide),hl,⟨r,Xv,Re,rfl,hok,h1⟩,.inl ⟨rfl,_,_,rfl,hok,I3⟩⟩,rfl,rfl⟩,by simp⟩
end
end Go.Proofs.YtfekkjbdcdnhlaaGreatDoor.Sep
