/- Lemmas for TopScrubs. No condition but those that each states. -/
import Derived.Test.YtfekkjbdcdnhlaaGreatDoorMau
import Derived.Test.YtfekkjbdcdnhlaaGreatDoorMaq
set_option linter.all false
set_option maxHeartbeats 8000000
set_option maxRecDepth 100000
namespace Go.Proofs.YtfekkjbdcdnhlaaGreatDoor.Sep
noncomputable section
abbrev X1(v0:Value)(m0 r0:Nat)(v3 v4 v5 v6 v7 v8 v9:Value):List Value:=[v0,Au m0,Au r0,v3,v4,v5,v6,v7,v8,v9]
variable{mb m0 ab n a:Nat}{v0 v2 v3 v4 v5 v6 v7 v8 v9:Value}
theorem ZQ(ha:a<18446744073709551616)(h1:a%128=0)(h2:a/128<n)(hn:n<=4096):
 Fn Tryz.prog 115 [Au mb,.int .u64 a] [A7 mb [v0,Au m0,v2,v3,v4,v5,v6,v7,v8,v9] 89,Dy m0 ab n] (E4 (.int .i64 ((a/128:Nat):Int)) [A7 mb [v0,Au m0,v2,v3,v4,v5,v6,v7,v8,v9] 89,Dy m0 ab n]):=by
 refine Fn.of Tryz.func115 J J [_] J ?_;have e1:decide ((a:Int).tmod 128=0)=true:=by rw[DJ I];exact Bq I
 have e2:IntKind.u64.wrap ((a:Int).tdiv 128)=((a/128:Nat):Int):=by rw[Di I,wu64 I];omega
 have e3:decide (((a/128:Nat):Int)<((n:Nat):Int))=true:=Bq I;refine wW ?_;rw[e1];refine wW ?_;refine DL.BS J J J pK (FA (mb:=m0) (ab:=ab) (n:=n)) kR aP D9 ?_;refine wW ?_;rw[e2]
 (try rw[e3])
 skip
 refine DL.BS J J J .nil (Nk (c:=1)) kR .nil D9 ?_;refine wW ?_;rw[e2];exact wW trivial
theorem WM(ha:a<18446744073709551616)(h1:¬(a%128=0/\a/128<n))(hn:n<=4096):
 Fn Tryz.prog 115 [Au mb,.int .u64 a] [A7 mb [v0,Au m0,v2,v3,v4,v5,v6,v7,v8,v9] 89,Dy m0 ab n] (ot (Nj 1) [A7 mb [v0,Au m0,v2,v3,v4,v5,v6,v7,v8,v9] 89,Dy m0 ab n]):=by
 refine Fn.of Tryz.func115 J J [_] J ?_;by_cases hm:a%128=0
 ·have e1:decide ((a:Int).tmod 128=0)=true:=by rw[DJ I];exact Bq I
  have e2:IntKind.u64.wrap ((a:Int).tdiv 128)=((a/128:Nat):Int):=by rw[Di I,wu64 I];omega
  have e3:decide (((a/128:Nat):Int)<((n:Nat):Int))=false:=BW I;refine wW ?_;rw[e1];refine wW ?_;refine DL.BS J J J pK (FA (mb:=m0) (ab:=ab) (n:=n)) kR aP D9 ?_;refine wW ?_;rw[e2]
  (try rw[e3])
  skip
  refine DL.call J J J .nil (K7 (c:=1)) kR ?_ (fun v S1 hr=>by cases hr.1);rintro ch S1 ⟨hc,rfl⟩;cases hc;simp only[AS,AQ];exact⟨_,[],pK,rfl,rfl⟩
 ·have e1:decide ((a:Int).tmod 128=0)=false:=by rw[DJ I];exact BW I
  refine wW ?_;rw[e1];refine wW ?_;refine DL.call J J J .nil (K7 (c:=1)) kR ?_ (fun v S1 hr=>by cases hr.1);rintro ch S1 ⟨hc,rfl⟩;cases hc;simp only[AS,AQ];exact⟨_,[],pK,rfl,rfl⟩
section
variable{mb m0 r0 ab rb n:Nat} {R:List Rw} {B:List Int} {v0 v3 v4 v5 v6 v7 v8 v9:Value}
abbrev aAQ:Value:=.agg [.int .u64 0,.int .u64 0,.int .u64 0,.int .u64 0].toArray
variable{j:Nat}{r:Rw}
theorem X2(hR:R.length=n)(hn:n<=4096)(hr:R[j]? =some r)(h0:r.1=0):Fn Tryz.prog 116 [Au mb,.int .i64 (j:Int)] [A7 mb (X1 v0 m0 r0 v3 v4 v5 v6 v7 v8 v9) 89,Ei r0 rb n,Em rb R] (E4 (.tuple #[]) [A7 mb (X1 v0 m0 r0 v3 v4 v5 v6 v7 v8 v9) 89,Ei r0 rb n,Em rb R]):=by
 refine Fn.of Tryz.func116 J J [] J ?_;refine wW ?_;have hh:=OC (tb:=r0) (rb:=rb) (g:=(j:Int)) J hR hn hr;rw[Bq h0]at hh;refine DL.BS J J J pK hh kR aP D9 ?_;skip
 refine DL.BS J J J .nil (Nk (c:=5)) kR .nil D9 ?_;exact wW trivial
theorem WN(hR:R.length=n)(hn:n<=4096)(hr:R[j]? =some r)(h0:r.1≠0):Fn Tryz.prog 116 [Au mb,.int .i64 (j:Int)] [A7 mb (X1 v0 m0 r0 v3 v4 v5 v6 v7 v8 v9) 89,Ei r0 rb n,Em rb R] (ot (Nj 5) [A7 mb (X1 v0 m0 r0 v3 v4 v5 v6 v7 v8 v9) 89,Ei r0 rb n,Em rb R]):=by
 refine Fn.of Tryz.func116 J J [] J ?_;refine wW ?_;have hh:=OC (tb:=r0) (rb:=rb) (g:=(j:Int)) J hR hn hr;rw[BW h0]at hh;refine DL.BS J J J pK hh kR aP D9 ?_;skip
 refine DL.call J J J .nil (K7 (c:=5)) kR ?_ (fun v S1 hr=>by cases hr.1);rintro ch S1 ⟨hc,rfl⟩;cases hc;simp only[AS,AQ];exact⟨_,[],pK,rfl,rfl⟩
end
section
variable{mb m0 r0 ab rb n a:Nat} {R:List Rw} {B:List Int} {v0 v3 v4 v5 v6 v7 v8 v9 a1 a2 a3 a4 a5:Value}
abbrev P6(mb m0 r0 ab rb n:Nat)(v0 v3 v4 v5 v6 v7 v8 v9:Value)(R:List Rw)(B:List Int):A2:=[A7 mb (X1 v0 m0 r0 v3 v4 v5 v6 v7 v8 v9) 89,Dy m0 ab n,EY ab B,Ei r0 rb n,Em rb R]
abbrev sB(a:Nat)(a1 a2 a3 a4 a5:Value):Value:=.agg [.int .u64 (a:Int),a1,a2,a3,a4,a5].toArray
def R70(mb m0 r0 ab rb n:Nat)(v0 v3 v4 v5 v6 v7 v8 v9:Value)(R:List Rw)(B:List Int):Ending->A2->Prop:=fun e S'=>
 (∃c,0<=c/\c<=100/\e=.panicked [{v:=Nj c,recovered:=false}]/\S'=P6 mb m0 r0 ab rb n v0 v3 v4 v5 v6 v7 v8 v9 R B)\/
 (e=.returned aAQ/\∃j r,R[j]? =some r/\r.1=0/\S'=P6 mb m0 r0 ab rb n v0 v3 v4 v5 v6 v7 v8 v9 (R.set j (1,0,r.2.2)) B)
theorem f70(ha:a<18446744073709551616)(hR:R.length=n)(hn:n<=4096):Fn Tryz.prog 70 [Au mb,sB a a1 a2 a3 a4 a5] (P6 mb m0 r0 ab rb n v0 v3 v4 v5 v6 v7 v8 v9 R B) (R70 mb m0 r0 ab rb n v0 v3 v4 v5 v6 v7 v8 v9 R B):=by
 show Fn Tryz.prog 70 _ [A7 mb (X1 v0 m0 r0 v3 v4 v5 v6 v7 v8 v9) 89,Dy m0 ab n,EY ab B,Ei r0 rb n,Em rb R] _;refine Fn.of Tryz.func70 J J [_] J ?_;by_cases hg:a%128=0/\a/128<n
 ·obtain⟨r,hr⟩:∃r,R[a/128]? =some r:=⟨_,AZ I⟩
  (refine W ?_;intro b;refine W ?_;intro b;refine W ?_)
  refine DL.Fg tt 0 J J J J J J Ba ?_;refine W ?_;refine DL.BS J J J pK (ZQ (mb:=mb) (m0:=m0) (ab:=ab) (v2:=Au r0) (v0:=v0) (v3:=v3) (v4:=v4) (v5:=v5) (v6:=v6) (v7:=v7) (v8:=v8) (v9:=v9) ha hg.1 hg.2 hn) kR aP D9 ?_;refine W ?_;by_cases h0:r.1=0
  ·refine DL.BS J J J pK (X2 (mb:=mb) (m0:=m0) (r0:=r0) (rb:=rb) (v0:=v0) (v3:=v3) (v4:=v4) (v5:=v5) (v6:=v6) (v7:=v7) (v8:=v8) (v9:=v9) hR hn hr h0) kR aP D9 ?_;refine W ?_;refine DL.BS J J J pK (step_ok (tb:=r0) (rb:=rb) (a:=0) (z:=1) (o:=0) J hR hn hr) kR aP D9 ?_;refine W ?_;by_cases hE:HT r 0 1 0=0
   ·rw[Bq hE];refine DL.BS J J J .nil (Nk (c:=6)) kR .nil D9 ?_;refine W ?_;have hS:H9 R (a/128) r 0 1 0=R.set (a/128) (1,0,r.2.2):=by unfold H9;rw[BE hE]
    rw[hS];refine wW ?_;exact⟨_,_,_,DC (RV.D8 tt J J J (In.mem iN) J),pK,.inr ⟨rfl,_,r,hr,h0,rfl⟩⟩
   ·rw[BW hE];have hS:H9 R (a/128) r 0 1 0=R:=by unfold H9;rw[Ah hE]
    rw[hS];refine DL.call J J J .nil (K7 (c:=6)) kR ?_ (fun v S1 hr=>by cases hr.1);rintro ch S1 ⟨hc,rfl⟩;cases hc;simp only[AS,AQ];exact⟨_,_,pK,.inl ⟨6,Ba,Ba,rfl,rfl⟩⟩
  ·refine DL.call J J J pK (WN (mb:=mb) (m0:=m0) (r0:=r0) (rb:=rb) (v0:=v0) (v3:=v3) (v4:=v4) (v5:=v5) (v6:=v6) (v7:=v7) (v8:=v8) (v9:=v9) hR hn hr h0) kR ?_ (fun v S1 hr=>by cases hr.1);rintro ch S1 ⟨hc,rfl⟩;cases hc;simp only[AS,AQ];exact⟨_,_,pK,.inl ⟨5,Ba,Ba,rfl,rfl⟩⟩
 ·(refine W ?_;intro b;refine W ?_;intro b;refine W ?_)
  refine DL.Fg tt 0 J J J J J J Ba ?_;refine W ?_;refine DL.call J J J pK (WM (mb:=mb) (m0:=m0) (ab:=ab) (v2:=Au r0) (v0:=v0) (v3:=v3) (v4:=v4) (v5:=v5) (v6:=v6) (v7:=v7) (v8:=v8) (v9:=v9) ha hg hn) kR ?_ (fun v S1 hr=>by cases hr.1);rintro ch S1 ⟨hc,rfl⟩;cases hc;simp only[AS,AQ];exact⟨_,_,pK,.inl ⟨1,Ba,Ba,rfl,rfl⟩⟩
end
section
variable{mb m0 r0 ab rb n a:Nat} {R:List Rw} {B:List Int} {v0 v3 v4 v5 v6 v7 v8 v9 a1 a2 a3 a4 a5:Value}
def R71(mb m0 r0 ab rb n:Nat)(v0 v3 v4 v5 v6 v7 v8 v9:Value)(R:List Rw)(B:List Int):Ending->A2->Prop:=fun e S'=>
 (∃c,0<=c/\c<=100/\e=.panicked [{v:=Nj c,recovered:=false}]/\S'=P6 mb m0 r0 ab rb n v0 v3 v4 v5 v6 v7 v8 v9 R B)\/
 (e=.returned aAQ/\∃j r,j<n/\R[j]? =some r/\r.1=1/\S'=P6 mb m0 r0 ab rb n v0 v3 v4 v5 v6 v7 v8 v9 (R.set j (0,0,r.2.2)) (ins B j (BQ 128)))
theorem f71(ha:a<18446744073709551616)(hR:R.length=n)(hn:n<=4096)(hB:B.length=128*n):Fn Tryz.prog 71 [Au mb,sB a a1 a2 a3 a4 a5] (P6 mb m0 r0 ab rb n v0 v3 v4 v5 v6 v7 v8 v9 R B) (R71 mb m0 r0 ab rb n v0 v3 v4 v5 v6 v7 v8 v9 R B):=by
 show Fn Tryz.prog 71 _ [A7 mb (X1 v0 m0 r0 v3 v4 v5 v6 v7 v8 v9) 89,Dy m0 ab n,EY ab B,Ei r0 rb n,Em rb R] _;refine Fn.of Tryz.func71 J J [_] J ?_;by_cases hg:a%128=0/\a/128<n
 ·obtain⟨r,hr⟩:∃r,R[a/128]? =some r:=⟨_,AZ I⟩
  (refine W ?_;intro b;refine W ?_;intro b;refine W ?_)
  refine DL.Fg tt 0 J J J J J J Ba ?_;refine W ?_;refine DL.BS J J J pK (ZQ (mb:=mb) (m0:=m0) (ab:=ab) (v2:=Au r0) (v0:=v0) (v3:=v3) (v4:=v4) (v5:=v5) (v6:=v6) (v7:=v7) (v8:=v8) (v9:=v9) ha hg.1 hg.2 hn) kR aP D9 ?_;refine W ?_;refine DL.BS J J J pK (OB (tb:=r0) (rb:=rb) J hR hn hr) kR aP D9 ?_
  (refine W ?_;intro b)
  refine DL.Bj tt J J J J uP lN aL lN kO ?_;refine W ?_;by_cases h1:r.1=1
  ·rw[Bq h1];refine DL.BS J J J .nil (Nk (c:=5)) kR .nil D9 ?_;refine W ?_;by_cases h2:r.2.2=0
   ·rw[Bq h2];refine DL.BS J J J .nil (Nk (c:=6)) kR .nil D9 ?_;refine W ?_;refine DL.BS J J J pK (eX (mb:=m0) (ab:=ab) hg.2 hB) kR aP D9 ?_;refine W ?_;refine DL.BS J J J pK (step_ok (tb:=r0) (rb:=rb) (a:=1) (z:=0) (o:=0) J hR hn hr) kR aP D9 ?_;refine W ?_;have hE:HT r 1 0 0=0:=by unfold HT PT;rw[BE (.inr (.inl ⟨rfl,rfl⟩))];simp[h1,h2]
    have hS:H9 R (a/128) r 1 0 0=R.set (a/128) (0,0,r.2.2):=by unfold H9;rw[BE hE]
    rw[hS];refine wW ?_;exact⟨_,_,_,DC (RV.D8 tt J J J (In.mem iN) J),pK,.inr ⟨rfl,_,r,hg.2,hr,h1,rfl⟩⟩
   ·rw[BW h2];refine DL.call J J J .nil (K7 (c:=6)) kR ?_ (fun v S1 hr=>by cases hr.1);rintro ch S1 ⟨hc,rfl⟩;cases hc;simp only[AS,AQ];exact⟨_,_,pK,.inl ⟨6,Ba,Ba,rfl,rfl⟩⟩
  ·rw[BW h1];refine DL.call J J J .nil (K7 (c:=5)) kR ?_ (fun v S1 hr=>by cases hr.1);rintro ch S1 ⟨hc,rfl⟩;cases hc;simp only[AS,AQ];exact⟨_,_,pK,.inl ⟨5,Ba,Ba,rfl,rfl⟩⟩
 ·(refine W ?_;intro b;refine W ?_;intro b;refine W ?_)
  refine DL.Fg tt 0 J J J J J J Ba ?_;refine W ?_;refine DL.call J J J pK (WM (mb:=mb) (m0:=m0) (ab:=ab) (v2:=Au r0) (v0:=v0) (v3:=v3) (v4:=v4) (v5:=v5) (v6:=v6) (v7:=v7) (v8:=v8) (v9:=v9) ha hg hn) kR ?_ (fun v S1 hr=>by cases hr.1);rintro ch S1 ⟨hc,rfl⟩;cases hc;simp only[AS,AQ];exact⟨_,_,pK,.inl ⟨1,Ba,Ba,rfl,rfl⟩⟩
end
def nS(b:Nat)(cs:List Value)(t:Nat):List CH:=[(b,.cells cs.toArray t (cs.length,cs.length+1))]
section
variable{P:Program} {T:Tr} {n:Nat} {K:Option A2} {Q:EX} {fr:Fr} {S:A2} {rest:List FO}
variable{i ty d:Nat} {pos:String} {af:Array Edge} {gd g:Option (Nat×Bool)}
theorem YD(w:World)(b k t:Nat)(cs:Array Value)(h:w.heap[b]? =some (.cells cs t (0,0))):(w.freeze ⟨b,k,none⟩ 1).heap[b]? =some (.cells cs t (k,k+1)):=by unfold World.freeze;rw[Ah Ba];simp only[Array.getElem?_modify,C9,h,CZ];rfl
theorem U5(w:World)(b k j:Nat)(hj:j≠b):(w.freeze ⟨b,k,none⟩ 1).heap[j]? =w.heap[j]? :=by unfold World.freeze;rw[Ah Ba];simp only[Array.getElem?_modify,Ah (Ne.symm hj)]
theorem DL.mark(hT:Dp P T=true){t e sz b m c:Nat}{szk:Nat}{x:Operand}{cs:List Value}{U:A2}(hg:lg fr g=some true)(hn:Nat.blt d n=true)(ht:T.get t=some ⟨.sl e 1,sz⟩)(hte:T.get e=some ⟨.int .u8,szk⟩)(hx:Eg fr x=some (.slice (some ⟨b,0,none⟩) m c))(hp:Gg (A7 b cs e) S U)(hK:Ge K (nS b cs e::U))(h:DL P n K Q rest ((d,.slice (some ⟨b,0,none⟩) m c)::fr) (nS b cs e::U)):
 DL P n K Q (⟨i,⟨some d,.convert t t x,ty,pos,af,gd⟩,g⟩::rest) fr S:=by
 refine .eff (fun v S'=>v=.slice (some ⟨b,0,none⟩) m c/\S'=nS b cs e::U) (fun _ _=>False) (.inl (by simp[B5])) hg (fun e he=>by cases he;simpa using hn) ?_ (fun _ _ h=>h.elim) (by rintro v S' ⟨rfl,rfl⟩;exact hK) (by rintro v S' ⟨rfl,rfl⟩;exact h);intro A V a w hk hs;obtain⟨hu,_⟩:=Et hT ht J;have hue:=HF hT hte J;have hs1:=hs.perm (hp.perm.append_right V);have hblk:w.heap[b]? =some (.cells cs.toArray e (0,0)):=hs1.has (b,_) (by simp[A7]);have hsh:w.shape? b=some (e,cs.length):=by unfold World.shape?;rw[hblk];simp
 have hrun:(execOp a.eval ⟨some d,.convert t t x,ty,pos,af,gd⟩).run P w=.ok (.value (.slice (some ⟨b,0,none⟩) m c)) (w.freeze ⟨b,cs.length,none⟩ 1):=by have hx':=hk.eval hx;simp[execOp,hx',convert,Ac hu,Ac hue,markStringish,hsh]
 rw[Fq,hrun];refine⟨nS b cs e::U,?_,rfl,rfl⟩;exact Ds.put (S:=U++V) (b:=b) (o:=.cells cs.toArray e (0,0)) hs1 J J J (by simp[World.freeze]) (YD w b cs.length e cs.toArray hblk) (fun k hk hne=>U5 w b cs.length k hne)
theorem kg{w:World}{b t:Nat}{cs:List Value}{k:Nat×Nat}(h:w.heap[b]? =some (.cells cs.toArray t k))(j:Nat):w.cell? ⟨b,j,none⟩=cs[j]? :=by simp[World.cell?,h]
theorem DO.nS(hT:Dp P T=true){tx e sz b m c bt:Nat}{cs:List Value}(ht:T.get tx=some ⟨.sl e 1,sz⟩)(hm:In (nS b cs bt) S)(hl:cs.length=m)(h1:∀u∈cs,u.oneCell'=true):
 DO P 1 S tx (.slice (some ⟨b,0,none⟩) m c) m cs:=fun A U w hs=>by
 have hb:w.heap[b]? =some (.cells cs.toArray bt (cs.length,cs.length+1)):=hs.has (b,_) (List.mem_flatten.2 ⟨Sep.nS b cs bt,A3 _ hm.mem,AP.2 J⟩);have hc:=kg hb;refine Src.ofSlice w (Et hT ht J).1 _ m c cs I (fun j u hj=> ?_) h1;rw[DD,hc];simpa using hj
end
variable{k:Nat}
theorem f386{q5 m:Nat}{v x:Value}{cs news:List Value}{c cx:List CH}(hv:LV 5 1 k cs v c)(hx:∀S,In cx S->DO Tryz.prog 1 S 53 x m news)(hm:0<m)(hnl:news.length=m)(hb:k+m<=1000):
 Fn Tryz.prog 386 ([]++[x]++[Au q5]) [A7 q5 [v] 53,c,cx] (Dv (ι:=Value×List CH) (fun i=>LV 5 1 (k+m) (cs++news) i.1 i.2) (fun _=>.tuple #[]) (fun i=>[A7 q5 [i.1] 53,i.2,cx])):=by
 refine Fn.of Tryz.func386 J J [] J ?_;have ho:=hv.one;have hc:=hv.cells;refine W ?_;refine C6 tt J J J W5 J hv Es (hx _ iN) hm I I I kC ?_;intro v' c' hv';have ho':=hv'.one;have hc':=hv'.cells;skip
 refine DL.Br (cs':=[v']) tt J J J J hc' uP J J ho' lN kO ?_;refine W ?_;exact Qq (v',c') hv' res0 pK
abbrev J3:List Value:=[.int .u8 114,.int .u8 101,.int .u8 112,.int .u8 111,.int .u8 114,.int .u8 116,.int .u8 0,.int .u8 0]
def wu:Nat->Nat
 |0=>0
 |1=>8
 |2=>16
 |3=>48
 |_=>80
def wv(g:Int)(As Bs:List Value):Nat->List Value
 |0=>[]
 |1=>[]++J3
 |2=>[]++J3++bs (Ek g 8)
 |3=>[]++J3++bs (Ek g 8)++As
 |_=>[]++J3++bs (Ek g 8)++As++Bs
theorem f380{g:Int}{As Bs:List Value}(hg:0<=g/\g<=18446744073709551615)(hA:As.length=32)(hB:Bs.length=32)(h1:∀u∈As,u.oneCell'=true)(h2:∀u∈Bs,u.oneCell'=true):
 Fn Tryz.prog 380 [.agg (Value.int .u64 g::(As++Bs)).toArray] [] (Dv (ι:=Value×List CH) (fun i=>LV 5 1 80 ([]++J3++bs (Ek g 8)++As++Bs) i.1 i.2) (fun i=>i.1) (fun i=>[i.2])):=by
 refine Fn.of Tryz.func380 J J [_] J ?_;have hone:∀u∈Value.int .u64 g::(As++Bs),u.oneCell'=true:=by
  intro u hu;simp only[Aj,Ab]at hu;rcases hu with rfl|hu|hu
  ·rfl
  ·exact h1 u hu
  ·exact h2 u hu
 have hlen:(Value.int .u64 g::(As++Bs)).length=65:=by simp[hA,hB]
 (refine W ?_;intro b;refine W ?_)
 refine DL.call J J J (.nil) (eY hg.1 hg.2) kR (fun ch S1 hc=>by obtain⟨_,_,_,_,_,hc,_⟩:=hc;cases hc) ?_;rintro v S1 ⟨wb,ED,IU,hw1,hw2,hv,rfl⟩;cases hv;refine⟨D9,?_⟩;simp only[AQ,AS,Dc]
 (refine W ?_;intro b;refine W ?_)
 rename_i q1;obtain⟨q5,hq5⟩:∃q5,q5=b:=⟨_,rfl⟩
 subst hq5;refine CW.dw [9,2,3,4,5,6,0,1,7,8] [] mixed hz kR pK nD ?_;refine W ?_;refine DL.Ld tt (l:=0) (m:=32) (c:=32) J J J J J J J .all ?_;refine W ?_;refine DL.Ld tt (l:=0) (m:=32) (c:=32) J J J J J J J .all ?_;simp only[Ah (show¬(32:Nat)=0 by decide),Nat.zero_mul,CV,Df]
 (refine W ?_;intro b)
 obtain⟨q16,wI⟩:∃q16,q16=b:=⟨_,rfl⟩
 subst wI;refine DL.mark tt (cs:=J3) J J J J J Es kO ?_
 (refine W ?_;intro b;refine W ?_)
 obtain⟨tb,htb⟩:∃tb,tb=b:=⟨_,rfl⟩
 subst htb;refine CW.YA ?_;refine CW.loop (ι:=Nat×Value×List CH) (fun i=>4-i.1) (fun i=>i.1<=4/\LV 5 1 (wu i.1) (wv g As Bs i.1) i.2.1 i.2.2) (fun i=>[(5,Au q5),(6,.func (.func 386) #[] #[Au q5]),(23,.slice (some ⟨tb,0,none⟩) 4 4),(24,.int .i64 4),(25,.int .i64 i.1)]) (fun i=>[A7 tb [.slice (some ⟨q16,0,none⟩) 8 8,.slice (some ⟨wb,0,none⟩) 8 ED,.slice (some ⟨q1,1,none⟩) 32 32,.slice (some ⟨q1,33,none⟩) 32 32] 53,Sep.nS q16 J3 5,A7 q5 [i.2.1] 53,i.2.2,II wb (Ek g 8) IU,A7 q1 (Value.int .u64 g::(As++Bs)) 106]) (0,.slice none 0 0,[]) ⟨I,LV.nil⟩ sF pK ?_;rintro⟨i,v,c⟩ ⟨hi,hv⟩;dsimp only at hi hv⊢;have ho:=hv.one;have hc:=hv.cells;refine W ?_;by_cases h:i<4
 ·refine CW.Gp J I ?_;refine W ?_;have h4:i=0\/i=1\/i=2\/i=3:=I;rcases h4 with rfl|rfl|rfl|rfl
  ·refine DL.C3 tt 0 J J J J J J Ba ?_;refine W ?_;refine DL.IE J J J J (F:=[A7 q5 [v] 53,c,Sep.nS q16 J3 5]) pK (f386 hv (fun S hm=>DO.nS tt J hm J (by intro u hu;simp only[Ab,Az,BX]at hu;rcases hu with rfl|rfl|rfl|rfl|rfl|rfl|rfl|rfl<;>rfl)) Ba (by first|rfl|(simp[Aa,Ey, *];done)) Ba) kR (fun _=>aP) (fun _=>kO) ?_;rintro⟨v',c'⟩ hv';dsimp only at hv'⊢;refine W ?_;exact⟨(1,v',c'),_,by simp,⟨by simp,hv'⟩,sF,pK⟩
  ·refine DL.C3 tt 1 J J J J J J Ba ?_;refine W ?_;refine DL.IE J J J J (F:=[A7 q5 [v] 53,c,II wb (Ek g 8) IU]) pK (f386 hv (fun S hm=>DO.slice tt J hm (by rw[BL,Ar (by simp[Aa,Ey]),AX (by simp[Aa,Ey])]) (by simp[Aa,Ey]) (BV _)) Ba (by first|rfl|(simp[Aa,Ey, *];done)) Ba) kR (fun _=>aP) (fun _=>kO) ?_;rintro⟨v',c'⟩ hv';dsimp only at hv'⊢;refine W ?_;exact⟨(2,v',c'),_,by simp,⟨by simp,hv'⟩,sF,pK⟩
  ·refine DL.C3 tt 2 J J J J J J Ba ?_;refine W ?_;refine DL.IE J J J J (F:=[A7 q5 [v] 53,c,A7 q1 (Value.int .u64 g::(As++Bs)) 106]) pK (f386 hv (fun S hm=>DO.slice tt J hm (by simp[hA,C4,AX]) (by simp[hA]) h1) Ba (by first|rfl|(simp[Aa,Ey, *];done)) Ba) kR (fun _=>aP) (fun _=>kO) ?_;rintro⟨v',c'⟩ hv';dsimp only at hv'⊢;refine W ?_;exact⟨(3,v',c'),_,by simp,⟨by simp,hv'⟩,sF,pK⟩
  ·refine DL.C3 tt 3 J J J J J J Ba ?_;refine W ?_;refine DL.IE J J J J (F:=[A7 q5 [v] 53,c,A7 q1 (Value.int .u64 g::(As++Bs)) 106]) pK (f386 hv (fun S hm=>DO.slice tt J hm (by simp[hA,hB,CM,BJ,AX]) (by simp[hB]) h2) Ba (by first|rfl|(simp[Aa,Ey, *];done)) Ba) kR (fun _=>aP) (fun _=>kO) ?_;rintro⟨v',c'⟩ hv';dsimp only at hv'⊢;refine W ?_;exact⟨(4,v',c'),_,by simp,⟨by simp,hv'⟩,sF,pK⟩
 ·obtain rfl:i=4:=I;refine CW.GM J I ?_;refine W ?_;exact BD (v,c) hv (DC (RV.tmp J)) pK
def wx:F5:=fun args s=>match args with
 |[.agg l]=>bif G0 l (Bw::List.replicate 64 OF)&&s.room then some [.val (.G3 s.nx 80) (s.new (.grown (List.replicate 80 OF) 5 1))]else none
 |_=>none
theorem aBl{RS:EA}:ET Tryz.prog RS 380 wx:=by
 intro args s rs hc p hst hp vs hvs;subst hst;unfold wx at hc;split at hc
 ·rename_i l;cases hcond:G0 l (Bw::List.replicate 64 OF)&&p.st.room<;>rw[hcond]at hc<;>simp only[AN,AO,reduceCtorEq,AH]at hc;subst hc;simp only[AI]at hcond;obtain⟨h1,hroom⟩:=hcond;cases hvs with|cons k1 hvs=>
  cases hvs;cases k1 with| @agg _ ws k1=>
  have k1:=GR k1 h1;cases k1 with|cons k2 k3=>
  cases k2 with| @int _ _ _ z q1 q2=>
  have hz:=JX ⟨q1,q2⟩;obtain⟨D,rfl,hD,hDl⟩:=J0 (m:=64) k3;have hDe:bs D=bs (D.take 32)++bs (D.drop 32):=by rw[H8,CS]
  intro A U w hs;have hs':Ds A w ([]++(p.S++U)):=by simpa using hs
  have hf:=f380 (g:=z) (As:=bs (D.take 32)) (Bs:=bs (D.drop 32)) hz (by rw[Aa,BP,hDl];rfl) (by rw[Aa,B9,hDl]) (BV _) (BV _);rw[<-hDe]at hf;refine(hf A _ w hs').mono ?_;rintro e w' ⟨h0,S',h6,⟨v,c⟩,hv,rfl,rfl⟩;dsimp only at hv h6⊢;rcases hv with⟨hv,_⟩|⟨b,cap,ex,rfl,g1,g2,g3,rfl⟩
  ·cases hv
  ·have hX:[]++J3++bs (Ek z 8)++bs (D.take 32)++bs (D.drop 32)=bs ([114,101,112,111,114,116,0,0]++Ek z 8++D):=by rw[AU _ (bs (D.take 32)),<-hDe];show(bs [114,101,112,111,114,116,0,0]++bs (Ek z 8))++bs D=_;rw[H8,H8]
   have hb:BN ([114,101,112,111,114,116,0,0]++Ek z 8++D):=by
    intro x hx;simp only[Aj]at hx;rcases hx with(hx|hx)|hx
    ·simp only[Ab,Az,BX]at hx;omega
    ·exact JE _ _ x hx
    ·exact hD x hx
   have hcb:=IX (ρ:=p.ρ++[(b,cap)]) hb;have hl:([114,101,112,111,114,116,0,0]++Ek z 8++D).length=80:=by simp[Ey,hDl]
   rw[hl,<-hX]at hcb;have hcon:Da RS (p.ρ++[(b,cap)]) p.st.nx (.grown (List.replicate 80 OF) 5 1) (A7 b (([]++J3++bs (Ek z 8)++bs (D.take 32)++bs (D.drop 32))++ex) 5):=Da.grown (Pt.EZ hp (b,cap)) hcb (by rw[g2,g3];omega)
   exact⟨h0,_::p.S,by simpa using h6,.inl ⟨_,_,BH,p.new (b,cap) (.grown (List.replicate 80 OF) 5 1) _,_,rfl,rfl,rfl,.new hp _ _ _,hp.new hroom _ hcon,.G3 (Pt.EZ hp _) g1,rfl⟩⟩
 ·cases hc
variable{P:Program}{K:Option A2}{Q:EX}{fr:Fr}{S:A2}{l:List FO}
theorem DL.Yh{An:List Oper}{o:List Nat}(e:E2 An o=l)(h:DL P n K Q l fr S):DL P n K Q (E2 An o) fr S:=e▸h
theorem rE{rb:Nat}{v1:Value}(h0:∀u∈[v0,v1,v2,v3,v4],u.oneCell'=true):Fn Tryz.prog 22 [Au mb] [A7 mb (X0 v0 v1 v2 v3 v4 rb v6 v7 v8 v9) 89] (E4 (.agg [v0,v1,v2,v3,v4].toArray) [A7 mb (X0 v0 v1 v2 v3 v4 rb v6 v7 v8 v9) 89]):=by
 refine Fn.of Tryz.func22 J J [_] J ?_
 (refine wW ?_;intro b;refine wW ?_)
 refine DL.BS J J J (.cons (.there .here) .nil) ZO kR aP D9 ?_;refine wW ?_;refine DL.HQ tt (cs:=X0 v0 v1 v2 v3 v4 rb v6 v7 v8 v9) (vs:=[v0,v1,v2,v3,v4]) J J J J J BH J J ?_;refine DL.Bj tt J J J J uP J h0 J D9 ?_;exact wW trivial
def QD(B:List Int)(R:List Rw)(g:Nat):List Int:=match R[g]? with
 |some r=>if r.1=0 then sub B g else BQ 128
 |none=>BQ 128
def J4(R:List Rw)(k:Nat):List Value:=(R.take k).map fun r=>.int .i64 r.1
def Jj(B:List Int)(R:List Rw)(k:Nat):List Int:=(List.range k).flatMap (QD B R)
variable{R:List Rw}
theorem W2{B:List Int}{g n:Nat}(h:B.length=128*n)(hR:R.length=n):(QD B R g).length=128:=by
 unfold QD;split
 ·rename_i r hr;split
  ·exact N4 h (by have:=(Ae.1 hr).1;omega)
  ·exact Bn _
 ·exact Bn _
variable{r:Rw}
theorem dZ(h:R[k]? =some r):J4 R (k+1)=J4 R k++[.int .i64 r.1]:=by obtain⟨h1,h2⟩:=Ae.1 h;simp only[J4];rw[List.take_succ_eq_append_getElem h1,Ai,h2];rfl
theorem MZ(B:List Int)(R:List Rw)(k:Nat):Jj B R (k+1)=Jj B R k++QD B R k:=by simp only[Jj,List.range_succ,List.flatMap_append,List.flatMap_cons,List.flatMap_nil,Am]
def Oh(i:Nat):Code->Option (List Oper)
 | .region id An _=>if id=i then some An.toList else none
 | .seq a b=>match Oh i a with|some x=>some x|none=>Oh i b
 | .cond _ a b=>match Oh i a with|some x=>some x|none=>Oh i b
 | .block _ a=>Oh i a
 | .loop a=>Oh i a
 | .scope a=>Oh i a
 |_=>none
def tN(f:Func)(i:Nat):List Oper:=match f.body with
 |some c=>(Oh i c).getD []
 |none=>[]
theorem da(An:List Oper)(a b:List Nat):E2 An (a++b)=E2 An a++E2 An b:=by rw[G7,G7,G7,Ai]
theorem DL.split{An:List Oper}{o1 o2:List Nat}(e:E2 An o1=l)(h:DL P n K Q (l++E2 An o2) fr S):DL P n K Q (E2 An (o1++o2)) fr S:=by rw[da,e];exact h
variable{AG:A2}
theorem Eh{a b c d e:List CH}:DV (a::b::c::d::e::AG) AG [a,b,c,d,e]:=Hn [a,b,c,d,e] AG
theorem Yi{q3 q6 q8 g:Nat}{sv hv bv:Value}{sc hc bc:List CH}{X:List Int}{nM hcs:List Value}{bcs:List Value}(hg:g<4096)(g2:LV 56 1 g nM sv sc)(g3:LV 3 1 g hcs hv hc)(g4:LV 58 128 g bcs bv bc)(Hw:X.length=128)(hfr:Eo [(3,Au q3),(6,Au q6),(8,Au q8)] fr)
 (h:∀sv' sc' hv' hc' MH bc',LV 56 1 (g+1) (nM++[.int .i64 r.1]) sv' sc'->LV 3 1 (g+1) (hcs++[.int .i64 r.2.2]) hv' hc'->LV 58 128 (g+1) (bcs++bs X) MH bc'->∀fr' S' V,(∀t v,t<35->lk fr t=some v->lk fr' t=some v)->DV S' (A7 q3 [sv',hv',MH] 40::sc'::hc'::bc'::AG) V->Q.go .normal fr' S'):
 CW Tryz.prog 57 (.region 10 (tN Tryz.f8 10).toArray true) Q fr (A7 q8 (bs X) 58::A7 q6 (P1 r) 93::A7 q3 [sv,hv,bv] 40::sc::hc::bc::AG):=by
 have hbl:(bs X).length=128:=(Aa _).trans Hw;have VV:List.take (1*128) (List.drop 0 (bs X))=bs X:=by rw[BL,AX I]
 have l3:lk fr 3=some (Au q3):=hfr 3 _ J;have l6:lk fr 6=some (Au q6):=hfr 6 _ J;have l8:lk fr 8=some (Au q8):=hfr 8 _ J;have hx:∀t,lk ((3,Au q3)::(6,Au q6)::(8,Au q8)::fr) t=lk fr t:=fun t=>by
  have e:∀(s:Nat) (u:Value) (f:Fr),lk f s=some u->lk ((s,u)::f) t=lk f t:=fun s u f hs=>by
   simp only[lk,GH];by_cases hst:s=t
   ·subst hst;simp[hs]
   ·simp[hst]
  rw[e,e,e]
  ·exact l8
  ·rw[show lk ((8,Au q8)::fr) 6=lk fr 6 from rfl];exact l6
  ·rw[show lk ((6,Au q6)::(8,Au q8)::fr) 3=lk fr 3 from rfl];exact l3
 refine CW.sub (fr:=(3,Au q3)::(6,Au q6)::(8,Au q8)::fr) ?_ (.cons l3 (.cons l6 (.cons l8 (.refl _))));have over:∀(d:Nat) (v:Value) (f:Fr) (t:Nat),t<d->lk ((d,v)::f) t=lk f t:=fun d v f t ht=>by simp only[lk,GH,BW (show¬d=t by omega),AO]
 simp only[tN,Tryz.f8,Oh,reduceIte,Nat.reduceEqDiff,Nat.reduceEqDiff,Nat.reduceAdd,B0];refine CW.dF (id:=10) [[17,0,1,2,3,6,7,8,9,12,13,14,4,5,10,11,15,16],[17,0,1,2,3,6,7,8,9,12,13,14,4,5,10,15,11,16],[17,0,1,2,3,6,7,8,9,12,13,14,4,5,15,10,11,16],[17,0,1,2,3,6,7,8,9,12,13,14,4,10,5,11,15,16],[17,0,1,2,3,6,7,8,9,12,13,14,4,10,5,15,11,16],[17,0,1,2,3,6,7,8,9,12,13,14,4,10,15,5,11,16],[17,0,1,2,3,6,7,8,9,12,13,14,4,15,5,10,11,16],[17,0,1,2,3,6,7,8,9,12,13,14,4,15,10,5,11,16],[17,0,1,2,3,6,7,8,9,12,13,14,10,4,5,11,15,16],[17,0,1,2,3,6,7,8,9,12,13,14,10,4,5,15,11,16],[17,0,1,2,3,6,7,8,9,12,13,14,10,4,15,5,11,16],[17,0,1,2,3,6,7,8,9,12,13,14,10,15,4,5,11,16],[17,0,1,2,3,6,7,8,9,12,13,14,15,4,5,10,11,16],[17,0,1,2,3,6,7,8,9,12,13,14,15,4,10,5,11,16],[17,0,1,2,3,6,7,8,9,12,13,14,15,10,4,5,11,16]] [17,0,1,2,3,6,7,8,9,12,13,14,4,5,10,11,15,16] [18,19,20,21,22] [A7 q3 [sv,hv,bv] 40,A7 q6 (P1 r) 93,A7 q8 (bs X) 58] [] mixed hz kR pK nD ?_;intro o ho;obtain⟨q,rfl,hq⟩:∃q,o=[17,0,1,2,3,6,7,8,9,12,13,14]++q/\q∈[[4,5,10,11,15,16],[4,5,10,15,11,16],[4,5,15,10,11,16],[4,10,5,11,15,16],[4,10,5,15,11,16],[4,10,15,5,11,16],[4,15,5,10,11,16],[4,15,10,5,11,16],[10,4,5,11,15,16],[10,4,5,15,11,16],[10,4,15,5,11,16],[10,15,4,5,11,16],[15,4,5,10,11,16],[15,4,10,5,11,16],[15,10,4,5,11,16]]:=by simp only[Ab,Az,BX]at ho;rcases ho with rfl|rfl|rfl|rfl|rfl|rfl|rfl|rfl|rfl|rfl|rfl|rfl|rfl|rfl|rfl<;>exact⟨_,rfl,by simp⟩
 refine DL.split nD ?_;simp only[AQ,AS];refine W ?_;refine DL.GG tt J J J J J iN hbl ?_;skip
 simp only[Ab,Az,BX]at hq;rcases hq with rfl|rfl|rfl|rfl|rfl|rfl|rfl|rfl|rfl|rfl|rfl|rfl|rfl|rfl|rfl
 ·refine DL.Yh nD ?_;refine DL.bs tt J J J eL J J J Iq Ip I kO ?_;intro b4;refine C6 tt J J J Md J g2 Es (DO.slice tt (cs:=[.int .i64 r.1]) (news:=[.int .i64 r.1]) J iN J J (by simp[Value.oneCell'])) I J I I kC ?_;intro sv' sc' g2';refine DL.bs tt J J J eL J J J Iq Ip I kO ?_;intro b10;refine C6 tt J J J el3 J g3 Es (DO.slice tt (cs:=[.int .i64 r.2.2]) (news:=[.int .i64 r.2.2]) J iN J J (by simp[Value.oneCell'])) I J I I kC ?_;intro hv' hc' g3';refine DL.bs tt J J J eL J J J Iq Ip I kO ?_;intro b15;refine C6 tt J J J Le J g4 Es (DO.slice tt (cs:=bs X) (news:=bs X) J iN VV (by rw[Bi];exact hbl) (BV _)) I (by rw[Bi];exact hbl) I I kC ?_;intro MH bc' g4';with_reducible apply DL.done
  refine Fe (Du .nil) ?_;refine DL.Br (cs':=[sv',hv,bv]) tt J J J J g2'.cells uP J J g2'.one lN (Du .nil) ?_;refine W ?_;refine DL.Br (cs':=[sv',hv',bv]) tt J J J J g3'.cells uP J J g3'.one lN (Du .nil) ?_;refine W ?_;refine DL.Br (cs':=[sv',hv',MH]) tt J J J J g4'.cells uP J J g4'.one lN (Du .nil) ?_;with_reducible apply DL.done
  exact h _ _ _ _ _ _ g2' g3' g4' _ _ _ (fun t v ht hv=>by(repeat rw[over _ _ _ t I]);rw[hx];exact hv) (.cons Es (.cons Es (.cons Es (.cons Es Eh))))
 ·refine DL.Yh nD ?_;refine DL.bs tt J J J eL J J J Iq Ip I kO ?_;intro b4;refine C6 tt J J J Md J g2 Es (DO.slice tt (cs:=[.int .i64 r.1]) (news:=[.int .i64 r.1]) J iN J J (by simp[Value.oneCell'])) I J I I kC ?_;intro sv' sc' g2';refine DL.bs tt J J J eL J J J Iq Ip I kO ?_;intro b10;refine DL.bs tt J J J eL J J J Iq Ip I kO ?_;intro b15;refine C6 tt J J J el3 J g3 Es (DO.slice tt (cs:=[.int .i64 r.2.2]) (news:=[.int .i64 r.2.2]) J iN J J (by simp[Value.oneCell'])) I J I I kC ?_;intro hv' hc' g3';refine C6 tt J J J Le J g4 Es (DO.slice tt (cs:=bs X) (news:=bs X) J iN VV (by rw[Bi];exact hbl) (BV _)) I (by rw[Bi];exact hbl) I I kC ?_;intro MH bc' g4';with_reducible apply DL.done
  refine Fe (Du .nil) ?_;refine DL.Br (cs':=[sv',hv,bv]) tt J J J J g2'.cells uP J J g2'.one lN (Du .nil) ?_;refine W ?_;refine DL.Br (cs':=[sv',hv',bv]) tt J J J J g3'.cells uP J J g3'.one lN (Du .nil) ?_;refine W ?_;refine DL.Br (cs':=[sv',hv',MH]) tt J J J J g4'.cells uP J J g4'.one lN (Du .nil) ?_;with_reducible apply DL.done
  exact h _ _ _ _ _ _ g2' g3' g4' _ _ _ (fun t v ht hv=>by(repeat rw[over _ _ _ t I]);rw[hx];exact hv) (.cons Es (.cons Es (.cons Es (.cons Es Eh))))
 ·refine DL.Yh nD ?_;refine DL.bs tt J J J eL J J J Iq Ip I kO ?_;intro b4;refine C6 tt J J J Md J g2 Es (DO.slice tt (cs:=[.int .i64 r.1]) (news:=[.int .i64 r.1]) J iN J J (by simp[Value.oneCell'])) I J I I kC ?_;intro sv' sc' g2';refine DL.bs tt J J J eL J J J Iq Ip I kO ?_;intro b15;refine DL.bs tt J J J eL J J J Iq Ip I kO ?_;intro b10;refine C6 tt J J J el3 J g3 Es (DO.slice tt (cs:=[.int .i64 r.2.2]) (news:=[.int .i64 r.2.2]) J iN J J (by simp[Value.oneCell'])) I J I I kC ?_;intro hv' hc' g3';refine C6 tt J J J Le J g4 Es (DO.slice tt (cs:=bs X) (news:=bs X) J iN VV (by rw[Bi];exact hbl) (BV _)) I (by rw[Bi];exact hbl) I I kC ?_;intro MH bc' g4';with_reducible apply DL.done
  refine Fe (Du .nil) ?_;refine DL.Br (cs':=[sv',hv,bv]) tt J J J J g2'.cells uP J J g2'.one lN (Du .nil) ?_;refine W ?_;refine DL.Br (cs':=[sv',hv',bv]) tt J J J J g3'.cells uP J J g3'.one lN (Du .nil) ?_;refine W ?_;refine DL.Br (cs':=[sv',hv',MH]) tt J J J J g4'.cells uP J J g4'.one lN (Du .nil) ?_;with_reducible apply DL.done
  exact h _ _ _ _ _ _ g2' g3' g4' _ _ _ (fun t v ht hv=>by(repeat rw[over _ _ _ t I]);rw[hx];exact hv) (.cons Es (.cons Es (.cons Es (.cons Es Eh))))
 ·refine DL.Yh nD ?_;refine DL.bs tt J J J eL J J J Iq Ip I kO ?_;intro b4;refine DL.bs tt J J J eL J J J Iq Ip I kO ?_;intro b10;refine C6 tt J J J Md J g2 Es (DO.slice tt (cs:=[.int .i64 r.1]) (news:=[.int .i64 r.1]) J iN J J (by simp[Value.oneCell'])) I J I I kC ?_;intro sv' sc' g2';refine C6 tt J J J el3 J g3 Es (DO.slice tt (cs:=[.int .i64 r.2.2]) (news:=[.int .i64 r.2.2]) J iN J J (by simp[Value.oneCell'])) I J I I kC ?_;intro hv' hc' g3';refine DL.bs tt J J J eL J J J Iq Ip I kO ?_;intro b15;refine C6 tt J J J Le J g4 Es (DO.slice tt (cs:=bs X) (news:=bs X) J iN VV (by rw[Bi];exact hbl) (BV _)) I (by rw[Bi];exact hbl) I I kC ?_;intro MH bc' g4';with_reducible apply DL.done
  refine Fe (Du .nil) ?_;refine DL.Br (cs':=[sv',hv,bv]) tt J J J J g2'.cells uP J J g2'.one lN (Du .nil) ?_;refine W ?_;refine DL.Br (cs':=[sv',hv',bv]) tt J J J J g3'.cells uP J J g3'.one lN (Du .nil) ?_;refine W ?_;refine DL.Br (cs':=[sv',hv',MH]) tt J J J J g4'.cells uP J J g4'.one lN (Du .nil) ?_;with_reducible apply DL.done
  exact h _ _ _ _ _ _ g2' g3' g4' _ _ _ (fun t v ht hv=>by(repeat rw[over _ _ _ t I]);rw[hx];exact hv) (.cons Es (.cons Es (.cons Es (.cons Es Eh))))
 ·refine DL.Yh nD ?_;refine DL.bs tt J J J eL J J J Iq Ip I kO ?_;intro b4;refine DL.bs tt J J J eL J J J Iq Ip I kO ?_;intro b10;refine C6 tt J J J Md J g2 Es (DO.slice tt (cs:=[.int .i64 r.1]) (news:=[.int .i64 r.1]) J iN J J (by simp[Value.oneCell'])) I J I I kC ?_;intro sv' sc' g2';refine DL.bs tt J J J eL J J J Iq Ip I kO ?_;intro b15;refine C6 tt J J J el3 J g3 Es (DO.slice tt (cs:=[.int .i64 r.2.2]) (news:=[.int .i64 r.2.2]) J iN J J (by simp[Value.oneCell'])) I J I I kC ?_;intro hv' hc' g3';refine C6 tt J J J Le J g4 Es (DO.slice tt (cs:=bs X) (news:=bs X) J iN VV (by rw[Bi];exact hbl) (BV _)) I (by rw[Bi];exact hbl) I I kC ?_;intro MH bc' g4';with_reducible apply DL.done
  refine Fe (Du .nil) ?_;refine DL.Br (cs':=[sv',hv,bv]) tt J J J J g2'.cells uP J J g2'.one lN (Du .nil) ?_;refine W ?_;refine DL.Br (cs':=[sv',hv',bv]) tt J J J J g3'.cells uP J J g3'.one lN (Du .nil) ?_;refine W ?_;refine DL.Br (cs':=[sv',hv',MH]) tt J J J J g4'.cells uP J J g4'.one lN (Du .nil) ?_;with_reducible apply DL.done
  exact h _ _ _ _ _ _ g2' g3' g4' _ _ _ (fun t v ht hv=>by(repeat rw[over _ _ _ t I]);rw[hx];exact hv) (.cons Es (.cons Es (.cons Es (.cons Es Eh))))
 ·refine DL.Yh nD ?_;refine DL.bs tt J J J eL J J J Iq Ip I kO ?_;intro b4;refine DL.bs tt J J J eL J J J Iq Ip I kO ?_;intro b10;refine DL.bs tt J J J eL J J J Iq Ip I kO ?_;intro b15;refine C6 tt J J J Md J g2 Es (DO.slice tt (cs:=[.int .i64 r.1]) (news:=[.int .i64 r.1]) J iN J J (by simp[Value.oneCell'])) I J I I kC ?_;intro sv' sc' g2';refine C6 tt J J J el3 J g3 Es (DO.slice tt (cs:=[.int .i64 r.2.2]) (news:=[.int .i64 r.2.2]) J iN J J (by simp[Value.oneCell'])) I J I I kC ?_;intro hv' hc' g3';refine C6 tt J J J Le J g4 Es (DO.slice tt (cs:=bs X) (news:=bs X) J iN VV (by rw[Bi];exact hbl) (BV _)) I (by rw[Bi];exact hbl) I I kC ?_;intro MH bc' g4';with_reducible apply DL.done
  refine Fe (Du .nil) ?_;refine DL.Br (cs':=[sv',hv,bv]) tt J J J J g2'.cells uP J J g2'.one lN (Du .nil) ?_;refine W ?_;refine DL.Br (cs':=[sv',hv',bv]) tt J J J J g3'.cells uP J J g3'.one lN (Du .nil) ?_;refine W ?_;refine DL.Br (cs':=[sv',hv',MH]) tt J J J J g4'.cells uP J J g4'.one lN (Du .nil) ?_;with_reducible apply DL.done
  exact h _ _ _ _ _ _ g2' g3' g4' _ _ _ (fun t v ht hv=>by(repeat rw[over _ _ _ t I]);rw[hx];exact hv) (.cons Es (.cons Es (.cons Es (.cons Es Eh))))
 ·refine DL.Yh nD ?_;refine DL.bs tt J J J eL J J J Iq Ip I kO ?_;intro b4;refine DL.bs tt J J J eL J J J Iq Ip I kO ?_;intro b15;refine C6 tt J J J Md J g2 Es (DO.slice tt (cs:=[.int .i64 r.1]) (news:=[.int .i64 r.1]) J iN J J (by simp[Value.oneCell'])) I J I I kC ?_;intro sv' sc' g2';refine DL.bs tt J J J eL J J J Iq Ip I kO ?_;intro b10;refine C6 tt J J J el3 J g3 Es (DO.slice tt (cs:=[.int .i64 r.2.2]) (news:=[.int .i64 r.2.2]) J iN J J (by simp[Value.oneCell'])) I J I I kC ?_;intro hv' hc' g3';refine C6 tt J J J Le J g4 Es (DO.slice tt (cs:=bs X) (news:=bs X) J iN VV (by rw[Bi];exact hbl) (BV _)) I (by rw[Bi];exact hbl) I I kC ?_;intro MH bc' g4';with_reducible apply DL.done
  refine Fe (Du .nil) ?_;refine DL.Br (cs':=[sv',hv,bv]) tt J J J J g2'.cells uP J J g2'.one lN (Du .nil) ?_;refine W ?_;refine DL.Br (cs':=[sv',hv',bv]) tt J J J J g3'.cells uP J J g3'.one lN (Du .nil) ?_;refine W ?_;refine DL.Br (cs':=[sv',hv',MH]) tt J J J J g4'.cells uP J J g4'.one lN (Du .nil) ?_;with_reducible apply DL.done
  exact h _ _ _ _ _ _ g2' g3' g4' _ _ _ (fun t v ht hv=>by(repeat rw[over _ _ _ t I]);rw[hx];exact hv) (.cons Es (.cons Es (.cons Es (.cons Es Eh))))
 ·refine DL.Yh nD ?_;refine DL.bs tt J J J eL J J J Iq Ip I kO ?_;intro b4;refine DL.bs tt J J J eL J J J Iq Ip I kO ?_;intro b15;refine DL.bs tt J J J eL J J J Iq Ip I kO ?_;intro b10;refine C6 tt J J J Md J g2 Es (DO.slice tt (cs:=[.int .i64 r.1]) (news:=[.int .i64 r.1]) J iN J J (by simp[Value.oneCell'])) I J I I kC ?_;intro sv' sc' g2';refine C6 tt J J J el3 J g3 Es (DO.slice tt (cs:=[.int .i64 r.2.2]) (news:=[.int .i64 r.2.2]) J iN J J (by simp[Value.oneCell'])) I J I I kC ?_;intro hv' hc' g3';refine C6 tt J J J Le J g4 Es (DO.slice tt (cs:=bs X) (news:=bs X) J iN VV (by rw[Bi];exact hbl) (BV _)) I (by rw[Bi];exact hbl) I I kC ?_;intro MH bc' g4';with_reducible apply DL.done
  refine Fe (Du .nil) ?_;refine DL.Br (cs':=[sv',hv,bv]) tt J J J J g2'.cells uP J J g2'.one lN (Du .nil) ?_;refine W ?_;refine DL.Br (cs':=[sv',hv',bv]) tt J J J J g3'.cells uP J J g3'.one lN (Du .nil) ?_;refine W ?_;refine DL.Br (cs':=[sv',hv',MH]) tt J J J J g4'.cells uP J J g4'.one lN (Du .nil) ?_;with_reducible apply DL.done
  exact h _ _ _ _ _ _ g2' g3' g4' _ _ _ (fun t v ht hv=>by(repeat rw[over _ _ _ t I]);rw[hx];exact hv) (.cons Es (.cons Es (.cons Es (.cons Es Eh))))
 ·refine DL.Yh nD ?_;refine DL.bs tt J J J eL J J J Iq Ip I kO ?_;intro b10;refine DL.bs tt J J J eL J J J Iq Ip I kO ?_;intro b4;refine C6 tt J J J Md J g2 Es (DO.slice tt (cs:=[.int .i64 r.1]) (news:=[.int .i64 r.1]) J iN J J (by simp[Value.oneCell'])) I J I I kC ?_;intro sv' sc' g2';refine C6 tt J J J el3 J g3 Es (DO.slice tt (cs:=[.int .i64 r.2.2]) (news:=[.int .i64 r.2.2]) J iN J J (by simp[Value.oneCell'])) I J I I kC ?_;intro hv' hc' g3';refine DL.bs tt J J J eL J J J Iq Ip I kO ?_;intro b15;refine C6 tt J J J Le J g4 Es (DO.slice tt (cs:=bs X) (news:=bs X) J iN VV (by rw[Bi];exact hbl) (BV _)) I (by rw[Bi];exact hbl) I I kC ?_;intro MH bc' g4';with_reducible apply DL.done
  refine Fe (Du .nil) ?_;refine DL.Br (cs':=[sv',hv,bv]) tt J J J J g2'.cells uP J J g2'.one lN (Du .nil) ?_;refine W ?_;refine DL.Br (cs':=[sv',hv',bv]) tt J J J J g3'.cells uP J J g3'.one lN (Du .nil) ?_;refine W ?_;refine DL.Br (cs':=[sv',hv',MH]) tt J J J J g4'.cells uP J J g4'.one lN (Du .nil) ?_;with_reducible apply DL.done
  exact h _ _ _ _ _ _ g2' g3' g4' _ _ _ (fun t v ht hv=>by(repeat rw[over _ _ _ t I]);rw[hx];exact hv) (.cons Es (.cons Es (.cons Es (.cons Es Eh))))
 ·refine DL.Yh nD ?_;refine DL.bs tt J J J eL J J J Iq Ip I kO ?_;intro b10;refine DL.bs tt J J J eL J J J Iq Ip I kO ?_;intro b4;refine C6 tt J J J Md J g2 Es (DO.slice tt (cs:=[.int .i64 r.1]) (news:=[.int .i64 r.1]) J iN J J (by simp[Value.oneCell'])) I J I I kC ?_;intro sv' sc' g2';refine DL.bs tt J J J eL J J J Iq Ip I kO ?_;intro b15;refine C6 tt J J J el3 J g3 Es (DO.slice tt (cs:=[.int .i64 r.2.2]) (news:=[.int .i64 r.2.2]) J iN J J (by simp[Value.oneCell'])) I J I I kC ?_;intro hv' hc' g3';refine C6 tt J J J Le J g4 Es (DO.slice tt (cs:=bs X) (news:=bs X) J iN VV (by rw[Bi];exact hbl) (BV _)) I (by rw[Bi];exact hbl) I I kC ?_;intro MH bc' g4';with_reducible apply DL.done
  refine Fe (Du .nil) ?_;refine DL.Br (cs':=[sv',hv,bv]) tt J J J J g2'.cells uP J J g2'.one lN (Du .nil) ?_;refine W ?_;refine DL.Br (cs':=[sv',hv',bv]) tt J J J J g3'.cells uP J J g3'.one lN (Du .nil) ?_;refine W ?_;refine DL.Br (cs':=[sv',hv',MH]) tt J J J J g4'.cells uP J J g4'.one lN (Du .nil) ?_;with_reducible apply DL.done
  exact h _ _ _ _ _ _ g2' g3' g4' _ _ _ (fun t v ht hv=>by(repeat rw[over _ _ _ t I]);rw[hx];exact hv) (.cons Es (.cons Es (.cons Es (.cons Es Eh))))
 ·refine DL.Yh nD ?_;refine DL.bs tt J J J eL J J J Iq Ip I kO ?_;intro b10;refine DL.bs tt J J J eL J J J Iq Ip I kO ?_;intro b4;refine DL.bs tt J J J eL J J J Iq Ip I kO ?_;intro b15;refine C6 tt J J J Md J g2 Es (DO.slice tt (cs:=[.int .i64 r.1]) (news:=[.int .i64 r.1]) J iN J J (by simp[Value.oneCell'])) I J I I kC ?_;intro sv' sc' g2';refine C6 tt J J J el3 J g3 Es (DO.slice tt (cs:=[.int .i64 r.2.2]) (news:=[.int .i64 r.2.2]) J iN J J (by simp[Value.oneCell'])) I J I I kC ?_;intro hv' hc' g3';refine C6 tt J J J Le J g4 Es (DO.slice tt (cs:=bs X) (news:=bs X) J iN VV (by rw[Bi];exact hbl) (BV _)) I (by rw[Bi];exact hbl) I I kC ?_;intro MH bc' g4';with_reducible apply DL.done
  refine Fe (Du .nil) ?_;refine DL.Br (cs':=[sv',hv,bv]) tt J J J J g2'.cells uP J J g2'.one lN (Du .nil) ?_;refine W ?_;refine DL.Br (cs':=[sv',hv',bv]) tt J J J J g3'.cells uP J J g3'.one lN (Du .nil) ?_;refine W ?_;refine DL.Br (cs':=[sv',hv',MH]) tt J J J J g4'.cells uP J J g4'.one lN (Du .nil) ?_;with_reducible apply DL.done
  exact h _ _ _ _ _ _ g2' g3' g4' _ _ _ (fun t v ht hv=>by(repeat rw[over _ _ _ t I]);rw[hx];exact hv) (.cons Es (.cons Es (.cons Es (.cons Es Eh))))
 ·refine DL.Yh nD ?_;refine DL.bs tt J J J eL J J J Iq Ip I kO ?_;intro b10;refine DL.bs tt J J J eL J J J Iq Ip I kO ?_;intro b15;refine DL.bs tt J J J eL J J J Iq Ip I kO ?_;intro b4;refine C6 tt J J J Md J g2 Es (DO.slice tt (cs:=[.int .i64 r.1]) (news:=[.int .i64 r.1]) J iN J J (by simp[Value.oneCell'])) I J I I kC ?_;intro sv' sc' g2';refine C6 tt J J J el3 J g3 Es (DO.slice tt (cs:=[.int .i64 r.2.2]) (news:=[.int .i64 r.2.2]) J iN J J (by simp[Value.oneCell'])) I J I I kC ?_;intro hv' hc' g3';refine C6 tt J J J Le J g4 Es (DO.slice tt (cs:=bs X) (news:=bs X) J iN VV (by rw[Bi];exact hbl) (BV _)) I (by rw[Bi];exact hbl) I I kC ?_;intro MH bc' g4';with_reducible apply DL.done
  refine Fe (Du .nil) ?_;refine DL.Br (cs':=[sv',hv,bv]) tt J J J J g2'.cells uP J J g2'.one lN (Du .nil) ?_;refine W ?_;refine DL.Br (cs':=[sv',hv',bv]) tt J J J J g3'.cells uP J J g3'.one lN (Du .nil) ?_;refine W ?_;refine DL.Br (cs':=[sv',hv',MH]) tt J J J J g4'.cells uP J J g4'.one lN (Du .nil) ?_;with_reducible apply DL.done
  exact h _ _ _ _ _ _ g2' g3' g4' _ _ _ (fun t v ht hv=>by(repeat rw[over _ _ _ t I]);rw[hx];exact hv) (.cons Es (.cons Es (.cons Es (.cons Es Eh))))
 ·refine DL.Yh nD ?_;refine DL.bs tt J J J eL J J J Iq Ip I kO ?_;intro b15;refine DL.bs tt J J J eL J J J Iq Ip I kO ?_;intro b4;refine C6 tt J J J Md J g2 Es (DO.slice tt (cs:=[.int .i64 r.1]) (news:=[.int .i64 r.1]) J iN J J (by simp[Value.oneCell'])) I J I I kC ?_;intro sv' sc' g2';refine DL.bs tt J J J eL J J J Iq Ip I kO ?_;intro b10;refine C6 tt J J J el3 J g3 Es (DO.slice tt (cs:=[.int .i64 r.2.2]) (news:=[.int .i64 r.2.2]) J iN J J (by simp[Value.oneCell'])) I J I I kC ?_;intro hv' hc' g3';refine C6 tt J J J Le J g4 Es (DO.slice tt (cs:=bs X) (news:=bs X) J iN VV (by rw[Bi];exact hbl) (BV _)) I (by rw[Bi];exact hbl) I I kC ?_;intro MH bc' g4';with_reducible apply DL.done
  refine Fe (Du .nil) ?_;refine DL.Br (cs':=[sv',hv,bv]) tt J J J J g2'.cells uP J J g2'.one lN (Du .nil) ?_;refine W ?_;refine DL.Br (cs':=[sv',hv',bv]) tt J J J J g3'.cells uP J J g3'.one lN (Du .nil) ?_;refine W ?_;refine DL.Br (cs':=[sv',hv',MH]) tt J J J J g4'.cells uP J J g4'.one lN (Du .nil) ?_;with_reducible apply DL.done
  exact h _ _ _ _ _ _ g2' g3' g4' _ _ _ (fun t v ht hv=>by(repeat rw[over _ _ _ t I]);rw[hx];exact hv) (.cons Es (.cons Es (.cons Es (.cons Es Eh))))
 ·refine DL.Yh nD ?_;refine DL.bs tt J J J eL J J J Iq Ip I kO ?_;intro b15;refine DL.bs tt J J J eL J J J Iq Ip I kO ?_;intro b4;refine DL.bs tt J J J eL J J J Iq Ip I kO ?_;intro b10;refine C6 tt J J J Md J g2 Es (DO.slice tt (cs:=[.int .i64 r.1]) (news:=[.int .i64 r.1]) J iN J J (by simp[Value.oneCell'])) I J I I kC ?_;intro sv' sc' g2';refine C6 tt J J J el3 J g3 Es (DO.slice tt (cs:=[.int .i64 r.2.2]) (news:=[.int .i64 r.2.2]) J iN J J (by simp[Value.oneCell'])) I J I I kC ?_;intro hv' hc' g3';refine C6 tt J J J Le J g4 Es (DO.slice tt (cs:=bs X) (news:=bs X) J iN VV (by rw[Bi];exact hbl) (BV _)) I (by rw[Bi];exact hbl) I I kC ?_;intro MH bc' g4';with_reducible apply DL.done
  refine Fe (Du .nil) ?_;refine DL.Br (cs':=[sv',hv,bv]) tt J J J J g2'.cells uP J J g2'.one lN (Du .nil) ?_;refine W ?_;refine DL.Br (cs':=[sv',hv',bv]) tt J J J J g3'.cells uP J J g3'.one lN (Du .nil) ?_;refine W ?_;refine DL.Br (cs':=[sv',hv',MH]) tt J J J J g4'.cells uP J J g4'.one lN (Du .nil) ?_;with_reducible apply DL.done
  exact h _ _ _ _ _ _ g2' g3' g4' _ _ _ (fun t v ht hv=>by(repeat rw[over _ _ _ t I]);rw[hx];exact hv) (.cons Es (.cons Es (.cons Es (.cons Es Eh))))
 ·refine DL.Yh nD ?_;refine DL.bs tt J J J eL J J J Iq Ip I kO ?_;intro b15;refine DL.bs tt J J J eL J J J Iq Ip I kO ?_;intro b10;refine DL.bs tt J J J eL J J J Iq Ip I kO ?_;intro b4;refine C6 tt J J J Md J g2 Es (DO.slice tt (cs:=[.int .i64 r.1]) (news:=[.int .i64 r.1]) J iN J J (by simp[Value.oneCell'])) I J I I kC ?_;intro sv' sc' g2';refine C6 tt J J J el3 J g3 Es (DO.slice tt (cs:=[.int .i64 r.2.2]) (news:=[.int .i64 r.2.2]) J iN J J (by simp[Value.oneCell'])) I J I I kC ?_;intro hv' hc' g3';refine C6 tt J J J Le J g4 Es (DO.slice tt (cs:=bs X) (news:=bs X) J iN VV (by rw[Bi];exact hbl) (BV _)) I (by rw[Bi];exact hbl) I I kC ?_;intro MH bc' g4';with_reducible apply DL.done
  refine Fe (Du .nil) ?_;refine DL.Br (cs':=[sv',hv,bv]) tt J J J J g2'.cells uP J J g2'.one lN (Du .nil) ?_;refine W ?_;refine DL.Br (cs':=[sv',hv',bv]) tt J J J J g3'.cells uP J J g3'.one lN (Du .nil) ?_;refine W ?_;refine DL.Br (cs':=[sv',hv',MH]) tt J J J J g4'.cells uP J J g4'.one lN (Du .nil) ?_;with_reducible apply DL.done
  exact h _ _ _ _ _ _ g2' g3' g4' _ _ _ (fun t v ht hv=>by(repeat rw[over _ _ _ t I]);rw[hx];exact hv) (.cons Es (.cons Es (.cons Es (.cons Es Eh))))
end
end Go.Proofs.YtfekkjbdcdnhlaaGreatDoor.Sep
