/- Lemmas for TopScrubs. No condition but those that each states. -/
import Derived.Recover
import Derived.Test.YtfekkjbdcdnhlaaGreatDoorMan
set_option linter.all false
set_option maxHeartbeats 8000000
set_option maxRecDepth 100000
namespace Go.Proofs.YtfekkjbdcdnhlaaGreatDoor.Sep
noncomputable section
variable{A:Om}{S:A2}
theorem Ds.flat{w:World}{T:A2}(h:Ds A w S)(e:S.flatten=T.flatten):Ds A w T:=⟨h.os,h.tape,h.output,h.size,by rw[<-e];exact h.nodup,fun x hx=>h.has x (by rw[e];exact hx)⟩
variable{P:Program}{f:Nat}{args:List Value}
theorem Fn.FW{c d:List CH}{R:Ending->A2->Prop}(h:Fn P f args [c,d] fun e S'=>∃c' d',S'=[c',d']/\R e [c'++d']):Fn P f args [c++d] R:=fun A U w hs=>by have hs2:Ds A w ([c,d]++U):=hs.flat DI;refine(h A U w hs2).mono ?_;rintro e w' ⟨h0,S',h1,c',d',rfl,h3⟩;exact⟨h0,[c'++d'],h1.flat DI,h3⟩
variable{v:Value}
theorem Fn.Ue{F:A2}{c:List CH}(h:Fn P f args S (E4 v F)):Fn P f args (S++[c]) (E4 v (F++[c])):=fun A U w hs=>by
 have hs2:Ds A w (S++([c]++U)):=by rw[<-AU];exact hs
 refine(h A _ w hs2).mono ?_;rintro e w' ⟨h0,S',h1,rfl,rfl⟩;exact⟨h0,_,by rw[AU];exact h1,rfl,rfl⟩
def Iw(k i:Nat)(d:List Nat)(DK:List AV)(res:AV):List AV->St->Option (List R1):=fun args s=>bif G0 args DK&&(match s.hp.get k with|some (.res i' d')=>Nat.beq i i'&&RJ d d'|_=>false)then some [.val res (s.set k (.res i d))]else none
def Ik(RS:EA)(ρ:Nm)(i:Nat)(d:List Nat)(b:Nat)(res:AV):Ending->A2->Prop:=fun e S'=>∃c' v,e=.returned v/\S'=[c']/\RS i d b c'/\EM ρ res v
variable{RS:EA}{k i:Nat}{d:List Nat}{DK:List AV}{res:AV}
theorem JW
 (H:∀(ρ:Nm) (b c:Nat) (comp:List CH) (vs:List Value),ρ[k]? =some (b,c)->RS i d b comp->Bt ρ DK vs->Fn P f vs [comp] (Ik RS ρ i d b res)):ET P RS f (Iw k i d DK res):=by
 intro args s rs hc p hst hp vs hvs;subst hst;unfold Iw at hc;cases hcond:G0 args DK&&(match p.st.hp.get k with|some (.res i' d')=>Nat.beq i i'&&RJ d d'|_=>false)<;>rw[hcond]at hc<;>simp only[AN,AO,reduceCtorEq,AH]at hc;subst hc;simp only[AI]at hcond;obtain⟨hle,hk⟩:=hcond;split at hk
 ·rename_i i' d' hget;simp only[AI]at hk;obtain rfl:=AK hk.1;obtain rfl:=OD hk.2;obtain⟨hlive,hcb⟩:=hp.mem hget;generalize hC:p.C k=ck at hcb;cases hcb with| @res _ b c _ cs hρ hr=>
  have hS:=hp.H.pick hlive;rw[hC]at hS;intro A U w hs;have hs':Ds A w ([ck]++((p.live.erase k).map p.C++U)):=by have:=hs.perm (hS.append_right U);simpa using this
  refine(H p.ρ b c ck vs hρ hr (GR hvs hle) A _ w hs').mono ?_;rintro e w' ⟨h0,S',h1,c',v,rfl,rfl,h2,h3⟩;refine⟨h0,c'::(p.live.erase k).map p.C,by simpa using h1,.inl ⟨res,_,AP.2 J,p.set k (.res i d) c',v,rfl,rfl,rfl,.set p k _ _,hp.set hlive (.res hρ h2),h3,rfl⟩⟩
 ·cases hk
abbrev OF:AV:=.int .u8 (.ofNat 0) (.ofNat 255)
abbrev CB:AV:=M3 .i64
abbrev Bw:AV:=M3 .u64
abbrev EB:AV:=.int .i64 (.ofNat 0) (.ofNat 30)
abbrev XA:AV:=.agg (List.replicate 128 OF)
def BN(B:List Int):Prop:=∀x∈B,0<=x/\x<=255
theorem IX{ρ:Nm}:∀{B:List Int},BN B->Bt ρ (List.replicate B.length OF) (bs B)
 |[],_=>.nil
 |x::B,h=>.cons (.int (h x DI).1 (h x DI).2) (IX (fun y hy=>h y (by simp[hy])))
theorem J0{ρ:Nm}:∀{m:Nat} {vs:List Value},Bt ρ (List.replicate m OF) vs->∃B,vs=bs B/\BN B/\B.length=m
 |0,_,.nil=>⟨[],rfl,fun _ h=>by simp at h,rfl⟩
 |m+1,_,.cons h k=>by
  obtain⟨B,rfl,h1,h2⟩:=J0 k;cases h with| @int _ _ _ z a1 a2=>
  refine⟨z::B,rfl,fun y hy=> ?_,by simp[h2]⟩;rcases Ab.1 hy with rfl|hy
  ·exact⟨a1,a2⟩
  ·exact h1 y hy
variable{B:List Int}
theorem BN.sub(h:BN B)(g:Nat):BN (sub B g):=fun x hx=>h x (ER (Dn hx))
variable{X:List Int}
theorem BN.ins(h:BN B)(k:BN X)(g:Nat):BN (ins B g X):=fun x hx=>by
 simp only[Sep.ins,Aj]at hx;rcases hx with(hx|hx)|hx
 ·exact h x (Dn hx)
 ·exact k x hx
 ·exact h x (ER hx)
theorem E0(n:Nat):BN (BQ n):=fun x hx=>by simp only[BQ,D6]at hx;omega
theorem Y8{g n:Nat}(h:B.length=128*n)(hg:g<n)(hX:X.length=128):(ins B g X).length=128*n:=by simp only[ins,Aq,BP,B9];omega
abbrev Lt(r:Rw):Prop:=(0<=r.1/\r.1<=5)/\(0<=r.2.1/\r.2.1<=18446744073709551615)/\(0<=r.2.2/\r.2.2<=2147483647)
def Ni(n b:Nat)(cs:List CH):Prop:=∃ab B,cs=Dy b ab n++EY ab B/\B.length=128*n/\BN B
def aI(n:Nat)(z:Nat->Bool)(b:Nat)(cs:List CH):Prop:=∃rb R,cs=Ei b rb n++Em rb R/\R.length=n/\(∀r∈R,Lt r)/\∀j r,R[j]? =some r->(r.1=0↔z j=true)
section
variable{n:Nat} {RS:EA} (hn:1<=n/\n<=4096) (hM:∀b cs,RS 0 [] b cs↔Ni n b cs)
variable{ρ:Nm}{b:Nat}
theorem Ik.of{c1 c2:List CH}(hr:RS i d b (c1++c2))(hc:EM ρ res v):∀e S',E4 v [c1,c2] e S'->∃c' d',S'=[c',d']/\Ik RS ρ i d b res e [c'++d']:=by rintro e S' ⟨rfl,rfl⟩;exact⟨_,_,rfl,_,v,rfl,rfl,hr,hc⟩
theorem vK{g:Int}(h:aA .i64<=g/\g<=SS .i64): -9223372036854775808<=g/\g<=9223372036854775807:=by rw[Fj,F2]at h;exact h
theorem JX{g:Int}(h:aA .u64<=g/\g<=SS .u64):0<=g/\g<=18446744073709551615:=by rw[Fj,F2]at h;exact h
theorem Fa{e:Int}(h:0<=e/\e<=30):EM ρ EB (.int .i64 e):=.int h.1 h.2
include hn hM
theorem aAm:ET Tryz.prog RS 23 (Iw 0 0 [] [.Au 0 0] (.int .i64 (.ofNat 1) (.ofNat 4096))):=JW fun ρ b c comp vs hρ hr hv=>by
 obtain⟨ab,B,rfl,hB,hb⟩:=(hM b comp).1 hr;cases hv with|cons h1 hv=>
 cases hv;cases h1 with|Au h1=>
 rw[hρ]at h1;cases h1;exact Fn.FW ((Fn.Ue FA).mono (Ik.of hr (.int (by show(1:Int)<=n;omega) (by show(n:Int)<=4096;omega))))
theorem aCG:ET Tryz.prog RS 26 (Iw 0 0 [] [.Au 0 0,CB] (.Ec [XA,EB])):=JW fun ρ b c comp vs hρ hr hv=>by
 obtain⟨ab,B,rfl,hB,hb⟩:=(hM b comp).1 hr;cases hv with|cons h1 hv=>cases hv with|cons h2 hv=>
 cases hv;cases h1 with|Au h1=>
 rw[hρ]at h1;cases h1;cases h2 with| @int _ _ _ g a1 a2=>
 by_cases hg:0<=g/\g<n
 ·obtain⟨j,rfl⟩:=BO hg.1;have hj:j<n:=I;have hl:=N4 hB hj;refine Fn.FW ((XQ hj hB).mono (Ik.of hr (.Ec (.cons (.agg ?_) (.cons (Fa I) .nil)))));have:=IX (ρ:=ρ) (hb.sub j)
  rwa [hl]at this
 ·refine Fn.FW ((ni I I).mono (Ik.of hr (.Ec (.cons (.agg ?_) (.cons (Fa I) .nil)))));exact IX (ρ:=ρ) (E0 128)
theorem aAn:ET Tryz.prog RS 156 (Iw 0 0 [] [.Au 0 0,CB,XA] EB):=JW fun ρ b c comp vs hρ hr hv=>by
 obtain⟨ab,B,rfl,hB,hb⟩:=(hM b comp).1 hr;cases hv with|cons h1 hv=>cases hv with|cons h2 hv=>cases hv with|cons h3 hv=>
 cases hv;cases h1 with|Au h1=>
 rw[hρ]at h1;cases h1;cases h2 with| @int _ _ _ g a1 a2=>
 cases h3 with|agg h3=>
 obtain⟨X,rfl,hX,Hw⟩:=J0 h3;by_cases hg:0<=g/\g<n
 ·obtain⟨j,rfl⟩:=BO hg.1;have hj:j<n:=I;exact Fn.FW ((XR hj hB Hw).mono (Ik.of ((hM _ _).2 ⟨ab,_,rfl,Y8 hB hj Hw,hb.ins hX j⟩) (Fa I)))
 ·exact Fn.FW ((nj I I).mono (Ik.of hr (Fa I)))
end
section
variable{n:Nat} {z:Nat->Bool} {RS:EA} (hn:1<=n/\n<=4096) (hT:∀b cs,RS 1 [] b cs↔aI n z b cs)
variable{ρ:Nm}{r:Rw}
theorem Y9(h:Lt r):EM ρ (.agg [.int .i64 (.ofNat 0) (.ofNat 5),Bw,.int .i64 (.ofNat 0) (.ofNat 2147483647)]) (.agg (P1 r).toArray):=.agg (.cons (.int h.1.1 h.1.2) (.cons (.int (by rw[Fj];exact h.2.1.1) (by rw[F2];exact h.2.1.2)) (.cons (.int h.2.2.1 h.2.2.2) .nil)))
include hn hT
theorem aCH:ET Tryz.prog RS 67 (Iw 1 1 [] [.Au 1 0] (.int .i64 (.ofNat 1) (.ofNat 4096))):=JW fun ρ b c comp vs hρ hr hv=>by
 obtain⟨rb,R,rfl,hR,hk,hz⟩:=(hT b comp).1 hr;cases hv with|cons h1 hv=>
 cases hv;cases h1 with|Au h1=>
 rw[hρ]at h1;cases h1;exact Fn.FW ((Fn.Ue JC).mono (Ik.of hr (.int (by show(1:Int)<=n;omega) (by show(n:Int)<=4096;omega))))
theorem aCI:ET Tryz.prog RS 24 (Iw 1 1 [] [.Au 1 0,CB] (.Ec [.agg [.int .i64 (.ofNat 0) (.ofNat 5),Bw,.int .i64 (.ofNat 0) (.ofNat 2147483647)],EB])):=JW fun ρ b c comp vs hρ hr hv=>by
 obtain⟨rb,R,rfl,hR,hk,hz⟩:=(hT b comp).1 hr;cases hv with|cons h1 hv=>cases hv with|cons h2 hv=>
 cases hv;cases h1 with|Au h1=>
 rw[hρ]at h1;cases h1;cases h2 with| @int _ _ _ g a1 a2=>
 by_cases hg:0<=g/\g<n
 ·obtain⟨j,rfl⟩:=BO hg.1;have hj:j<R.length:=I;have hr':R[j]? =some R[j]:=AZ hj;exact Fn.FW ((OB J hR hn.2 hr').mono (Ik.of hr (.Ec (.cons (Y9 (hk _ (B1 hj))) (.cons (Fa I) .nil)))))
 ·exact Fn.FW ((TM I hn.1 hn.2).mono (Ik.of hr (.Ec (.cons (Y9 (by decide:Lt (0,0,0))) (.cons (Fa I) .nil)))))
theorem aCJ:ET Tryz.prog RS 25 (Iw 1 1 [] [.Au 1 0,CB] (.boo none)):=JW fun ρ b c comp vs hρ hr hv=>by
 obtain⟨rb,R,rfl,hR,hk,hz⟩:=(hT b comp).1 hr;cases hv with|cons h1 hv=>cases hv with|cons h2 hv=>
 cases hv;cases h1 with|Au h1=>
 rw[hρ]at h1;cases h1;cases h2 with| @int _ _ _ g a1 a2=>
 by_cases hg:0<=g/\g<n
 ·obtain⟨j,rfl⟩:=BO hg.1;have hj:j<R.length:=I;have hr':R[j]? =some R[j]:=AZ hj;exact Fn.FW ((OC J hR hn.2 hr').mono (Ik.of hr .Jh))
 ·exact Fn.FW ((fQ I hn.1 hn.2).mono (Ik.of hr .Jh))
variable{b j:Nat}
omit hn in
theorem Uf{R:List Rw}{rb:Nat}{r':Rw}(hR:R.length=n)(hk:∀r∈R,Lt r)(hz:∀j r,R[j]? =some r->(r.1=0↔z j=true))(hr:R[j]? =some r)(h0:r'.1=0↔r.1=0)(hk':Lt r'):RS 1 [] b (Ei b rb n++Em rb (R.set j r')):=
 (hT _ _).2 ⟨rb,_,rfl,by simp[hR],fun x hx=>by
  rcases List.mem_or_eq_of_mem_set hx with hx|rfl
  ·exact hk x hx
  ·exact hk',fun i x hx=>by
  rw[List.getElem?_set]at hx;split at hx
  ·rename_i he;subst he;split at hx
   ·cases hx;rw[h0];exact hz _ r hr
   ·cases hx
  ·exact hz i x hx⟩
theorem aAo:ET Tryz.prog RS 117 (Iw 1 1 [] [.Au 1 0,CB,.int .i64 (.ofNat 1) (.ofNat 5),.int .i64 (.ofNat 1) (.ofNat 5),Bw] EB):=JW fun ρ b c comp vs hρ hr hv=>by
 obtain⟨rb,R,rfl,hR,hk,hz⟩:=(hT b comp).1 hr;cases hv with|cons h1 hv=>cases hv with|cons h2 hv=>cases hv with|cons h3 hv=>cases hv with|cons h4 hv=>cases hv with|cons h5 hv=>
 cases hv;cases h1 with|Au h1=>
 rw[hρ]at h1;cases h1;cases h2 with| @int _ _ _ g a1 a2=>
 cases h3 with| @int _ _ _ x b1 b2=>
 cases h4 with| @int _ _ _ y c1 c2=>
 cases h5 with| @int _ _ _ o d1 d2=>
 have ho:=JX ⟨d1,d2⟩;have b1:1<=x:=b1;have b2:x<=5:=b2;have c1:1<=y:=c1;have c2:y<=5:=c2;by_cases hg:0<=g/\g<n
 ·obtain⟨j,rfl⟩:=BO hg.1;have hj:j<R.length:=I;have hr':R[j]? =some R[j]:=AZ hj;have hE:0<=HT R[j] x y o/\HT R[j] x y o<=30:=by
   unfold HT;split
   ·omega
   ·split
    ·omega
    ·split
     ·omega
     ·split<;>omega
  refine Fn.FW ((step_ok J hR hn.2 hr').mono (Ik.of ?_ (Fa hE)));unfold H9;by_cases h0:HT R[j] x y o=0
  ·rw[BE h0];have hs:R[j].1=x:=by
    unfold HT at h0;split at h0
    ·omega
    ·split at h0
     ·omega
     ·split at h0
      ·omega
      ·rename_i h;simpa using h
   have hkj:=hk _ (B1 hj);exact Uf hT hR hk hz hr' (by simp only;omega) ⟨⟨by simp only;omega,by simp only;omega⟩,ho,hkj.2.2⟩
  ·rw[Ah h0];exact hr
 ·exact Fn.FW ((step_bad I hn.1 hn.2).mono (Ik.of hr (Fa I)))
theorem aAp:ET Tryz.prog RS 126 (Iw 1 1 [] [.Au 1 0,CB] EB):=JW fun ρ b c comp vs hρ hr hv=>by
 obtain⟨rb,R,rfl,hR,hk,hz⟩:=(hT b comp).1 hr;cases hv with|cons h1 hv=>cases hv with|cons h2 hv=>
 cases hv;cases h1 with|Au h1=>
 rw[hρ]at h1;cases h1;cases h2 with| @int _ _ _ g a1 a2=>
 by_cases hg:0<=g/\g<n
 ·obtain⟨j,rfl⟩:=BO hg.1;have hj:j<R.length:=I;have hr':R[j]? =some R[j]:=AZ hj;have hkj:=hk _ (B1 hj);have hh:=hkj.2.2;by_cases hm:R[j].2.2=2147483647
  ·exact Fn.FW ((fR J hR hn.2 hr' hm).mono (Ik.of hr (Fa I)))
  ·exact Fn.FW ((Yz J hR hn.2 hr' hh hm).mono (Ik.of (Uf hT hR hk hz hr' (by simp only) ⟨hkj.1,hkj.2.1,by simp only;omega⟩) (Fa I)))
 ·exact Fn.FW ((fS I hn.1 hn.2).mono (Ik.of hr (Fa I)))
theorem aAq:ET Tryz.prog RS 133 (Iw 1 1 [] [.Au 1 0,CB] EB):=JW fun ρ b c comp vs hρ hr hv=>by
 obtain⟨rb,R,rfl,hR,hk,hz⟩:=(hT b comp).1 hr;cases hv with|cons h1 hv=>cases hv with|cons h2 hv=>
 cases hv;cases h1 with|Au h1=>
 rw[hρ]at h1;cases h1;cases h2 with| @int _ _ _ g a1 a2=>
 by_cases hg:0<=g/\g<n
 ·obtain⟨j,rfl⟩:=BO hg.1;have hj:j<R.length:=I;have hr':R[j]? =some R[j]:=AZ hj;have hkj:=hk _ (B1 hj);have hh:=hkj.2.2;by_cases hm:R[j].2.2=0
  ·exact Fn.FW ((fV J hR hn.2 hr' hm).mono (Ik.of hr (Fa I)))
  ·exact Fn.FW ((fU J hR hn.2 hr' hh hm).mono (Ik.of (Uf hT hR hk hz hr' (by simp only) ⟨hkj.1,hkj.2.1,by simp only;omega⟩) (Fa I)))
 ·exact Fn.FW ((oJ I hn.1 hn.2).mono (Ik.of hr (Fa I)))
end
theorem vL(a:Nat)(h1:a<18446744073709551616):bits .and .u64 (a:Int) 127=((a%128:Nat):Int):=by
 rw[u64_and a 127 I I I I];have:(a:Int).toNat&&&(127:Int).toNat=a%128:=by have:=Nat.and_two_pow_sub_one_eq_mod a 7;simpa using this
 rw[this]
theorem ZA(a:Nat)(h1:a<18446744073709551616):Fn Tryz.prog 29 [.int .u64 a] [] (E4 (.tuple #[.int .i64 ((a/128:Nat):Int),.int .i64 ((a%128:Nat):Int)]) []):=by refine Fn.of Tryz.func29 J J [_,_] J ?_;have e1:(a:Int)/2^7=((a/128:Nat):Int):=I;have e2:=vL a h1;refine vR ?_;refine DL.shr 7 J J J J I Ba ?_;rw[e1];refine vR ?_;rw[e2];exact wW trivial
variable{mb ab n:Nat}
theorem RR(a k:Nat)(hn:n<=4096)(h0:k<1073741824)(ha:a<18446744073709551616)(h:k=0\/a+k<=128*n):Fn Tryz.prog 91 [Au mb,.int .u64 a,.int .i64 k] [Dy mb ab n] (E4 (.bool true) [Dy mb ab n]):=by
 refine Fn.of Tryz.func91 J J [_] J ?_;by_cases hk:k=0
 ·(refine wW ?_;refine DL.BS J J J pK (FA) kR aP kO ?_;exact wW trivial)
 ·(refine wW ?_;refine DL.BS J J J pK (FA) kR aP kO ?_;exact wW trivial)
theorem RU(a k:Nat)(hn:n<=4096)(h0:k<1073741824)(ha:a<18446744073709551616)(h:k≠0/\128*n<a+k):Fn Tryz.prog 91 [Au mb,.int .u64 a,.int .i64 k] [Dy mb ab n] (E4 (.bool false) [Dy mb ab n]):=by
 refine Fn.of Tryz.func91 J J [_] J ?_;by_cases hk:k<=n*128
 ·(refine wW ?_;refine DL.BS J J J pK (FA) kR aP kO ?_;exact wW trivial)
 ·(refine wW ?_;refine DL.BS J J J pK (FA) kR aP kO ?_;exact wW trivial)
theorem aAr(a:Nat)(hn:n<=4096)(ha:a<18446744073709551616)(h8:a%8=0)(h:a+8<=128*n):Fn Tryz.prog 49 [Au mb,.int .u64 a] [Dy mb ab n] (E4 (.tuple #[.slice (some ⟨ab,a,none⟩) 8 (128-a%128),.int .i64 0]) [Dy mb ab n]):=by
 refine Fn.of Tryz.func49 J J [_,_] J ?_;have hin:((a:Int)).tmod 8=0:=by rw[DJ I];omega
 (refine wW ?_;refine DL.BS J J J pK (FA) kR aP kO ?_;refine wW ?_;refine DL.BS J J J pK (RR a 8 hn I ha (.inr h)) kR aP kO ?_;refine wW ?_;refine DL.BS J J J pK (ZA a ha) kR aP kO ?_;refine wW ?_)
 refine DL.C3 tt (a/128) J J J J J J (show a/128<n by omega) ?_;refine vR ?_;refine DL.Ld tt (l:=a%128) (m:=a%128+8) (c:=128) J J J J J J J (.UH J I I I) ?_;rw[Ah I,show 0+a/128*128+a%128*1=a by omega,show a%128+8-a%128=8 by omega];exact wW trivial
theorem rh(a:Nat)(hn:1<=n/\n<=4096)(ha:a<18446744073709551616)(h8:a%8≠0):Fn Tryz.prog 49 [Au mb,.int .u64 a] [Dy mb ab n] (E4 (.tuple #[.slice none 0 0,.int .i64 2]) [Dy mb ab n]):=by
 refine Fn.of Tryz.func49 J J [_,_] J ?_;have hin:((a:Int)).tmod 8≠0:=by rw[DJ I];omega
 (refine wW ?_;refine DL.BS J J J pK (FA) kR aP kO ?_;exact wW trivial)
theorem ri(a:Nat)(hn:1<=n/\n<=4096)(ha:a<18446744073709551616)(h8:a%8=0)(h:128*n<a+8):Fn Tryz.prog 49 [Au mb,.int .u64 a] [Dy mb ab n] (E4 (.tuple #[.slice none 0 0,.int .i64 6]) [Dy mb ab n]):=by
 refine Fn.of Tryz.func49 J J [_,_] J ?_;have hin:((a:Int)).tmod 8=0:=by rw[DJ I];omega
 (refine wW ?_;refine DL.BS J J J pK (FA) kR aP kO ?_;refine wW ?_;refine DL.BS J J J pK (RU a 8 hn.2 I ha ⟨I,h⟩) kR aP kO ?_;exact wW trivial)
def cut(B:List Int)(a k:Nat):List Int:=(B.drop a).take k
variable{a:Nat}
theorem F9(h:a+k<=B.length):(cut B a k).length=k:=by simp[cut];omega
theorem Lu(B:List Int)(a k:Nat):((bs B).drop a).take k=bs (cut B a k):=by simp[cut,bs,List.map_take,List.map_drop]
theorem Jp(h:FB B)(a k:Nat):FB (cut B a k):=fun x hx=>h x (ER (Dn hx))
theorem ZB(a:Nat)(hn:n<=4096)(hB:B.length=128*n)(hA:FB B)(ha:a<18446744073709551616)(h8:a%8=0)(h:a+8<=128*n):Fn Tryz.prog 30 [Au mb,.int .u64 a] [Dy mb ab n,EY ab B] (E4 (.tuple #[.int .u64 (JL (cut B a 8)),.int .i64 0]) [Dy mb ab n,EY ab B]):=by
 refine Fn.of Tryz.func30 J J [_,_] J ?_;have hw:((bs B).drop (if 128-a%128=8*0 then a else a+8*0*1)).take 8=bs (cut B a 8):=by rw[Ah I];exact Lu B a 8
 (refine wW ?_;refine DL.BS J J J pK (aAr a hn ha h8 h) kR aP kO ?_;refine wW ?_;refine DL.BS J J J pK (ze (l:=cut B a 8) 0 8 (Jp hA a 8) (F9 I) I I I hw) kR aP kO ?_;exact wW trivial)
theorem gQ(a:Nat)(hn:1<=n/\n<=4096)(ha:a<18446744073709551616)(h:a%8≠0\/128*n<a+8):∃e:Int,1<=e/\e<=30/\Fn Tryz.prog 30 [Au mb,.int .u64 a] [Dy mb ab n,EY ab B] (E4 (.tuple #[.int .u64 0,.int .i64 e]) [Dy mb ab n,EY ab B]):=by
 by_cases h8:a%8=0
 ·refine⟨6,I,I,?_⟩;refine Fn.of Tryz.func30 J J [_,_] J ?_
  (refine wW ?_;refine DL.BS J J J pK (ri a hn ha h8 I) kR aP kO ?_;exact wW trivial)
 ·refine⟨2,I,I,?_⟩;refine Fn.of Tryz.func30 J J [_,_] J ?_
  (refine wW ?_;refine DL.BS J J J pK (rh a hn ha h8) kR aP kO ?_;exact wW trivial)
def pat(B:List Int)(a:Nat)(X:List Int):List Int:=B.take a++X++B.drop (a+X.length)
theorem Ug(B X:List Int)(a:Nat):(bs B).take a++bs X++(bs B).drop (a+(bs X).length)=bs (pat B a X):=by simp only[pat,bs,Ai,List.map_take,List.map_drop,D3]
variable{x:Int}
theorem RX(a:Nat)(hn:n<=4096)(hB:B.length=128*n)(hx:0<=x/\x<=18446744073709551615)(ha:a<18446744073709551616)(h8:a%8=0)(h:a+8<=128*n):Fn Tryz.prog 31 [Au mb,.int .u64 a,.int .u64 x] [Dy mb ab n,EY ab B] (E4 (.int .i64 0) [Dy mb ab n,EY ab (pat B a (Ek x 8))]):=by
 refine Fn.of Tryz.func31 J J [_] J ?_
 (refine wW ?_;refine DL.BS J J J pK (aAr a hn ha h8 h) kR aP kO ?_;refine wW ?_)
 refine DL.call J J J (.nil) (eY hx.1 hx.2) kR (fun ch S1 hc=>by obtain⟨_,_,_,_,_,hc,_⟩:=hc;cases hc) ?_;rintro v S1 ⟨b,cap,ex,h1,h2,hv,rfl⟩;cases hv;refine⟨D9,?_⟩;simp only[AQ,AS,Dc];refine wW ?_;refine DL.copy (vs:=bs (Ek x 8)) (cs':=bs (pat B a (Ek x 8))) tt J (fun _ h=>by cases h;rfl) J J J .here (.there (.there .here)) ?_ ?_ ?_ (BV _) ?_ kO ?_
 ·simp[Aa,Ey]
 ·simp[Aa,Ey]
 ·exact Ug B (Ek x 8) a
 ·simp[Aa,Ey];omega
 exact wW trivial
theorem V3(a:Nat)(hn:1<=n/\n<=4096)(ha:a<18446744073709551616)(h:a%8≠0\/128*n<a+8):∃e:Int,1<=e/\e<=30/\Fn Tryz.prog 31 [Au mb,.int .u64 a,.int .u64 x] [Dy mb ab n,EY ab B] (E4 (.int .i64 e) [Dy mb ab n,EY ab B]):=by
 by_cases h8:a%8=0
 ·refine⟨6,I,I,?_⟩;refine Fn.of Tryz.func31 J J [_] J ?_
  (refine wW ?_;refine DL.BS J J J pK (ri a hn ha h8 I) kR aP kO ?_;exact wW trivial)
 ·refine⟨2,I,I,?_⟩;refine Fn.of Tryz.func31 J J [_] J ?_
  (refine wW ?_;refine DL.BS J J J pK (rh a hn ha h8) kR aP kO ?_;exact wW trivial)
theorem oe{a k p:Nat}:cut B a k++cut B (a+k) p=cut B a (k+p):=by simp only[cut];rw[List.take_add,<-EU]
abbrev RdI:=Nat×Nat×List Value
theorem ZC(a k:Nat)(hn:n<=4096)(hB:B.length=128*n)(hk:1<=k)(hk2:k<1073741824)(ha:a<18446744073709551616)(h:a+k<=128*n):Fn Tryz.prog 335 [Au mb,.int .u64 a,.int .i64 k] [Dy mb ab n,EY ab B] (Dv (ι:=RdI) (fun i=>k<=i.2.1/\i.2.2.length=i.2.1-k) (fun i=>.tuple #[.slice (some ⟨i.1,0,none⟩) k i.2.1,.int .i64 0]) (fun i=>[II i.1 (cut B a k) i.2.2,Dy mb ab n,EY ab B])):=by
 refine Fn.of Tryz.func335 J J [_,_] J ?_
 (refine wW ?_;refine DL.BS J J J pK (FA) kR aP kO ?_;refine wW ?_;refine DL.BS J J J pK (RR a k hn hk2 ha (.inr h)) kR aP kO ?_;refine wW ?_)
 refine CW.rN (ι:=Nat×RdI) (k+1) (fun i=>k-i.1) (fun i=>1<=i.1/\i.1<=k/\i.1<=i.2.2.1/\i.2.2.2.length=i.2.2.1-i.1) (fun i=>[(0,Au mb),(1,.int .u64 a),(2,.int .i64 k),(8,.slice (some ⟨i.2.1,0,none⟩) i.1 i.2.2.1)]) (fun i=>[II i.2.1 (cut B a i.1) i.2.2.2,Dy mb ab n,EY ab B]) ?_ ?_
 ·obtain⟨m,hm⟩:∃m:Nat,m=min 128 (a%128+k):=⟨_,rfl⟩
  obtain⟨p,hp⟩:∃p:Nat,p=m-a%128:=⟨_,rfl⟩
  have hl:=F9 (B:=B) (a:=a) (k:=p) I
  (refine wW ?_;refine DL.BS J J J pK (ZA a ha) kR aP kO ?_;refine wW ?_)
  refine DL.C3 tt (a/128) J J J J J J (show a/128<n by omega) ?_;refine wW ?_;rw[show(if((a%128:Nat):Int)+(k:Int)-((0:Nat):Int)<128 then((a%128:Nat):Int)+(k:Int)-((0:Nat):Int)else 128)=(m:Int) by split<;>omega];refine DL.Ld tt (l:=a%128) (m:=m) (c:=128) J J J J J J J (.UH J J I I) ?_;rw[Ah I,show 0+a/128*128+a%128*1=a by omega,<-hp];refine DL.N1 tt J J J eL J (DO.slice (news:=bs (cut B a p)) tt J iN (by rw[Dk];exact Lu B a p) (by rw[Aa,hl];omega) (BV _)) I I I kC ?_;intro b cap ex hex hcap;refine wW ?_;exact⟨(p,b,cap,ex),_,by simp only;omega,⟨by simp only;omega,by simp only;omega,hcap,by simpa using hex⟩,sF,pK⟩
 ·rintro⟨j,b0,cap0,yy⟩ ⟨h1,h2,h3,h4⟩;dsimp only at h1 h2 h3 h4⊢;have hl0:=F9 (B:=B) (a:=a) (k:=j) I;by_cases hjk:j<k
  ·obtain⟨m,hm⟩:∃m:Nat,m=min 128 ((a+j)%128+k-j):=⟨_,rfl⟩
   obtain⟨p,hp⟩:∃p:Nat,p=m-(a+j)%128:=⟨_,rfl⟩
   have hl:=F9 (B:=B) (a:=a+j) (k:=p) I;have hof:=ZA (a+j) I;rw[show((a+j:Nat):Int)=(a:Int)+(j:Int) by omega]at hof
   (refine wW ?_;refine DL.BS J J J pK (hof) kR aP kO ?_;refine wW ?_)
   refine DL.C3 tt ((a+j)/128) J J J J J J (show(a+j)/128<n by omega) ?_;refine wW ?_;rw[show(if(((a+j)%128:Nat):Int)+(k:Int)-(j:Int)<128 then(((a+j)%128:Nat):Int)+(k:Int)-(j:Int)else 128)=(m:Int) by split<;>omega];refine DL.Ld tt (l:=(a+j)%128) (m:=m) (c:=128) J J J J J J J (.UH J J I I) ?_;rw[Ah I,show 0+(a+j)/128*128+(a+j)%128*1=a+j by omega,<-hp];refine DL.append tt J J J eL J Es (DO.slice (news:=bs (cut B (a+j) p)) tt J iN (by rw[Dk];exact Lu B (a+j) p) (by rw[Aa,hl];omega) (BV _)) lN lN I I I kC ?_;intro b cap ex hex hcap;rw[H8,oe];refine wW ?_;exact⟨(j+p,b,cap,ex),_,by simp only;omega,⟨by simp only;omega,by simp only;omega,hcap,by simpa using hex⟩,sF,pK⟩
  ·obtain rfl:j=k:=I;refine wW ?_;exact BD (b0,cap0,yy) ⟨h3,h4⟩ rSs pK
theorem gR(a k:Nat)(hn:1<=n/\n<=4096)(hk:1<=k)(hk2:k<1073741824)(ha:a<18446744073709551616)(h:128*n<a+k):Fn Tryz.prog 335 [Au mb,.int .u64 a,.int .i64 k] [Dy mb ab n,EY ab B] (E4 (.tuple #[.slice none 0 0,.int .i64 6]) [Dy mb ab n,EY ab B]):=by
 refine Fn.of Tryz.func335 J J [_,_] J ?_
 (refine wW ?_;refine DL.BS J J J pK (FA) kR aP kO ?_;refine wW ?_;refine DL.BS J J J pK (RU a k hn.2 hk2 ha ⟨I,h⟩) kR aP kO ?_;exact wW trivial)
theorem Ie(h:a+X.length<=B.length):(pat B a X).length=B.length:=by simp[pat];omega
theorem og(B:List Int)(a:Nat):pat B a []=B:=by simp[pat]
theorem oh{U V:List Int}(h:a<=B.length):pat (pat B a U) (a+U.length) V=pat B a (U++V):=by
 have e1:(pat B a U).take (a+U.length)=B.take a++U:=by
  have hl:(B.take a++U).length=a+U.length:=by simp;omega
  simp only[pat];rw[<-hl,List.take_left'];rfl
 have e2:(pat B a U).drop (a+U.length+V.length)=B.drop (a+(U++V).length):=by
  have hl:(B.take a++U).length=a+U.length:=by simp;omega
  rw[<-EU];simp only[pat];rw[<-hl,List.drop_left']
  ·rw[EU,hl];simp[Nat.add_assoc]
  ·rfl
 show(pat B a U).take (a+U.length)++V++(pat B a U).drop (a+U.length+V.length)=_;rw[e1,e2];simp[pat]
variable{nM:List Value}
theorem OG{sb so cap st:Nat}(a L:Nat)(hn:1<=n/\n<=4096)(hB:B.length=128*n)(hL:X.length=L)(hk2:L<1073741824)(hcap:L<=cap)(hX:(nM.drop so).take L=bs X)(ha:a<18446744073709551616)(h:a+L<=128*n):Fn Tryz.prog 190 [Au mb,.int .u64 a,.slice (some ⟨sb,so,none⟩) L cap] [Dy mb ab n,EY ab B,A7 sb nM st] (E4 (.int .i64 0) [Dy mb ab n,EY ab (pat B a X),A7 sb nM st]):=by
 refine Fn.of Tryz.func190 J J [_] J ?_
 (refine wW ?_;refine DL.BS J J J pK (FA) kR aP kO ?_;refine wW ?_;refine DL.BS J J J pK (RR a L hn.2 hk2 ha (.inr h)) kR aP kO ?_;refine wW ?_)
 have e0:EY ab B=EY ab (pat B a (X.take 0)):=by rw[List.take_zero,og]
 rw[e0];refine CW.loop (ι:=Nat) (fun i=>L-i) (fun i=>i<=L) (fun i=>[(0,Au mb),(1,.int .u64 a),(2,.slice (some ⟨sb,so,none⟩) L cap),(7,.int .i64 i)]) (fun i=>[Dy mb ab n,EY ab (pat B a (X.take i)),A7 sb nM st]) 0 I sF pK ?_;intro j hj;by_cases hjk:j<L
 ·obtain⟨m,hm⟩:∃m:Nat,m=min (L-j) (128-(a+j)%128):=⟨_,rfl⟩
  have hU:(X.take j).length=j:=by simp;omega
  have hV:((X.drop j).take m).length=m:=by simp;omega
  have hpl:=Ie (B:=B) (X:=X.take j) (a:=a) I;have hof:=ZA (a+j) I;rw[show((a+j:Nat):Int)=(a:Int)+(j:Int) by omega]at hof
  (refine wW ?_;refine DL.BS J J J pK (hof) kR aP kO ?_;refine wW ?_)
  refine CW.dw [0,1,2,3,4,5,6,7,8,9,10,11,12,13,14] [Dy mb ab n] mixed hz kR pK nD ?_;refine wW ?_;refine DL.C3 tt ((a+j)/128) J J J J J J (show(a+j)/128<n by omega) ?_;refine wW ?_;refine DL.Ld tt (l:=(a+j)%128) (m:=128) (c:=128) J J J J J J J (.lo J I) ?_;rw[Ah I,show 0+(a+j)/128*128+(a+j)%128*1=a+j by omega];refine wW ?_;refine DL.Qj tt (l:=j) (m:=L) (c:=cap) J J J J J J J (.lo J I) ?_;rw[Ah I,show so+j*1=so+j by omega];skip
  refine DL.copy (vs:=bs ((X.drop j).take m)) (cs':=bs (pat B a (X.take (j+m)))) tt J (fun _ h=>by cases h;rfl) J J J (.there (.there .here)) uP ?_ ?_ ?_ (BV _) ?_ kO ?_
  ·rw[<-hm,<-EU];have:=congrArg (fun l=>(l.drop j).take m) hX;rw[List.drop_take,List.take_take,show min m (L-j)=m by omega]at this;rw[this];simp[bs,List.map_take,List.map_drop]
  ·rw[Aa,hV,hm]
  ·rw[Ug];have:=oh (B:=B) (U:=X.take j) (V:=(X.drop j).take m) (a:=a) I;rw[hU,<-List.take_add]at this;rw[this]
  ·rw[Aa,Aa,hV,hpl];omega
  rw[Aa,hV];refine wW ?_;exact⟨j+m,_,I,I,sF,pK⟩
 ·obtain rfl:j=L:=I;have VV:X.take j=X:=by rw[AX I]
  rw[VV];exact wW trivial
theorem TU{sb so cap st:Nat}(a L:Nat)(hn:1<=n/\n<=4096)(hL:1<=L)(hk2:L<1073741824)(ha:a<18446744073709551616)(h:128*n<a+L):Fn Tryz.prog 190 [Au mb,.int .u64 a,.slice (some ⟨sb,so,none⟩) L cap] [Dy mb ab n,EY ab B,A7 sb nM st] (E4 (.int .i64 6) [Dy mb ab n,EY ab B,A7 sb nM st]):=by
 refine Fn.of Tryz.func190 J J [_] J ?_
 (refine wW ?_;refine DL.BS J J J pK (FA) kR aP kO ?_;refine wW ?_;refine DL.BS J J J pK (RU a L hn.2 hk2 ha ⟨I,h⟩) kR aP kO ?_;exact wW trivial)
theorem FB.of(h:BN B):FB B:=fun x hx=>⟨(h x hx).1,by have:=(h x hx).2;omega⟩
theorem BN.cut(h:BN B)(a k:Nat):BN (cut B a k):=fun x hx=>h x (ER (Dn hx))
theorem BN.pat(h:BN B)(k:BN X)(a:Nat):BN (pat B a X):=fun x hx=>by
 simp only[Sep.pat,Aj]at hx;rcases hx with(hx|hx)|hx
 ·exact h x (Dn hx)
 ·exact k x hx
 ·exact h x (ER hx)
theorem JE(n:Int)(k:Nat):BN (Ek n k):=fun x hx=>by simp only[Ek,A8]at hx;obtain⟨j,_,rfl⟩:=hx;omega
def isByte:AV->Bool
 | .int k lo hi=>I9 k .u8&&Gz 0 lo&&Gz hi 255
 |_=>false
def Xo:AV->Bool
 | .sl _ _ len cap=>Nat.ble len cap
 | .G3 _ _=>true
 | .O3 _ _ _=>true
 |_=>false
def Uh(hp:C7 AB)(a:AV):Option (Nat×Nat):=match Ld a with
 |some (n,off,len)=>match hp.get n with
  |some ab=>match ab.cs with
   |some l=>bif Xo a&&Nat.beq (List.take len (List.drop off l)).length len&&(List.take len (List.drop off l)).all isByte then some (n,len)else none
   |none=>none
  |none=>none
 |none=>none
theorem V4{ρ:Nm}:∀{l:List AV} {vs:List Value},Bt ρ l vs->l.all isByte=true->∃X,vs=bs X/\BN X
 |_,_,.nil,_=>⟨[],rfl,fun _ h=>by simp at h⟩
 |_,_,.cons h k,ha=>by
  simp only[List.all_cons,AI]at ha;obtain⟨X,rfl,hX⟩:=V4 k ha.2;have h1:=ha.1;cases h<;>simp only[isByte,reduceCtorEq,Ce]at h1;rename_i kk lo hi z a1 a2;simp only[AI,FU]at h1;obtain rfl:=Fz h1.1.1;refine⟨z::X,rfl,fun y hy=> ?_⟩;rcases Ab.1 hy with rfl|hy
  ·omega
  ·exact hX y hy
theorem O7{p:Pt}(hp:p.good RS){a:AV}{L:Nat}(h:Uh p.st.hp a=some (k,L))(hv:EM p.ρ a v):k∈p.live/\(∃ab,p.st.hp.get k=some ab/\ab.cs.isSome=true)/\∃b so cap cs t X,p.C k=A7 b cs t/\v=.slice (some ⟨b,so,none⟩) L cap/\L<=cap/\(cs.drop so).take L=bs X/\X.length=L/\BN X:=by
 unfold Uh at h;split at h
 ·rename_i n off len hsl;split at h
  ·rename_i ab hab;split at h
   ·rename_i l hl;cases hb:Xo a&&Nat.beq (List.take len (List.drop off l)).length len&&(List.take len (List.drop off l)).all isByte<;>rw[hb]at h<;>simp only[AN,AO,reduceCtorEq,AH,Af]at h;obtain⟨rfl,rfl⟩:=h;simp only[AI]at hb;obtain⟨⟨hcap,hlen⟩,hby⟩:=hb;have hlen:=AK hlen;obtain⟨hlive,hcb⟩:=hp.mem hab;obtain⟨b,c,vs,ex,t,hρ,hcl,hC⟩:=hcb.cs hl;obtain⟨b',c',cap,E8,rfl⟩:=Nc hsl hv;rw[hρ]at E8;cases E8;obtain⟨X,hX,Ix⟩:=V4 ((hcl.drop off).take len) hby;have Hw:X.length=len:=by have:=congrArg List.length hX;rw[Aa]at this;rw[<-this,((hcl.drop off).take len).len];exact hlen
    have hle:len<=cap:=by
     cases a<;>simp only[Xo,Ce]at hcap
     ·simp only[Ld,AH,Af]at hsl;obtain⟨rfl,rfl,rfl⟩:=hsl;cases hv;exact AL hcap
     ·simp only[Ld,AH,Af]at hsl;obtain⟨rfl,rfl,rfl⟩:=hsl;cases hv with|G3 IJ hc=>
      exact hc
     ·cases hv with|O3 IJ ho hc=>exact hc
    refine⟨hlive,⟨ab,hab,by rw[hl];rfl⟩,b,off,cap,vs++ex,t,X,hC,rfl,hle,?_,Hw,Ix⟩;rw[Gk,hX];rw[((hcl.drop off).take len).len];exact hlen
   ·cases h
  ·cases h
 ·cases h
variable{j:Nat}
theorem Pt.two{p:Pt}(hp:p.good RS)(hk:k∈p.live)(hj:j∈p.live)(hne:j≠k):p.S.Perm (p.C k::p.C j::((p.live.erase k).erase j).map p.C):=by refine(hp.H.pick hk).trans (.cons _ ?_);have hj':j∈p.live.erase k:=(Be hne).2 hj;have:=(CL hj').map p.C;simpa using this
theorem Pt.Lx{p:Pt}(c:List CH)(hj:j∈p.live)(hne:j≠k):(c::p.C j::((p.live.erase k).erase j).map p.C).Perm (c::(p.live.erase k).map p.C):=by refine .cons _ ?_;have hj':j∈p.live.erase k:=(Be hne).2 hj;have:=(CL hj').map p.C;simpa using this.symm
section
variable{n:Nat} {RS:EA} (hn:1<=n/\n<=4096) (hM:∀b cs,RS 0 [] b cs↔Ni n b cs)
include hn hM
theorem aCK:ET Tryz.prog RS 30 (Iw 0 0 [] [.Au 0 0,Bw] (.Ec [Bw,EB])):=JW fun ρ b c comp vs hρ hr hv=>by
 obtain⟨ab,B,rfl,hB,hb⟩:=(hM b comp).1 hr;cases hv with|cons h1 hv=>cases hv with|cons h2 hv=>
 cases hv;cases h1 with|Au h1=>
 rw[hρ]at h1;cases h1;cases h2 with| @int _ _ _ g a1 a2=>
 have hg:=JX ⟨a1,a2⟩;obtain⟨a,rfl⟩:=BO hg.1;by_cases hin:a%8=0/\a+8<=128*n
 ·have hA:=FB.of hb;have hbd:=QG (Jp hA a 8);rw[F9 I]at hbd;refine Fn.FW ((ZB a hn.2 hB hA I hin.1 hin.2).mono (Ik.of hr (.Ec (.cons (.int ?_ ?_) (.cons (Fa I) .nil)))))
  ·rw[Fj];exact hbd.1
  ·rw[F2];show JL (cut B a 8)<=18446744073709551615;omega
 ·obtain⟨e,h1,h2,hf⟩:=gQ (mb:=b) (ab:=ab) (B:=B) a hn I I;exact Fn.FW (hf.mono (Ik.of hr (.Ec (.cons (.int Ba Ba) (.cons (Fa I) .nil)))))
theorem aCL:ET Tryz.prog RS 31 (Iw 0 0 [] [.Au 0 0,Bw,Bw] EB):=JW fun ρ b c comp vs hρ hr hv=>by
 obtain⟨ab,B,rfl,hB,hb⟩:=(hM b comp).1 hr;cases hv with|cons h1 hv=>cases hv with|cons h2 hv=>cases hv with|cons h3 hv=>
 cases hv;cases h1 with|Au h1=>
 rw[hρ]at h1;cases h1;cases h2 with| @int _ _ _ g a1 a2=>
 cases h3 with| @int _ _ _ x b1 b2=>
 have hg:=JX ⟨a1,a2⟩;have hx:=JX ⟨b1,b2⟩;obtain⟨a,rfl⟩:=BO hg.1;by_cases hin:a%8=0/\a+8<=128*n
 ·exact Fn.FW ((RX a hn.2 hB hx I hin.1 hin.2).mono (Ik.of ((hM _ _).2 ⟨ab,_,rfl,by rw[Ie (by rw[Ey];omega)];exact hB,hb.pat (JE x 8) a⟩) (Fa I)))
 ·obtain⟨e,h1,h2,hf⟩:=V3 (mb:=b) (ab:=ab) (B:=B) (x:=x) a hn I I;exact Fn.FW (hf.mono (Ik.of hr (Fa I)))
def wrC:List AV->St->Option (List R1):=fun args s=>match args with
 |[.Au 0 0,a,x]=>match s.hp.get 0 with
  |some (.res 0 [])=>match Uh s.hp x with
   |some (k,L)=>bif P3 a Bw&&Nat.ble 1 L&&Nat.ble L 1000000 then some [.val EB (s.set 0 (.res 0 []))]else none
   |none=>none
  |_=>none
 |_=>none
theorem aAs:ET Tryz.prog RS 190 wrC:=by
 intro args s rs hc p hst hp vs hvs;subst hst;unfold wrC at hc;split at hc
 ·rename_i a x;split at hc
  ·rename_i hget;split at hc
   ·rename_i k L hby;cases hcond:P3 a Bw&&Nat.ble 1 L&&Nat.ble L 1000000<;>rw[hcond]at hc<;>simp only[AN,AO,reduceCtorEq,AH]at hc;subst hc;simp only[AI]at hcond;obtain⟨⟨hle,hL1⟩,hL2⟩:=hcond;have hL1:=AL hL1;have hL2:=AL hL2;cases hvs with|cons h1 hvs=>cases hvs with|cons h2 hvs=>cases hvs with|cons h3 hvs=>
    cases hvs;obtain⟨hlive,hcb⟩:=hp.mem hget;obtain⟨HC,⟨rU,IN,hcs2⟩,b2,so,cap,cs,t,X,hC2,rfl,hcap,hX,Hw,Ix⟩:=O7 hp hby h3;have hne:k≠0:=fun e=>by subst e;rw[hget]at IN;cases IN;cases hcs2
    generalize hC:p.C 0=ck at hcb;cases hcb with| @res _ b c _ comp hρ hr=>
    cases h1 with|Au h1=>
    rw[hρ]at h1;cases h1;have h2:=IW h2 hle;cases h2 with| @int _ _ _ g a1 a2=>
    have hg:=JX ⟨a1,a2⟩;obtain⟨a,rfl⟩:=BO hg.1;obtain⟨ab,B,rfl,hB,hb⟩:=(hM b _).1 hr;have hS:=Pt.two hp hlive HC hne;rw[hC,hC2]at hS;have main:∃e B',0<=e/\e<=30/\Ni n b (Dy b ab n++EY ab B')/\Fn Tryz.prog 190 [Au b,.int .u64 a,.slice (some ⟨b2,so,none⟩) L cap] [Dy b ab n,EY ab B,A7 b2 cs t] (E4 (.int .i64 e) [Dy b ab n,EY ab B',A7 b2 cs t]):=by
     by_cases hin:a+L<=128*n
     ·exact⟨0,_,I,I,⟨ab,_,rfl,by rw[Ie I];exact hB,hb.pat Ix a⟩,OG a L hn hB Hw I hcap hX I hin⟩
     ·exact⟨6,B,I,I,⟨ab,B,rfl,hB,hb⟩,TU a L hn hL1 I I I⟩
    obtain⟨e,B',he1,he2,hr',hf⟩:=main;intro A U w hs;have hs':Ds A w ([Dy b ab n,EY ab B,A7 b2 cs t]++(((p.live.erase 0).erase k).map p.C++U)):=by have:=hs.perm (hS.append_right U);exact this.flat DI
    refine(hf A _ w hs').mono ?_;rintro e' w' ⟨h0,S',hs1,rfl,rfl⟩;refine⟨h0,(Dy b ab n++EY ab B')::(p.live.erase 0).map p.C,?_,.inl ⟨EB,_,AP.2 J,p.set 0 (.res 0 []) (Dy b ab n++EY ab B'),_,rfl,rfl,rfl,.set p 0 _ _,hp.set hlive (.res hρ ((hM _ _).2 hr')),Fa ⟨he1,he2⟩,rfl⟩⟩;have e1:=Pt.Lx (p:=p) (k:=0) (j:=k) (Dy b ab n++EY ab B') HC hne;rw[hC2]at e1;refine Ds.perm ?_ (e1.append_right U);exact hs1.flat DI
   ·cases hc
  ·cases hc
 ·cases hc
def rdC:List AV->St->Option (List R1):=fun args s=>match args with
 |[.Au 0 0,a,.int .i64 lo hi]=>match s.hp.get 0 with
  |some (.res 0 [])=>bif P3 a Bw&&FN lo 32&&FN hi 32&&s.room then some [.val (.Ec [.val (.slice none 0 0),.int .i64 (.ofNat 1) (.ofNat 30)]) (s.set 0 (.res 0 [])),.val (.Ec [.G3 s.nx 32,.int .i64 (.ofNat 0) (.ofNat 0)]) (s.new (.grown (List.replicate 32 OF) 5 1))]else none
  |_=>none
 |_=>none
theorem aAt:ET Tryz.prog RS 335 rdC:=by
 intro args s rs hc p hst hp vs hvs;subst hst;unfold rdC at hc;split at hc
 ·rename_i a lo hi;split at hc
  ·rename_i hget;cases hcond:P3 a Bw&&FN lo 32&&FN hi 32&&p.st.room<;>rw[hcond]at hc<;>simp only[AN,AO,reduceCtorEq,AH]at hc;subst hc;simp only[AI,EO]at hcond;obtain⟨⟨⟨hle,rfl⟩,rfl⟩,hroom⟩:=hcond;cases hvs with|cons h1 hvs=>cases hvs with|cons h2 hvs=>cases hvs with|cons h3 hvs=>
   cases hvs;obtain⟨hlive,hcb⟩:=hp.mem hget;generalize hC:p.C 0=ck at hcb;cases hcb with| @res _ b c _ comp hρ hr=>
   cases h1 with|Au h1=>
   rw[hρ]at h1;cases h1;have h2:=IW h2 hle;cases h2 with| @int _ _ _ g a1 a2=>
   cases h3 with| @int _ _ _ k c1 c2=>
   obtain rfl:k=32:=I;have hg:=JX ⟨a1,a2⟩;obtain⟨a,rfl⟩:=BO hg.1;obtain⟨ab,B,rfl,hB,hb⟩:=(hM b _).1 hr;have hS:=hp.H.pick hlive;rw[hC]at hS;intro A U w hs;have hs':Ds A w ([Dy b ab n,EY ab B]++((p.live.erase 0).map p.C++U)):=by have:=hs.perm (hS.append_right U);exact this.flat DI
   by_cases hin:a+32<=128*n
   ·refine(ZC a 32 hn.2 hB I I I hin A _ w hs').mono ?_;rintro e' w' ⟨h0,S',hs1,⟨nb,cap,ex⟩,⟨hj1,hj2⟩,rfl,rfl⟩;dsimp only at hj1 hj2 hs1⊢;have hcon:Da RS (p.ρ++[(nb,cap)]) p.st.nx (.grown (List.replicate 32 OF) 5 1) (A7 nb (bs (cut B a 32)++ex) 5):=by
     refine .grown (Pt.EZ hp _) ?_ ?_
     ·have:=IX (ρ:=p.ρ++[(nb,cap)]) (hb.cut a 32)
      rwa [F9 I]at this
     ·rw[Aa,F9 I];omega
    refine⟨h0,A7 nb (bs (cut B a 32)++ex) 5::p.S,?_,.inl ⟨_,_,Aw _ (AP.2 J),p.new (nb,cap) (.grown (List.replicate 32 OF) 5 1) (A7 nb (bs (cut B a 32)++ex) 5),_,rfl,rfl,rfl,.new hp _ _ _,hp.new hroom _ hcon,.Ec (.cons (.G3 (Pt.EZ hp _) hj1) (.cons (.int Ba Ba) .nil)),rfl⟩⟩;have hs2:Ds A w' ((A7 nb (bs (cut B a 32)++ex) 5::(Dy b ab n++EY ab B)::(p.live.erase 0).map p.C)++U):=hs1.flat DI;exact hs2.perm ((List.Perm.cons _ hS.symm).append_right U)
   ·refine(gR a 32 hn I I I I A _ w hs').mono ?_;rintro e' w' ⟨h0,S',hs1,rfl,rfl⟩;refine⟨h0,(Dy b ab n++EY ab B)::(p.live.erase 0).map p.C,hs1.flat DI,.inl ⟨_,_,BH,p.set 0 (.res 0 []) (Dy b ab n++EY ab B),_,rfl,rfl,rfl,.set p 0 _ _,hp.set hlive (.res hρ hr),.Ec (.cons .val (.cons (.int Ba Ba) .nil)),rfl⟩⟩
  ·cases hc
 ·cases hc
end
abbrev F5:=List AV->St->Option (List R1)
def mkT{α:Type}:List (Nat×α)->C7 α
 |[]=>.e
 |(k,v)::r=>(mkT r).put 24 k (some v)
theorem Un{α:Type}:∀{l:List (Nat×α)} (h:∀p∈l,p.1<2^24) {k:Nat} {v:α},(mkT l).get k=some v->(k,v)∈l
 |[],_,k,v,h=>by simp[mkT,C7.FC]at h
 |(j,x)::r,hl,k,v,h=>by
  simp only[mkT]at h;rw[C7.get_put 24 _ j k _ (hl (j,x) DI)]at h;by_cases e:k=j
  ·subst e;simp at h;subst h;simp
  ·rw[Ah e]at h;exact Aw _ (Un (fun p hp=>hl p (Aw _ hp)) h)
def Ol(P:Program)(RS:EA):List (Nat×F5)->Prop
 |[]=>True
 |(f,c)::r=>(ET P RS f c/\f<2^24/\E5 P f=true)/\Ol P RS r
theorem Ol.mem:∀{l:List (Nat×F5)},Ol P RS l->∀p∈l,ET P RS p.1 p.2/\p.1<2^24/\E5 P p.1=true
 |(f,c)::r,h,p,hp=>by
  rcases Ab.1 hp with rfl|hp
  ·exact h.1
  ·exact h.2.mem p hp
theorem Ol.app{P:Program}{RS:EA}:∀{l m:List (Nat×F5)},Ol P RS l->Ol P RS m->Ol P RS (l++m)
 |[],_,_,h=>h
 |(f,c)::r,_,h,k=>⟨h.1,Ol.app h.2 k⟩
noncomputable def DY(l:List (Nat×F5)):GI:=vJ (mkT l).get
theorem DU{l:List (Nat×F5)}(h:Ol Tryz.prog RS l):En Tryz.prog RS (DY l):=oZ (fun f c hc=>(h.mem _ (Un (fun p hp=>(h.mem p hp).2.1) hc)).1) (fun f c hc=>(h.mem _ (Un (fun p hp=>(h.mem p hp).2.1) hc)).2.2)
abbrev Eb:List AB:=[.res 0 [],.res 1 [],.res 2 [0],.res 3 [0],.cells [.Au 0 0,.Au 1 0] 134]
abbrev mP:AV:=.Au 0 0
abbrev tP:AV:=.Au 1 0
abbrev oP:AV:=.Au 2 0
abbrev rP:AV:=.Au 3 0
abbrev xP:AV:=.Au 4 0
abbrev iv(a b:Nat):AV:=.int .i64 (.ofNat a) (.ofNat b)
abbrev stA:AV:=.int .i64 (.ofNat 1) (.ofNat 5)
def ct1:List (Nat×F5):=[
 (23,Iw 0 0 [] [mP] (iv 1 4096)),
 (26,Iw 0 0 [] [mP,CB] (.Ec [XA,EB])),
 (156,Iw 0 0 [] [mP,CB,XA] EB),
 (30,Iw 0 0 [] [mP,Bw] (.Ec [Bw,EB])),
 (31,Iw 0 0 [] [mP,Bw,Bw] EB),
 (190,wrC),(335,rdC),
 (67,Iw 1 1 [] [tP] (iv 1 4096)),
 (24,Iw 1 1 [] [tP,CB] (.Ec [.agg [iv 0 5,Bw,iv 0 2147483647],EB])),
 (25,Iw 1 1 [] [tP,CB] (.boo none)),
 (117,Iw 1 1 [] [tP,CB,stA,stA,Bw] EB),
 (126,Iw 1 1 [] [tP,CB] EB),
 (133,Iw 1 1 [] [tP,CB] EB)]
section
variable{n:Nat} {z:Nat->Bool} {RS:EA} (hn:1<=n/\n<=4096) (hM:∀b cs,RS 0 [] b cs↔Ni n b cs) (hT:∀b cs,RS 1 [] b cs↔aI n z b cs)
include hn hM hT
theorem vY:Ol Tryz.prog RS ct1:=
 ⟨⟨aAm hn hM,Ba,kR⟩,⟨aCG hn hM,Ba,kR⟩,⟨aAn hn hM,Ba,kR⟩,⟨aCK hn hM,Ba,kR⟩,⟨aCL hn hM,Ba,kR⟩,⟨aAs hn hM,Ba,kR⟩,⟨aAt hn hM,Ba,kR⟩,
  ⟨aCH hn hT,Ba,kR⟩,⟨aCI hn hT,Ba,kR⟩,⟨aCJ hn hT,Ba,kR⟩,⟨aAo hn hT,Ba,kR⟩,⟨aAp hn hT,Ba,kR⟩,⟨aAq hn hT,Ba,kR⟩,trivial⟩
end
def Gv(RS:Nat->EA)(l:Nat->List (Nat×F5)):Prop:=∀K R,K+R<=HM->Ol Tryz.prog (RS K) (l R)
variable{l:Nat->List (Nat×F5)}{m:Nat}{M:List Nat}{IB:RN}
theorem gk{RS:Nat->EA}(h:Gv RS l){B:List AB}(is:List Nat)(hs:HU (DY (l 0)) (E3 (DY (l 0)) m) f B M DK IB is=true)(hf:f<2^24)(hc:E5 Tryz.prog f=true):Gv RS (fun R=>(f,Si B M DK IB)::l R):=fun K R hR=>⟨⟨Ub (DU (h K 0 I)) (FG (DU (h K 0 I)) m) is hs,hf,hc⟩,h K R hR⟩
theorem gl{RS:Nat->EA}(hR:GX RS)(h:Gv RS l){B:List AB}(δ:Nat)(is:List Nat)(hs:PD (DY (l δ)) (E3 (DY (l δ)) m) f B M DK IB δ is=true)(hf:f<2^24)(hc:E5 Tryz.prog f=true):Gv RS (fun R=>(f,aJ B M DK IB δ R)::l R):=fun K R I7=>⟨⟨ZD (E:=fun R=>DY (l R)) (ih:=fun R=>E3 (DY (l R)) m) hR (fun K R h2=>DU (h K R h2)) (fun K R h2=>FG (DU (h K R h2)) m) is hs K R I7,hf,hc⟩,h K R I7⟩
structure Sm (l m:Nat->List (Nat×F5)):Prop where
 ok:∀{RS:Nat->EA},GX RS->Gv RS l->Gv RS m
theorem Sm.refl{l:Nat->List (Nat×F5)}:Sm l l:=⟨fun _ h=>h⟩
noncomputable def nG(l:Nat->List (Nat×F5))(f:Nat)(B:List AB)(M:List Nat)(a:List AV)(r:RN)(δ:Nat):Nat->List (Nat×F5):=fun R=>(f,aJ B M a r δ R)::l R
noncomputable def nC(l:Nat->List (Nat×F5))(f:Nat)(a:List AV)(r:RN):Nat->List (Nat×F5):=fun R=>(f,Si [] [] a r)::l R
variable{l0:Nat->List (Nat×F5)}
theorem Sm.g(h:Sm l0 l)(is:List Nat:=[]){B:List AB}{a:List AV}{r:RN}{δ:Nat}(k:(PD (DY (l δ)) (E3 (DY (l δ)) 100000) f B M a r δ is&&(Nat.blt f (2^24)&&E5 Tryz.prog f))=true:=by(kernel_rfl)):Sm l0 (nG l f B M a r δ):=by simp only[AI]at k;exact⟨fun hR h0=>gl hR (h.ok hR h0) δ is k.1 (AL k.2.1) k.2.2⟩
theorem Sm.c(h:Sm l0 l)(is:List Nat:=[]){a:List AV}{r:RN}(k:(HU (DY (l 0)) (E3 (DY (l 0)) 100000) f [] [] a r is&&(Nat.blt f (2^24)&&E5 Tryz.prog f))=true:=by(kernel_rfl)):Sm l0 (nC l f a r):=by simp only[AI]at k;exact⟨fun hR h0=>gk (h.ok hR h0) is k.1 (AL k.2.1) k.2.2⟩
section
variable{P:Program} {n:Nat} {fr:Fr} {S:A2}
def nO(P:Program)(n:Nat)(c:Code)(QW:Om->A2->Exit->Act->World->Prop)(fr:Fr)(S:A2):Prop:=∀A R a w,A.inv=(fun a=>a.defers=[])->a.defers=[]->Ep n a fr->Ds A w (S++R)->c.wp P (QW A R) a w
theorem OO{c:Code}{a:Act}(h:A.inv=fun a=>a.defers=[])(hd:a.defers=[]):VT A c a:=by refine⟨by rw[h];exact hd,fun d v a _=> ?_⟩;rw[h];exact id
variable{y:Code}{QW:Om->A2->Exit->Act->World->Prop}
theorem nO.seq{x:Code}(Q:EX)(hQ:∀A R e a w,A.inv=(fun a=>a.defers=[])->HY n A R Q e a w->QW A R e a w)(h:CW P n x (IL (fun fr S=>nO P n y QW fr S) Q) fr S):nO P n (.seq x y) QW fr S:=by
 intro A R a w hi hd hk hs;refine wp_seq (wp_mono (h A R a w (OO hi hd) hk hs) ?_);rintro e a' w' ⟨hd',hh⟩;cases e with
 |normal=>obtain⟨fr',S',hk',hs',hq⟩:=hh;exact hq A R a' w' hi (by rw[hi]at hd';exact hd') hk' hs'
 |_=>exact hQ _ _ _ _ _ hi ⟨hd',hh⟩
def dn:Code->Nat->Bool
 | .seq x y,d=>dn x d||dn y d
 | .cond _ x y,d=>dn x d||dn y d
 | .block _ x,d=>dn x d
 | .loop x,d=>dn x d
 | .scope x,d=>dn x d
 | .region _ An _,d=>An.toList.any fun o=>o.dst==some d
 |_,_=>false
theorem Pe{d:Nat}:∀{c:Code},Wr c d->dn c d=true
 | .seq x y,h=>by
  simp only[dn,BI];rcases h with h|h
  ·exact .inl (Pe h)
  ·exact .inr (Pe h)
 | .cond _ x y,h=>by
  simp only[dn,BI];rcases h with h|h
  ·exact .inl (Pe h)
  ·exact .inr (Pe h)
 | .block _ x,h=>Pe (c:=x) h
 | .loop x,h=>Pe (c:=x) h
 | .scope x,h=>Pe (c:=x) h
 | .region _ An _,h=>by obtain⟨i,o,ho,hd⟩:=h;simp only[dn,Dq];exact⟨o,Array.mem_toList_iff.2 (Dw ho),by simp[hd]⟩
theorem aAO{c:Code}{d:Nat}(h:dn c d=false):¬Wr c d:=fun hw=>by rw[Pe hw]at h;cases h
variable{Q:EX}{t ty:Nat}{pos:String}{af:Array Edge}
theorem nO.defer{id ty' s:Nat}{pos':String}{af':Array Edge}{xs:Array Operand}{cap:List Value}
 (ht:Nat.blt t n=true) (hc:FP fr xs.toList=some cap) (hv:lk fr s=some v) (hst:Nat.beq t s=false) (hw:¬Wr y s)
 (hQ:∀A R e a w,HY n {A with inv:=fun a=>a.defers=[{target:=.fn (.func f) cap.toArray,args:= #[]}]/\a.tmps[s]? =some v} R Q e a w->QW A R e a w)
 (h:CW P n y Q ((t,.func (.func f) #[] cap.toArray)::fr) S):
 nO P n (.seq (.region id #[⟨some t,.makeFunc (.func f) #[] xs,ty,pos,af,none⟩,⟨none,.defer ⟨.value (.tmp t),#[],#[]⟩,ty',pos',af',none⟩] false) y) QW fr S:=by
 intro A R a w hi hd hk hs;have ht:t<n:=by simpa using ht
 have hst:t≠s:=fun e=>by subst e;simp[GH]at hst
 have e1:xs.map a.eval=cap.toArray:=Bl.1 (by simpa using EV hk hc);have hk1:=hk.put ht (.func (.func f) #[] cap.toArray);have e2:(a.put (some t) (.func (.func f) #[] cap.toArray)).eval (.tmp t)=.func (.func f) #[] cap.toArray:=hk1.eval (x:=.tmp t) (by simp[Eg,lk]);refine wp_seq (wp_region ?_);simp only[List.range_succ_eq_map,List.range_zero,List.size_toArray,Bz,List.length_nil,Ap,CP];rw[wpOps];simp only[Dx,Ci,DR,Region.wanted,C9];refine .inl ?_;rw[Oper.wp];have r1:(execOp a.eval ⟨some t,.makeFunc (.func f) #[] xs,ty,pos,af,none⟩).run P w=.ok (.value (.func (.func f) #[] cap.toArray)) w:=by simp[execOp,Instr.makeFunc,e1]
 rw[r1,Oper.upon_value,wpOps];simp only[Dx,Ci,DR,Region.wanted,C9];refine .inl ?_;rw[Oper.wp];have r2:(execOp (a.put (some t) (.func (.func f) #[] cap.toArray)).eval ⟨none,.defer ⟨.value (.tmp t),#[],#[]⟩,ty',pos',af',none⟩).run P w=.ok (.defer {target:=.fn (.func f) cap.toArray,args:= #[]}) w:=by simp[execOp,resolve,e2,Deferred.ofValue]
 rw[r2,Oper.upon_defer,wpOps];show Exit.then _ _ .normal _ w;refine wp_mono (h {A with inv:=fun a=>a.defers=[{target:=.fn (.func f) cap.toArray,args:= #[]}]/\a.tmps[s]? =some v} R _ w ⟨⟨?_,?_⟩,fun d v' a hwd hin=>⟨?_,?_⟩⟩ ⟨hk1.size,hk1.has⟩ (hs.tQ _)) (fun e a w hh=>hQ _ _ _ _ _ hh)
 ·show _::_=_::_;rw[Sep.Act.put_defers,hd]
 ·show(a.put (some t) _).tmps[s]? =_;simp only[Act.put,CN hst];exact hk.has s v hv
 ·exact hin.1
 ·have hne:d≠s:=fun e=>hw (e▸hwd)
  show(a.put (some d) v').tmps[s]? =_;simp only[Act.put,CN hne];exact hin.2
end
theorem vk(w:World):(Op.equal 20 .nilIface .nilIface).run Tryz.prog w=.ok true w:=by show(Op.equalIn (9999+1) 20 .nilIface .nilIface).run Tryz.prog w=.ok true w;rw[Op.equalIn];simp only[Ag,Ac Tryz.underlying20,Ad];rfl
theorem vn(w:World)(t:Nat)(v:Value):(Op.equal 20 (.iface t v) .nilIface).run Tryz.prog w=.ok false w:=by show(Op.equalIn (9999+1) 20 (.iface t v) .nilIface).run Tryz.prog w=.ok false w;rw[Op.equalIn];simp only[Ag,Ac Tryz.underlying20,Ad];rfl
variable{ty:Nat}{pos:String}{af:Array Edge}{gd:Option (Nat×Bool)}
theorem vq(a:Act)(w:World)(h:a.eval (.tmp 4)=.nilIface):(execOp a.eval ⟨some 6,.binOp .eql 20 (.tmp 4) (.const .nilIface) 20,ty,pos,af,gd⟩).run Tryz.prog w=.ok (.value (.bool true)) w:=by have h2:a.eval (.const .nilIface)=.nilIface:=rfl;simp only[execOp,h,h2];have e1:eqGuard .eql 20 (.tmp 4) (.const .nilIface) .nilIface .nilIface=pure ():=rfl;have e2:binOp .eql 20 .nilIface .nilIface=(do pure (.bool (<-Op.equal 20 .nilIface .nilIface))):=rfl;simp only[e1,e2,Ag,BA,Ad,vk]
variable{t:Nat}
theorem aFf(a:Act)(w:World)(h:a.eval (.tmp 4)=.iface t v):(execOp a.eval ⟨some 6,.binOp .eql 20 (.tmp 4) (.const .nilIface) 20,ty,pos,af,gd⟩).run Tryz.prog w=.ok (.value (.bool false)) w:=by have h2:a.eval (.const .nilIface)=.nilIface:=rfl;simp only[execOp,h,h2];have e1:eqGuard .eql 20 (.tmp 4) (.const .nilIface) (.iface t v) .nilIface=pure ():=rfl;have e2:binOp .eql 20 (.iface t v) .nilIface=(do pure (.bool (<-Op.equal 20 (.iface t v) .nilIface))):=rfl;simp only[e1,e2,Ag,BA,Ad,vn]
theorem vr(a:Act)(w:World)(h:a.eval (.tmp 4)=.iface 144 v):(execOp a.eval ⟨some 7,.typeAssert (.tmp 4) 20 144 true,ty,pos,af,gd⟩).run Tryz.prog w=.ok (.value (.tuple #[v,.bool true])) w:=by simp only[execOp,h,Instr.typeAssert,Ag,Ac Tryz.underlying144,Ad];rfl
def leB(a b:AB):Bool:=match a,b with
 | .cells x t,.cells y u=>G0 x y&&Nat.beq t u
 |_,_=>false
def Tm(m:Nat):Nat->List AB->C7 AB->Bool
 |_,[],_=>true
 |k,a::r,t=>(match t.get k with|some b=>di m b a||leB b a|none=>false)&&Tm m (Nat.succ k) r t
theorem WR{m:Nat}:∀{B:List AB} {k:Nat} {t:C7 AB},Tm m k B t=true->∀j (hj:j<B.length),∃b,t.get (k+j)=some b/\(di m b B[j]=true\/leB b B[j]=true)
 |[],_,_,_,j,hj=>by simp at hj
 |a::r,k,t,h,j,hj=>by
  simp only[Tm,AI]at h;cases j with
  |zero=>
   have h1:=h.1;split at h1
   ·rename_i b hb;exact⟨b,hb,by simpa using h1⟩
   ·cases h1
  |succ j=>obtain⟨b,h2,h3⟩:=WR h.2 j (by simpa using hj);exact⟨b,by rw[show k+(j+1)=Nat.succ k+j by omega];exact h2,by simpa using h3⟩
def wU(ρ:Nm)(IB:RN)(e:Ending):Prop:=∃v x,x∈IB/\EM ρ x.2 v/\((x.1=false/\e=.returned v)\/(x.1=true/\e=.panicked [{v:=v,recovered:=false}]))
def Tn(Q:EX):EX where
 go:=fun e fr S=>∃T G,S.Perm (T++G)/\Q.go e fr T
 Eu:=fun ch S=>∃T G,S.Perm (T++G)/\Q.Eu ch T
variable{Q:EX}{fr:Fr}
theorem CW.pB{c:Code}(h:CW P n c (Tn Q) fr S):CW P n c Q fr S:=fun A R a w hd hk hs=>by
 refine wp_mono (h A R a w hd hk hs) ?_;rintro e a' w' ⟨hd',hh⟩;refine⟨hd',?_⟩;have key:∀(S T G:A2),S.Perm (T++G)->Ds A w' (S++R)->Ds A w' (T++R):=fun S T G hp hs=>by
  have h1:Ds A w' (G++(T++R)):=hs.perm (by rw[<-AU];exact(hp.trans CC).append_right _)
  exact h1.drops
 cases e with
 |panic ch=>obtain⟨S',hs',T,G,hp,hq⟩:=hh;exact⟨T,key _ _ _ hp hs',hq⟩
 |_=>obtain⟨fr',S',hk',hs',T,G,hp,hq⟩:=hh;exact⟨fr',T,hk',key _ _ _ hp hs',hq⟩
def dt{α:Type}:List (Nat×α)->C7 α
 |[]=>.e
 |(k,v)::r=>(dt r).put 24 k (some v)
theorem QR{α:Type}:∀{l:List (Nat×α)} (h:∀p∈l,p.1<2^24) {k:Nat} {v:α},(dt l).get k=some v->(k,v)∈l
 |[],_,k,v,h=>by simp[dt,C7.FC]at h
 |(j,x)::r,hl,k,v,h=>by
  simp only[dt]at h;rw[C7.get_put 24 _ j k _ (hl (j,x) DI)]at h;by_cases e:k=j
  ·subst e;simp at h;subst h;simp
  ·rw[Ah e]at h;exact Aw _ (QR (fun p hp=>hl p (Aw _ hp)) h)
variable{ρ:Nm}
theorem ZV{fl:List (Nat×AV)}{hl:List (Nat×AB)}{C:Nat->List CH}{md:List Nat}(J5:ρ.length<=2^24)(hfk:∀x∈fl,x.1<2^24)(hf:∀x∈fl,∃v,lk fr x.1=some v/\EM ρ x.2 v)
 (hnd:(hl.map (·.1)).Nodup) (hh:∀x∈hl,x.1<ρ.length/\Da RS ρ x.1 x.2 (C x.1)):Pt.good RS ⟨ρ,⟨dt fl,dt hl,ρ.length,md⟩,fr,(hl.map (·.1)).map C,hl.map (·.1),C⟩:=by
 refine⟨fun s a hs=>hf _ (QR hfk hs),⟨rfl,hnd,fun k hk=> ?_,.refl _,fun k ab hk=> ?_⟩,J5⟩
 ·obtain⟨x,hx,rfl⟩:=A8.1 hk;exact(hh x hx).1
 ·have hm:=QR (fun x hx=>Nat.lt_of_lt_of_le (hh x hx).1 J5) hk;exact⟨A8.2 ⟨_,hm,rfl⟩,(hh _ hm).2⟩
theorem kB{a:Option AV}{t q c L j e x:Nat}{cs:List CH}(hs:XT q c L j e x v)(hu:NV ρ a t q c cs)(hb:L+j<4294967296):
 ∃q',GQ q'<=L+j/\NV ρ a t q' c cs/\(x=1->XT q' c (GQ q') 0 e 1 v)/\XT q' c (GQ q') 0 e 2 v/\(q=0↔q'=0)/\QH q'=QH q:=by
 rcases hs with⟨rfl,rfl,hx⟩|⟨hq,off,len,cap,rfl,h2,h3,h4,h5,h6⟩
 ·exact⟨0,Cj _,hu,fun _=>.inl ⟨rfl,rfl,fun _=>rfl⟩,.inl ⟨rfl,rfl,fun _=>rfl⟩,Iff.rfl,rfl⟩
 ·have hlen:len<4294967296:=I;by_cases hB:1<=q/4294967296
  ·have e1:QH ((QH q+1)*4294967296+len)=QH q:=by unfold QH;omega
   have e2:GQ ((QH q+1)*4294967296+len)=len:=by unfold GQ;omega
   have hne:(QH q+1)*4294967296+len≠0:=I;refine⟨(QH q+1)*4294967296+len,by rw[e2];exact h3,?_,fun hx=>.inr ⟨hne,off,len,cap,by rw[e1],h2,by rw[e2];omega,h4,fun _=>h5 hx,fun h=>by cases h⟩,.inr ⟨hne,off,len,cap,by rw[e1],h2,by rw[e2];omega,h4,(fun h=>by cases h),fun _=>by rw[e2]⟩,⟨fun h=>absurd h hq,fun h=>absurd h hne⟩,e1⟩;rcases hu with⟨h0,_⟩|⟨_,ex,g1,g2,g3⟩
   ·exact absurd h0 hq
   ·exact .inr ⟨hne,ex,g1,g2,by rw[e1];exact g3⟩
  ·have e0:QH q=0:=by unfold QH;omega
   have e1:QH (4294967296+len)=0:=by unfold QH;omega
   have e2:GQ (4294967296+len)=len:=by unfold GQ;omega
   have hne:4294967296+len≠0:=I;refine⟨4294967296+len,by rw[e2];exact h3,?_,fun hx=>.inr ⟨hne,off,len,cap,by rw[e1,e0],h2,by rw[e2];omega,h4,fun _=>h5 hx,fun h=>by cases h⟩,.inr ⟨hne,off,len,cap,by rw[e1,e0],h2,by rw[e2];omega,h4,(fun h=>by cases h),fun _=>by rw[e2]⟩,⟨fun h=>absurd h hq,fun h=>absurd h hne⟩,by rw[e0,e1]⟩;rcases hu with⟨h0,_⟩|⟨_,ex,g1,g2,g3⟩
   ·exact absurd h0 hq
   ·exact .inr ⟨hne,ex,g1,g2,by rw[e1,<-e0];exact g3⟩
structure SK where
 f:Nat
 xid:Nat
 lim:Nat
 slots:List Nat
 r:Nat
 a:Nat
 gen:List AV
 ua:AV
def Rn(L:SK)(st:St):List Nat:=(List.range st.nx).filter fun k=>Nat.ble 4 k&& !Nat.beq k L.r&& !Nat.beq k L.a&&(st.hp.get k).isSome
def Sz(L:SK)(st:St):List (Nat×AB):=(Rn L st).map fun k=>(k,(st.hp.get k).getD (.res 9 []))
def sa(L:SK)(st:St):List (Nat×AV):=L.slots.map fun k=>(k,(st.fr.get k).getD .junk)
def kD(gen:List AV)(A B C D:AV):List AV:=(((gen.set 118 A).set 126 B).set 127 C).set 128 D
def X7(L:SK)(st:St)(fz fu:Bool):St:=
 let N:=st.nx
 ⟨dt ((L.lim,.cnt (bif fz then Nat.add N 1 else N) 0 0 0)::sa L st),
  dt ((Nat.add N 5,.res 8 [1000000000])::[(0,.res 0 []),(1,.res 1 []),(2,.res 2 [0]),(3,.res 3 [0]),(L.r,.cells (kD L.gen (.GY (Nat.add N 2) (Nat.add N 2) 0 1 2) (.cnt N 0 (bif fz then 1 else 0) (Nat.add N 1)) (.cnt (Nat.add N 3) 0 (bif fu then 1 else 2) (Nat.add N 2)) (.GY (Nat.add N 4) (Nat.add N 5) 0 3 1)) 352),(Nat.add N 2,.unk (some L.ua) 43),(Nat.add N 4,.unk none 356)]++Sz L st),Nat.add N 6,[]⟩
abbrev LPT:Nat:=10001
def kE(L:SK)(δ:Nat)(A:AV)(st:St):St:=
 let N:=st.nx
 let AC:=Nat.add (Gm st.hp) (Nat.mul LPT δ)
 ⟨dt (sa L st),
  dt ([(0,.res 0 []),(1,.res 1 []),(2,.res 2 [AC]),(3,.res 3 [AC]),(L.r,.cells (kD L.gen A (.int .i64 0 20000) (.int .i64 0 20000) (.GY N N 0 3 1)) 352),(L.a,.unk (some L.ua) 43),(N,.unk none 356)]++Sz L st),Nat.add N 1,List.range N++st.md⟩
def cF(i:Nat)(m:Nat)(t:C7 AB):Bool:=match t.get i with
 |some (.res j [x])=>Nat.beq i j&&Nat.ble x m
 |_=>false
def cG(i:Nat)(t:C7 AB):Bool:=match t.get i with
 |some (.res j [])=>Nat.beq i j
 |_=>false
def kF(L:SK)(δ R:Nat)(st:St):Bool:=
 let N:=st.nx
 Nat.ble (Nat.add N 6) 16777216&&Nat.ble 4 L.r&&Nat.blt L.r N&&Nat.ble 4 L.a&&Nat.blt L.a N&& !Nat.beq L.r L.a&&L.slots.all (fun k=> !Nat.beq k L.lim&&Nat.blt k 16777216&&(match st.fr.get k with|some a=>W9 N a|none=>false))&&Nat.blt L.lim 16777216
  &&(match st.fr.get L.lim with|some (.int .i64 lo hi)=>Gz 0 lo&&Gz hi 10000|_=>false)
  &&Nat.beq L.gen.length 129&&L.gen.all (W9 N)&&Y7 N L.ua&&cG 0 st.hp&&cG 1 st.hp&&cF 2 (Gm st.hp) st.hp&&cF 3 (Gm st.hp) st.hp
  &&(Sz L st).all (fun x=>IY x.2)&&Nat.ble (Nat.add (Gm st.hp) (Nat.mul LPT δ)) R
  &&(match st.hp.get L.a with|some (.unk (some x) 43)=>eqW x L.ua|_=>false)
def wV(L:SK)(δ R:Nat)(st:St):Option AV:=
 let N:=st.nx
 bif kF L δ R st
 then(match st.hp.get L.r with
  |some (.cells l 352)=>bif fW l L.gen then(match E1 l 118 with
   |some (.GY a b 0 1 0)=>bif Nat.beq a L.a&&Nat.blt b N then(match E1 l 126 with
    |some (.int .i64 0 0)=>match E1 l 127 with
     |some (.int .i64 0 0)=>match E1 l 128 with
      |some (.val (.slice none 0 0))=>some (.GY a b 0 1 0)
      |_=>none
     |_=>none
    |_=>none)else none
   |_=>none)else none
  |_=>none)else none
def ZW(L:SK)(δ:Nat)(st:St)(nor:Bool)(s:St):Bool:=
 let N:=st.nx
 (bif nor then(match s.fr.get L.lim with|some (.cnt n 0 _ _)=>Nat.beq n (Nat.add N 1)|_=>false)else true)
 &&(sa L st).all (fun x=>match s.fr.get x.1 with|some b=>leC b x.2|none=>false)
 &&cG 0 s.hp&&cG 1 s.hp&&cF 2 δ s.hp&&cF 3 δ s.hp
 &&(Rn L st).all (fun k=> !Gu k s.md)&& !Gu (Nat.add N 2) s.md
 &&(match s.hp.get L.r with
  |some (.cells l 352)=>fW l L.gen&&(match E1 l 118 with
   |some (.GY n b 0 1 2)=>Nat.beq n (Nat.add N 2)&&Nat.beq b (Nat.add N 2)
   |_=>false)&&(match E1 l 126 with
   |some (.cnt n j _ _)=>Nat.beq n N&&(bif nor then Nat.beq j 1 else Nat.ble j 1)
   |_=>false)&&(match E1 l 127 with
   |some (.cnt n j _ _)=>Nat.beq n (Nat.add N 3)&&Nat.ble j 1
   |_=>false)&&(match E1 l 128 with
   |some (.GY m b j 3 1)=>Nat.beq b (Nat.add N 5)&&Nat.ble j 1000&&Nat.ble N m&& !Nat.beq m (Nat.add N 2)&&(match s.hp.get m with|some (.unk none 356)=>true|_=>false)
   |_=>false)
  |_=>false)
def kG(L:SK)(δ:Nat)(st:St)(fz:Bool)(o:Ex×St):Bool:=match o.1 with
 | .nor=>fz&&ZW L δ st true o.2
 | .ex j=>Nat.beq j L.xid&&ZW L δ st false o.2
 |_=>false
def MC(L:SK)(ih:Ih)(δ:Nat)(n:Nat)(c:Code)(st:St)(fz fu:Bool):Bool:=match ih L.f n c (X7 L st fz fu)with
 |some o=>o.all (kG L δ st fz)
 |none=>false
def Xj(L:SK)(ih:Ih)(δ R:Nat):Hk:=fun f n c st=>match c with
 | .loop a=>bif Nat.beq f L.f then(match wV L δ R st with
  |some A=>bif MC L ih δ n a st true true&&MC L ih δ n a st true false&&MC L ih δ n a st false true&&MC L ih δ n a st false false then some [(.ex L.xid,kE L δ A st)]else none
  |none=>none)else none
 |_=>none
end
end Go.Proofs.YtfekkjbdcdnhlaaGreatDoor.Sep
