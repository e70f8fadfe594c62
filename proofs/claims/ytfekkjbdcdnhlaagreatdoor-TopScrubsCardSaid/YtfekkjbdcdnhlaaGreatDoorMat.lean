/- Lemmas for TopScrubs. No condition but those that each states. -/
import Derived.Test.YtfekkjbdcdnhlaaGreatDoorMaq
import Derived.Test.YtfekkjbdcdnhlaaGreatDoorMar
import Derived.Test.YtfekkjbdcdnhlaaGreatDoorMas
set_option linter.all false
set_option maxHeartbeats 8000000
set_option maxRecDepth 100000
namespace Go.Proofs.YtfekkjbdcdnhlaaGreatDoor.Sep
noncomputable section
inductive NG (RS:EA) (ρ:Nm):Nat->List AB->A2->Prop
 |nil {k:Nat}:NG RS ρ k [] []
 |cons {k:Nat} {a:AB} {c:List CH} {l:List AB} {S:A2} (h:Da RS ρ k a c) (t:NG RS ρ (k+1) l S):NG RS ρ k (a::l) (c::S)
variable{RS:EA}{ρ:Nm}
theorem NG.len:∀{k:Nat} {l:List AB} {S:A2},NG RS ρ k l S->S.length=l.length
 |_,_,_,.nil=>rfl
 |_,_,_,.cons _ t=>by simp[t.len]
theorem NG.at_:∀{k:Nat} {l:List AB} {S:A2},NG RS ρ k l S->∀(i:Nat) (hi:i<l.length) (hi':i<S.length),Da RS ρ (k+i) l[i] S[i]
 |_,_,_,.nil,i,hi,_=>by simp at hi
 |k,_,_,.cons h t,0,_,_=>h
 |k,_,_,.cons h t,i+1,hi,hi'=>by have:=t.at_ i (by simpa using hi) (by simpa using hi');simpa[Nat.add_assoc,Nat.add_comm 1 i]using this
def vZ(ob K:Nat):EA:=fun i d b cs=>if i=2 then G1 ob K d b cs else True
variable{ob K:Nat}
theorem ox:∀d b cs,vZ ob K 2 d b cs↔G1 ob K d b cs:=fun d b cs=>by simp[vZ]
def lD(R:Nat):List (Nat×F5):=[(65,K4 2 2 0 [.Au 2 0] (.boo (some true)) R),(94,ol R),(315,grC)]
theorem aAH{R:Nat}(h:K+R<=HM):Ol Tryz.prog (vZ ob K) (lD R):=⟨⟨vP ox,Ba,kR⟩,⟨vQ ox h,Ba,kR⟩,⟨ZJ,Ba,kR⟩,trivial⟩
abbrev vd(B:List AB):List AB:=.res 9 []:: .res 9 []:: .res 2 [0]::B
abbrev vf(ob:Nat)(ρ:Nm):Nm:=(0,0)::(0,0)::(ob,0)::ρ
abbrev rq:=List Int×Int×List CH
variable{f j:Nat}{DK:List AV}{vs:List Value}{oc:List CH}{S:A2}
theorem ON{B:List AB}(h:L8 (DY (lD 1)) (E3 (DY (lD 1)) 100000) f (vd B) DK (.Ec [HW,EB]) 1=true)(hl:ρ.length=B.length)(hB:NG (vZ ob (K+j)) (vf ob ρ) 3 B S)(hO:G1 ob K [j] ob oc)(hv:Bt (vf ob ρ) DK vs)(hK:K+j+1<=HM):
 Fn Tryz.prog f vs (oc::S) (Dv (ι:=rq) (fun i=>i.1.length=32/\BN i.1/\0<=i.2.1/\i.2.1<=30/\G1 ob K [j+1] ob i.2.2) (fun i=>.tuple #[.agg (bs i.1).toArray,.int .i64 i.2.1]) (fun i=>i.2.2::S)):=by
 have hE:=DU (aAH (ob:=ob) (K:=K+j) (R:=1) hK);have Sr:G1 ob (K+j) [0] ob oc:=KH.1 hO;have hBL:NG (vZ ob (K+j)) (vf ob ρ) 0 (vd B) ([]::[]::oc::S):=.cons (.res (b:=0) (c:=0) J (by simp[vZ])) (.cons (.res (b:=0) (c:=0) J (by simp[vZ])) (.cons (.res (b:=ob) (c:=0) J ((ox _ _ _).2 Sr)) hB))
 refine(vS hE (FG hE 100000) h (ρ:=vf ob ρ) (S:=[]::[]::oc::S) (by simp[hl]) hBL.len (fun k hk hk'=>by simpa using hBL.at_ k hk hk') hv (b2:=ob) (c2:=0) J).Cd (F:=[]) DI ?_;rintro e S' ⟨v,c',x,hc,rfl,rfl,hx,hr⟩;have hr:=(ox _ _ _).1 hr;have hr2:G1 ob K [j+1] ob c':=KH.2 (FQ hx hr);cases hc with|Ec hc=>cases hc with|cons h1 hc=>cases hc with|cons h2 hc=>
 cases hc;cases h1 with|agg h1=>
 obtain⟨X,rfl,hX,Hw⟩:=J0 (m:=32) h1;cases h2 with| @int _ _ _ z a1 a2=>
 exact⟨_,⟨(X,z,c'),⟨Hw,hX,a1,a2,hr2⟩,rfl,rfl⟩,by simp⟩
abbrev al:List AV:=[Bw,CB,CB,Bw]++List.replicate 32 OF++[.junk]++List.replicate 32 OF++[Bw]++List.replicate 32 OF++[CB]
theorem JZ{B:List Int}(h:B.length=32/\BN B):Bt ρ (List.replicate 32 OF) (bs B):=by
 have:=IX (ρ:=ρ) h.2
 rwa [h.1]at this
variable{z:Int}
theorem QQ(h: -9223372036854775808<=z/\z<=9223372036854775807):EM ρ CB (.int .i64 z):=by
 refine .int ?_ ?_
 ·rw[Fj];exact h.1
 ·rw[F2];exact h.2
theorem K8(h:0<=z/\z<=18446744073709551615):EM ρ Bw (.int .u64 z):=by
 refine .int ?_ ?_
 ·rw[Fj];exact h.1
 ·rw[F2];exact h.2
variable{r:Rv}{lv:Value}
theorem Uo(h:r.ok)(hl:lv.oneCell'=true):Bt ρ al (Fv r lv):=by
 have e:Fv r lv=[.int .u64 r.id,.int .i64 r.st,.int .i64 r.a,.int .u64 r.c]++bs r.dg++[lv]++bs r.key++[.int .u64 r.nx]++bs r.tr++[.int .i64 r.rc]:=by simp[Fv]
 rw[e];exact((((((Bt.cons (K8 h.id) (.cons (QQ h.st) (.cons (QQ h.a) (.cons (K8 h.c) .nil)))).app (JZ h.dg)).app (.cons (.junk hl) .nil)).app (JZ h.key)).app (.cons (K8 h.nx) .nil)).app (JZ h.tr)).app (.cons (QQ h.rc) .nil)
theorem vg:L8 (DY (lD 1)) (E3 (DY (lD 1)) 100000) 184 (vd [.cells [.sl 4 4 32 32,.G3 5 8,.sl 6 0 128 128] 53,.cells al 219,.grown (List.replicate 8 OF) 5 1,.cells (List.replicate 128 OF) 58]) [.Au 2 0,.int .i64 (.ofNat 2) (.ofNat 2),.sl 3 0 3 3] (.Ec [HW,EB]) 1=true:=kR
theorem aAI:L8 (DY (lD 1)) (E3 (DY (lD 1)) 100000) 184 (vd [.cells [.sl 4 4 32 32,.sl 5 0 128 128] 53,.cells al 219,.cells (List.replicate 128 OF) 58]) [.Au 2 0,.int .i64 (.ofNat 3) (.ofNat 3),.sl 3 0 2 2] (.Ec [HW,EB]) 1=true:=kR
theorem aAJ:L8 (DY (lD 1)) (E3 (DY (lD 1)) 100000) 184 (vd [.cells [.sl 4 0 32 32] 53,.cells (List.replicate 32 OF++[Bw]) 68]) [.Au 2 0,.int .i64 (.ofNat 1) (.ofNat 1),.sl 3 0 1 1] (.Ec [HW,EB]) 1=true:=kR
variable{bp b7 bg:Nat}{x:Int}{G:List Int}
theorem iJ{wb ED:Nat}{IU:List Value}(hO:G1 ob K [j] ob oc)(hr:r.ok)(hlv:lv.oneCell'=true)(hw:8<=ED/\IU.length=ED-8)(hG:G.length=128/\BN G)(hK:K+j+1<=HM):
 Fn Tryz.prog 184 [Au ob,.int .i64 2,.slice (some ⟨bp,0,none⟩) 3 3] [oc,A7 bp [.slice (some ⟨b7,4,none⟩) 32 32,.slice (some ⟨wb,0,none⟩) 8 ED,.slice (some ⟨bg,0,none⟩) 128 128] 53,A7 b7 (Fv r lv) 219,II wb (Ek x 8) IU,A7 bg (bs G) 58] (Dv (ι:=rq) (fun i=>i.1.length=32/\BN i.1/\0<=i.2.1/\i.2.1<=30/\G1 ob K [j+1] ob i.2.2) (fun i=>.tuple #[.agg (bs i.1).toArray,.int .i64 i.2.1]) (fun i=>[i.2.2,A7 bp [.slice (some ⟨b7,4,none⟩) 32 32,.slice (some ⟨wb,0,none⟩) 8 ED,.slice (some ⟨bg,0,none⟩) 128 128] 53,A7 b7 (Fv r lv) 219,II wb (Ek x 8) IU,A7 bg (bs G) 58])):=by
 refine ON (ρ:=[(bp,0),(b7,0),(wb,ED),(bg,0)]) vg J ?_ hO ?_ hK
 ·refine .cons (.cells J (.cons (.sl J) (.cons (.G3 J hw.1) (.cons (.sl J) .nil)))) (.cons (.cells J (Uo hr hlv)) (.cons (.grown J ?_ ?_) (.cons (.cells J ?_) .nil)))
  ·have:=IX (ρ:=vf ob [(bp,0),(b7,0),(wb,ED),(bg,0)]) (JE x 8)
   rwa [Ey]at this
  ·rw[Aa,Ey];omega
  ·have:=IX (ρ:=vf ob [(bp,0),(b7,0),(wb,ED),(bg,0)]) hG.2
   rwa [hG.1]at this
 ·exact .cons (.Au J) (.cons (.int Ba Ba) (.cons (.sl J) .nil))
theorem oy(hO:G1 ob K [j] ob oc)(hr:r.ok)(hlv:lv.oneCell'=true)(hG:G.length=128/\BN G)(hK:K+j+1<=HM):
 Fn Tryz.prog 184 [Au ob,.int .i64 3,.slice (some ⟨bp,0,none⟩) 2 2] [oc,A7 bp [.slice (some ⟨b7,4,none⟩) 32 32,.slice (some ⟨bg,0,none⟩) 128 128] 53,A7 b7 (Fv r lv) 219,A7 bg (bs G) 58] (Dv (ι:=rq) (fun i=>i.1.length=32/\BN i.1/\0<=i.2.1/\i.2.1<=30/\G1 ob K [j+1] ob i.2.2) (fun i=>.tuple #[.agg (bs i.1).toArray,.int .i64 i.2.1]) (fun i=>[i.2.2,A7 bp [.slice (some ⟨b7,4,none⟩) 32 32,.slice (some ⟨bg,0,none⟩) 128 128] 53,A7 b7 (Fv r lv) 219,A7 bg (bs G) 58])):=by
 refine ON (ρ:=[(bp,0),(b7,0),(bg,0)]) aAI J ?_ hO ?_ hK
 ·refine .cons (.cells J (.cons (.sl J) (.cons (.sl J) .nil))) (.cons (.cells J (Uo hr hlv)) (.cons (.cells J ?_) .nil));have:=IX (ρ:=vf ob [(bp,0),(b7,0),(bg,0)]) hG.2
  rwa [hG.1]at this
 ·exact .cons (.Au J) (.cons (.int Ba Ba) (.cons (.sl J) .nil))
variable{V:List Int}
theorem oz{ob K j bp bv:Nat}{nd:Int}(hO:G1 ob K [j] ob oc)(hV:V.length=32/\BN V)(hnd:0<=nd/\nd<=18446744073709551615)(hK:K+j+1<=HM):
 Fn Tryz.prog 184 [Au ob,.int .i64 1,.slice (some ⟨bp,0,none⟩) 1 1] [oc,A7 bp [.slice (some ⟨bv,0,none⟩) 32 32] 53,A7 bv (bs V++[.int .u64 nd]) 68] (Dv (ι:=rq) (fun i=>i.1.length=32/\BN i.1/\0<=i.2.1/\i.2.1<=30/\G1 ob K [j+1] ob i.2.2) (fun i=>.tuple #[.agg (bs i.1).toArray,.int .i64 i.2.1]) (fun i=>[i.2.2,A7 bp [.slice (some ⟨bv,0,none⟩) 32 32] 53,A7 bv (bs V++[.int .u64 nd]) 68])):=by
 refine ON (ρ:=[(bp,0),(bv,0)]) aAJ J ?_ hO ?_ hK
 ·exact .cons (.cells J (.cons (.sl J) .nil)) (.cons (.cells J ((JZ hV).app (.cons (K8 hnd) .nil))) .nil)
 ·exact .cons (.Au J) (.cons (.int Ba Ba) (.cons (.sl J) .nil))
theorem ZL(hx:0<=x/\x<=18446744073709551615):Fn Tryz.prog 185 [.int .u64 x] [] (Dv (ι:=Z8) (fun i=>8<=i.2.1/\i.2.2.length=i.2.1-8) (fun i=>.slice (some ⟨i.1,0,none⟩) 8 i.2.1) (fun i=>[II i.1 (Ek x 8) i.2.2])):=by refine Fn.of Tryz.func185 J J [_] J ?_;refine wW ?_;refine DL.call J J J (.nil) (eY hx.1 hx.2) kR (fun ch S1 hc=>by obtain⟨_,_,_,_,_,hc,_⟩:=hc;cases hc) ?_;rintro v S1 ⟨b,cap,ex,h1,h2,hv,rfl⟩;cases hv;refine⟨D9,?_⟩;simp only[AQ,AS,Dc];refine vR ?_;exact BD (b,cap,ex) ⟨h1,h2⟩ (DC (RV.tmp J)) pK
section
variable{P:Program} {T:Tr} {n:Nat} {K:Option A2} {Q:EX} {fr:Fr} {S:A2} {rest:List FO}
variable{i ty:Nat} {pos:String} {af:Array Edge} {gd g:Option (Nat×Bool)} {d:Nat}
theorem ZM(hT:Dp P T=true){ax:Array Operand}{t tx GN sz m0:Nat}{v x:Value}{news:List Value}{c:List CH}{U:A2}(hg:lg fr g=some true)(hn:Nat.blt d n=true)(ht:T.get t=some ⟨.sl 301 172,sz⟩)(hE:Ew P 301 172 GN=true)(hby:GN<=1024)
 (ha:FP fr ax.toList=some [v,x]) (hv:J1 m0 v c) (hp:Gg c S U) (hx:DO P 172 S tx x 1 news) (hnl:news.length=172) (hn1:∀u∈news,u.oneCell'=true) (hm0:m0<=2147483648)
 (hK:∀c',Ge K (c'::U)) (h:∀v' c',J1 (m0+1) v' c'->DL P n K Q rest ((d,v')::fr) (c'::U)):
 DL P n K Q (⟨i,⟨some d,.call ⟨.builtin .append,ax,#[t,tx]⟩,ty,pos,af,gd⟩,g⟩::rest) fr S:=by
 rcases hv with⟨rfl,rfl⟩|⟨b,k,cap,xs,ex,rfl,hle,hk,rfl,hxl,Py,h1⟩
 ·have e:=Jv hp;refine .eff _ _ (.inl J) hg (fun e he=>by cases he;simpa using hn) (Eff.FK e (FH (xs:=[]) (ex:=[]) hT J J ht hE ha (hx.FK e) (.inl ⟨rfl,rfl,rfl,rfl,rfl,Ba⟩) DI DI (Ao _) I I)) (fun _ _ h=>h.elim) ?_ ?_
  ·rintro v S' ⟨b',cap',ex',rfl,h1,h2,rfl⟩;exact hK _
  ·rintro v S' ⟨b',cap',ex',rfl,h1,h2,rfl⟩;exact h _ _ (.inr ⟨b',1,cap',news,ex',by simp,I,I,by simp,I,by simpa using h1,hn1⟩)
 ·have hbd:(k+1)*GN<=140737488355328:=Nat.le_trans (Nat.mul_le_mul (show k+1<=2147483649 by omega) hby) Ba;refine .eff _ _ (.inl J) hg (fun e he=>by cases he;simpa using hn) (FH (xs:=xs) (ex:=ex) hT J J ht hE ha hx (.inr ⟨b,rfl,hp⟩) hxl Py hle hbd I) (fun _ _ h=>h.elim) ?_ ?_
  ·rintro v S' ⟨b',cap',ex',rfl,h1,h2,rfl⟩;exact hK _
  ·rintro v S' ⟨b',cap',ex',rfl,h2,h3,rfl⟩;refine h _ _ (.inr ⟨b',k+1,cap',xs++news,ex',rfl,h3,I,rfl,by rw[Aq];omega,h2,fun u hu=> ?_⟩);rcases Aj.1 hu with hu|hu
   ·exact h1 u hu
   ·exact hn1 u hu
end
theorem DL.nm{P:Program}{n:Nat}{K:Option A2}{Q:EX}{fr:Fr}{An:List Oper}{o:List Nat}{l:List FO}(e:E2 An o=l)(h:DL P n K Q l fr S):DL P n K Q (E2 An o) fr S:=e▸h
abbrev GrI:=Int×Rv×Value×List CH
variable{m b0:Nat}{lc:List CH}
theorem WH{rec:List Value}{D:List Int}{e:Int}(hok:r.ok)(I3:J1 m lv lc)(hm:m<=2147483648)(hrec:rec.length=172)(hr1:∀u∈rec,u.oneCell'=true)(hD:D.length=32/\BN D):
 Fn Tryz.prog 229 [Au b0,Au b7,.agg rec.toArray,.agg (bs D).toArray,.int .i64 e] [A7 b7 (Fv r lv) 219,lc] (Dv (ι:=GrI) (fun i=>(i.1=2/\i.2.1=r/\i.2.2.1=lv/\i.2.2.2=lc)\/(i.1=0/\i.2.1={r with dg:=D}/\J1 (m+1) i.2.2.1 i.2.2.2)) (fun i=>.int .i64 i.1) (fun i=>[A7 b7 (Fv i.2.1 i.2.2.1) 219,i.2.2.2])):=by
 have hl:=EP (lv:=lv) hok;have hok2:=hok.dg' hD;have fin:∀Xv:Value,(Fv {r with dg:=D} Xv).length=103:=fun Xv=>EP hok2
 refine Fn.of Tryz.func229 J J [_] J ?_
 (refine W ?_;intro b;refine W ?_;intro b;refine W ?_)
 rename_i q1;by_cases he:e=0
 ·rw[show decide (¬e=0)=false by simp[he]];refine W ?_;refine CW.dF (id:=3) [[0,1,2,3,4,5,6,8,7,9,10,11,12],[0,1,2,3,4,5,6,8,9,7,10,11,12]] [0,1,2,3,4,5,6,8,7,9,10,11,12] [13,14,15,16] [A7 b (bs D) 23,A7 q1 rec 301,A7 b7 (Fv r lv) 219] [] mixed hz kR pK nD ?_;intro o ho;simp only[Ab,Az,BX]at ho;rcases ho with rfl|rfl
  ·refine DL.nm nD ?_;refine W ?_;refine DL.GG tt J J J J J iN (by rw[Aa,hD.1]) ?_;refine W ?_;refine DL.G8 tt J J J J J iN (Xt hok) ?_;skip
   refine DL.GG tt J J J J J iN (by rw[hrec]) ?_;refine DL.B7 J J J (F:=[lc]) pK (Rb I3 I) kR (fun _=>aP) (fun _=>kO) ?_;rintro⟨lv1,lc1⟩ h2;dsimp only at h2⊢
   (refine W ?_;intro b)
   refine ZM tt J J J Yo Ba J h2 Es (DO.slice (news:=rec) tt J iN (by rw[BL,AX I]) I hr1) hrec hr1 hm (fun _=>kO) ?_;intro o5 dk h3;refine W ?_;refine Fe (Du pK) ?_;skip
   refine DL.NM (vs:=bs D) (cs':=Fv {r with dg:=D} lv) tt J J J J uP (Ta hok hD.1) (by rw[Aa,hD.1]) (BV _) (by rw[hl,Aa,hD.1];decide) kO ?_;refine W ?_;obtain⟨p,n,cap,rfl,hn⟩:=h3.form;refine DL.Br (cs':=Fv {r with dg:=D} (.slice p n cap)) tt J J J J J uP (PE hok2 _) J J (by rw[fin];decide) kO ?_;refine W ?_;exact BD (0,{r with dg:=D},.slice p n cap,dk) (.inr ⟨rfl,rfl,h3⟩) (DC (RV.tmp J)) pK
  ·refine DL.nm nD ?_;refine W ?_;refine DL.GG tt J J J J J iN (by rw[Aa,hD.1]) ?_;refine W ?_;refine DL.G8 tt J J J J J iN (Xt hok) ?_;skip
   refine DL.GG tt J J J J J iN (by rw[hrec]) ?_
   (refine W ?_;intro b)
   refine DL.B7 J J J (F:=[lc]) pK (Rb I3 I) kR (fun _=>aP) (fun _=>kO) ?_;rintro⟨lv1,lc1⟩ h2;dsimp only at h2⊢;refine ZM tt J J J Yo Ba J h2 Es (DO.slice (news:=rec) tt J iN (by rw[BL,AX I]) I hr1) hrec hr1 hm (fun _=>kO) ?_;intro o5 dk h3;refine W ?_;refine Fe (Du pK) ?_;skip
   refine DL.NM (vs:=bs D) (cs':=Fv {r with dg:=D} lv) tt J J J J uP (Ta hok hD.1) (by rw[Aa,hD.1]) (BV _) (by rw[hl,Aa,hD.1];decide) kO ?_;refine W ?_;obtain⟨p,n,cap,rfl,hn⟩:=h3.form;refine DL.Br (cs':=Fv {r with dg:=D} (.slice p n cap)) tt J J J J J uP (PE hok2 _) J J (by rw[fin];decide) kO ?_;refine W ?_;exact BD (0,{r with dg:=D},.slice p n cap,dk) (.inr ⟨rfl,rfl,h3⟩) (DC (RV.tmp J)) pK
 ·rw[show decide (¬e=0)=true by simp[he]];refine W ?_;exact BD (2,r,lv,lc) (.inl ⟨rfl,rfl,rfl,rfl⟩) (DC (RV.tmp J)) pK
def iK(a:Value)(Z:List Int)(p:Value)(G:List Int)(T:List Value):List Value:=[a]++bs Z++[p]++bs G++T
abbrev t10:List Value:=[.int .u64 0,.int .u64 0,.int .u64 0,.int .u64 0,.int .u64 0,.int .u64 0,.int .u64 0,.int .u64 0,.int .u64 0,.bool false]
abbrev iL:List Value:=[Value.int .i64 0]++bs (BQ 32)++[Value.int .i64 0]++bs (BQ 128)++[Value.int .u64 0,Value.int .u64 0,Value.int .u64 0,Value.int .u64 0,Value.int .u64 0,Value.int .u64 0,Value.int .u64 0,Value.int .u64 0,Value.int .u64 0,Value.bool false]
abbrev iM:Kd:=Kd.st [(0,1),(1,32),(33,1),(34,128),(162,10)]
theorem iO{a p:Value}(hG:G.length=128):F6 iM.place iL [(0,[a]),(2,[p]),(3,bs G)]=some (iK a (BQ 32) p G t10):=by simp[F6,Kd.place,E1,Aa,Bn,hG,C4,CM,AX,BJ,iK];rfl
variable{a:Value}{T:List Value}
theorem iP(hT:T.length=10):F6 iM.place iL [(0,[a]),(4,T)]=some (iK a (BQ 32) (.int .i64 0) (BQ 128) T):=by simp[F6,Kd.place,E1,Aa,Bn,hT,C4,CM,AX,BJ,iK];rfl
theorem iQ(hV:V.length=32):F6 iM.place iL [(0,[a]),(1,bs V)]=some (iK a V (.int .i64 0) (BQ 128) t10):=by simp[F6,Kd.place,E1,Aa,Bn,hV,C4,CM,AX,BJ,iK];rfl
variable{Z:List Int}
theorem Ur{a p:Value}(hZ:Z.length=32)(hG:G.length=128)(hT:T.length=10):(iK a Z p G T).length=172:=by simp[iK,Aa,hZ,hG,hT]
theorem Us{a p:Value}(ha:a.oneCell'=true)(hp:p.oneCell'=true)(hT:∀u∈T,u.oneCell'=true):∀u∈iK a Z p G T,u.oneCell'=true:=by
 intro u hu;simp only[iK,Aj,AP]at hu;rcases hu with(((rfl|hu)|rfl)|hu)|hu
 ·exact ha
 ·exact BV _ u hu
 ·exact hp
 ·exact BV _ u hu
 ·exact hT u hu
theorem ZN:∀u∈t10,u.oneCell'=true:=by intro u hu;simp only[t10,Ab,Az,BX]at hu;rcases hu with rfl|rfl|rfl|rfl|rfl|rfl|rfl|rfl|rfl|rfl<;>rfl
theorem Rh:(BQ 32).length=32:=rfl
abbrev aAK:=Int×List Value×List CH×List CH
variable{mb q4 q6 q7:Nat}{pg:Int}
theorem vh(hok:r.ok)(I3:J1 m lv lc)(hm:m<=2147483648)(hG:G.length=128/\BN G)(hpg:0<=pg/\pg<=127)(hO:G1 ob K [j] ob oc)(hK:K+j+1<=HM):
 Fn Tryz.prog 288 [Au b7,Au q4,Au q6,Au q7] [A7 b7 (Fv r lv) 219,lc,JF b0 ob mb x,oc,A7 q4 [Au b0] 81,A7 q6 [.int .i64 pg] 3,A7 q7 (bs G) 58] (Dv (ι:=aAK) (fun i=>0<=i.1/\i.1<=30/\i.2.1.length=103/\G1 ob K [j+1] ob i.2.2.2/\((i.1=0/\PG (m+1) i.2.1 i.2.2.1)\/(i.1≠0/\i.2.2.1=lc))) (fun i=>.int .i64 i.1) (fun i=>[A7 b7 i.2.1 219,i.2.2.1,JF b0 ob mb x,i.2.2.2,A7 q4 [Au b0] 81,A7 q6 [.int .i64 pg] 3,A7 q7 (bs G) 58])):=by
 have hl:=EP (lv:=lv) hok;refine Fn.of Tryz.func288 J J [_] J ?_;refine W ?_;by_cases h:r.st=1
 ·rw[show decide (¬r.st=1)=false by simp[h]];refine W ?_;refine CW.dw (id:=3) [0,1,2,3,4,5,6,7,8,9,11,10,12,13,14,15,16,17,18,19] [JF b0 ob mb x,A7 q4 [Au b0] 81,A7 q6 [.int .i64 pg] 3] mixed hz kR pK nD ?_;refine W ?_;refine DL.Ld tt (l:=0) (m:=32) (c:=32) J J J J J J J .all ?_;refine W ?_;refine DL.Ld tt (l:=0) (m:=128) (c:=128) J J J J J J J .all ?_;skip
  refine DL.B7 J J J .nil (ZL (x:=pg) I) kR (fun _=>aP) (fun _=>kO) ?_;rintro⟨wb,ED,IU⟩ hw;dsimp only at hw⊢
  (refine W ?_;intro b)
  simp only[show((32:Nat)=0)=False from by decide,show((128:Nat)=0)=False from by decide,Cc,Nat.zero_mul,CV,BM,Df];refine DL.B7 J J J pK (iJ hO hok I3.one hw hG hK) kR (fun _=>aP) (fun _=>kO) ?_;rintro⟨D,er,oc'⟩ ⟨h1,h2,h3,h4,h5⟩;dsimp only at h1 h2 h3 h4 h5⊢
  (refine W ?_;intro b)
  refine DL.Bj tt J J J J uP (by rw[Aa,h1]) (BV _) HS kO ?_;refine W ?_;refine DL.LJ tt J J J J J iN (by rw[Aa,hG.1]) ?_;refine DL.build hz tt J J J J J J (iO hG.1) ?_;refine DL.LJ tt J J J J J iN (by rw[Aa,h1]) ?_;refine W ?_;refine DL.B7 J J J (F:=[A7 b7 (Fv r lv) 219,lc]) pK (WH hok I3 hm (Ur Rh hG.1 J) (Us J J ZN) ⟨h1,h2⟩) kR (fun _=>aP) (fun _=>kO) ?_;rintro⟨e2,r2,o5,dk⟩ hcs;dsimp only at hcs⊢;refine W ?_;rcases hcs with⟨rfl,rfl,rfl,rfl⟩|⟨rfl,rfl,h6⟩
  ·exact BD (2,Fv r2 o5,dk,oc') ⟨(show(0:Int)<=2 by decide),(show(2:Int)<=30 by decide),hl,h5,.inr ⟨(show(2:Int)≠0 by decide),rfl⟩⟩ (DC (RV.tmp J)) pK
  ·exact BD (0,Fv {r with dg:=D} o5,dk,oc') ⟨(show(0:Int)<=0 by decide),(show(0:Int)<=30 by decide),EP (hok.dg' ⟨h1,h2⟩),h5,.inl ⟨rfl,_,_,rfl,hok.dg' ⟨h1,h2⟩,h6⟩⟩ (DC (RV.tmp J)) pK
 ·rw[show decide (¬r.st=1)=true by simp[h]];refine W ?_;exact BD (7,Fv r lv,lc,oc) ⟨(show(0:Int)<=7 by decide),(show(7:Int)<=30 by decide),hl,FQ (EG _) hO,.inr ⟨(show(7:Int)≠0 by decide),rfl⟩⟩ (DC (RV.tmp J)) pK
def OrX(ob K j:Nat)(F X:List CH):Prop:=∃oc,X=oc++F/\G1 ob K [j] ob oc
theorem aAL(hm:m<=2147483648)(hG:G.length=128/\BN G)(hpg:0<=pg/\pg<=127)(hO:G1 ob K [j] ob oc)(hK:K+j+1<=HM)(mb:Nat)(x:Int):
 PH (JF b0 ob mb x) m (m+1) 288 [] [Au q4,Au q6,Au q7] (oc++(A7 q4 [Au b0] 81++A7 q6 [.int .i64 pg] 3++A7 q7 (bs G) 58)) (fun _ X'=>OrX ob K (j+1) (A7 q4 [Au b0] 81++A7 q6 [.int .i64 pg] 3++A7 q7 (bs G) 58) X'):=by
 rintro b7 rv lc ⟨r,lv,rfl,hok,I3⟩;refine(vh (b0:=b0) (mb:=mb) (x:=x) (q4:=q4) (q6:=q6) (q7:=q7) (b7:=b7) hok I3 hm hG hpg hO hK).Cd (F:=[]) DI ?_;rintro e S' ⟨⟨er,rv',Re,oc'⟩,⟨h1,h2,h3,h4,h5⟩,rfl,rfl⟩;exact⟨_,⟨(er,rv',Re,oc'++(A7 q4 [Au b0] 81++A7 q6 [.int .i64 pg] 3++A7 q7 (bs G) 58)),⟨h1,h2,h3,⟨oc',rfl,h4⟩,h5⟩,rfl,rfl⟩,by simp⟩
theorem IF{a:AV}(h:HU (DY []) (E3 (DY []) 100000) f [] [] DK [(false,a)] []=true)(hv:Bt [] DK vs)(hle:G0 DK DK=true):Fn Tryz.prog f vs [] (Dv (ι:=Value) (fun v=>EM [] a v) (fun v=>v) (fun _=>[])):=by
 have hnm:nL 0 a=true:=by unfold HU at h;simp only[AI]at h;have:=h.1.1.2;simpa using this
 have hc:=Ub (RS:=fun _ _ _ _=>True) (DU (l:=[]) trivial) (FG (DU (l:=[]) trivial) 100000) [] h;let p0:Pt:=⟨[],EC [],[],[],[],fun _=>[]⟩
 have hp0:p0.good (fun _ _ _ _=>True):=⟨fun s a hs=>by simp[p0,EC,C7.FC]at hs,⟨rfl,Do,fun k hk=>by simp[p0]at hk,EI _,fun k ab hk=>by simp[p0,EC,Gf,C7.FC]at hk⟩,by simp[p0,EC]⟩
 have h:=hc _ (EC []) _ (by unfold Si;rw[hle];rfl) p0 J hp0 _ hv;intro A U w hs;refine(h A U w hs).mono ?_;rintro e w' ⟨h0,S',hs1,hr⟩;rcases hr with⟨a,s,hm,q,v,_,_,rfl,hto,_,hcon,rfl⟩|⟨a,s,hm,_⟩
 ·simp[UY]at hm;obtain⟨rfl,rfl⟩:=hm;exact⟨h0,[],(hs1.drops),v,JU (N:=0) (fun n hn=>I) hnm hcon,rfl,rfl⟩
 ·simp[UY]at hm
abbrev WI:List AV:=List.replicate 8 Bw++[Bw,.boo none]
theorem aCR:HU (DY []) (E3 (DY []) 100000) 228 [] [] [.agg WI] [(false,.Ec [XA,EB])] []=true:=kR
theorem o6(h:Bt ρ WI T):∀u∈T,u.oneCell'=true:=Lr h Ba
variable{q1 q2:Nat}
theorem vi(hok:r.ok)(I3:J1 m lv lc)(hm:m<=2147483648)(hT:Bt [] WI T)(hO:G1 ob K [j] ob oc)(hK:K+j+1<=HM):
 Fn Tryz.prog 227 [Au b7,Au q1,Au q2] [A7 b7 (Fv r lv) 219,lc,JF b0 ob mb x,oc,A7 q1 T 64,A7 q2 [Au b0] 81] (Dv (ι:=aAK) (fun i=>0<=i.1/\i.1<=30/\i.2.1.length=103/\G1 ob K [j+1] ob i.2.2.2/\((i.1=0/\PG (m+1) i.2.1 i.2.2.1)\/(i.1≠0/\i.2.2.1=lc))) (fun i=>.int .i64 i.1) (fun i=>[A7 b7 i.2.1 219,i.2.2.1,JF b0 ob mb x,i.2.2.2,A7 q1 T 64,A7 q2 [Au b0] 81])):=by
 have hl:=EP (lv:=lv) hok;have hTl:T.length=10:=hT.len;refine Fn.of Tryz.func227 J J [_] J ?_;refine W ?_;by_cases h:r.st=1
 ·rw[show decide (¬r.st=1)=false by simp[h]];refine W ?_;refine DL.LJ tt J J J J J iN (by rw[hTl]) ?_;refine DL.B7 J J J .nil (IF aCR (.cons (.agg hT) .nil) J) kR (fun _=>aP) (fun _=>kO) ?_;rintro v hv;cases hv with|Ec hv=>cases hv with|cons h1 hv=>cases hv with|cons h2 hv=>
  cases hv;cases h1 with|agg h1=>
  obtain⟨G,rfl,hGb,hGl⟩:=J0 (m:=128) h1;cases h2 with| @int _ _ _ e1 a1 a2=>
  (refine W ?_;intro b)
  refine DL.Bj tt J J J J uP (by rw[Aa,hGl]) (BV _) HS kO ?_;refine W ?_;by_cases he:e1=0
  ·rw[show decide (¬e1=0)=false by simp[he]];refine W ?_;refine CW.dw (id:=6) [0,1,2,3,4,5,6,7,8,9,10,11,12,13,14,15,16] [JF b0 ob mb x,A7 q2 [Au b0] 81] mixed hz kR pK nD ?_;refine W ?_;refine DL.Ld tt (l:=0) (m:=32) (c:=32) J J J J J J J .all ?_;skip
   refine DL.Ld tt (l:=0) (m:=128) (c:=128) J J J J J J J .all ?_
   (refine W ?_;intro b)
   simp only[show((32:Nat)=0)=False from by decide,show((128:Nat)=0)=False from by decide,Cc,Nat.zero_mul,CV,BM,Df];refine DL.B7 J J J pK (oy hO hok I3.one ⟨hGl,hGb⟩ hK) kR (fun _=>aP) (fun _=>kO) ?_;rintro⟨D,er,oc'⟩ ⟨d1,d2,d3,d4,d5⟩;dsimp only at d1 d2 d3 d4 d5⊢
   (refine W ?_;intro b)
   refine DL.Bj tt J J J J uP (by rw[Aa,d1]) (BV _) HS kO ?_;refine W ?_;refine DL.LJ tt J J J J J iN (by rw[hTl]) ?_;refine DL.build hz tt J J J J J J (iP hTl) ?_;refine DL.LJ tt J J J J J iN (by rw[Aa,d1]) ?_;refine W ?_;refine DL.B7 J J J (F:=[A7 b7 (Fv r lv) 219,lc]) pK (WH hok I3 hm (Ur Rh (Bn 128) hTl) (Us J J (o6 hT)) ⟨d1,d2⟩) kR (fun _=>aP) (fun _=>kO) ?_;rintro⟨e2,r2,o5,dk⟩ hcs;dsimp only at hcs⊢;refine W ?_;rcases hcs with⟨rfl,rfl,rfl,rfl⟩|⟨rfl,rfl,h6⟩
   ·refine W ?_;exact BD (2,Fv r2 o5,dk,oc') ⟨(show(0:Int)<=2 by decide),(show(2:Int)<=30 by decide),hl,d5,.inr ⟨(show(2:Int)≠0 by decide),rfl⟩⟩ (DC (RV.tmp J)) pK
   ·refine W ?_;have hok2:=hok.dg' ⟨d1,d2⟩;refine DL.ld1 tt J J J J J iN (show E1 (Fv {r with dg:=D} o5) 102=some (.int .i64 r.rc)from QO hok2) ?_;refine DL.p tt J J J J ?_;refine W ?_;have aAM:=hok2.rc' (r.rc+1);refine DL.Br (cs':=Fv {r with dg:=D,rc:=IntKind.i64.wrap (r.rc+1)} o5) tt J J J J J uP (RZ hok2 _) J J (by rw[EP hok2];decide) kO ?_;refine W ?_;exact BD (0,Fv {r with dg:=D,rc:=IntKind.i64.wrap (r.rc+1)} o5,dk,oc') ⟨(show(0:Int)<=0 by decide),(show(0:Int)<=30 by decide),EP aAM,d5,.inl ⟨rfl,_,_,rfl,aAM,h6⟩⟩ (DC (RV.tmp J)) pK
  ·rw[show decide (¬e1=0)=true by simp[he]];refine W ?_;exact BD (2,Fv r lv,lc,oc) ⟨(show(0:Int)<=2 by decide),(show(2:Int)<=30 by decide),hl,FQ (EG _) hO,.inr ⟨(show(2:Int)≠0 by decide),rfl⟩⟩ (DC (RV.tmp J)) pK
 ·rw[show decide (¬r.st=1)=true by simp[h]];refine W ?_;exact BD (7,Fv r lv,lc,oc) ⟨(show(0:Int)<=7 by decide),(show(7:Int)<=30 by decide),hl,FQ (EG _) hO,.inr ⟨(show(7:Int)≠0 by decide),rfl⟩⟩ (DC (RV.tmp J)) pK
theorem aAN(hm:m<=2147483648)(hT:Bt [] WI T)(hO:G1 ob K [j] ob oc)(hK:K+j+1<=HM)(mb:Nat)(x:Int):
 PH (JF b0 ob mb x) m (m+1) 227 [] [Au q1,Au q2] (oc++(A7 q1 T 64++A7 q2 [Au b0] 81)) (fun _ X'=>OrX ob K (j+1) (A7 q1 T 64++A7 q2 [Au b0] 81) X'):=by
 rintro b7 rv lc ⟨r,lv,rfl,hok,I3⟩;refine(vi (b0:=b0) (mb:=mb) (x:=x) (q1:=q1) (q2:=q2) (b7:=b7) hok I3 hm hT hO hK).Cd (F:=[]) DI ?_;rintro e S' ⟨⟨er,rv',Re,oc'⟩,⟨h1,h2,h3,h4,h5⟩,rfl,rfl⟩;exact⟨_,⟨(er,rv',Re,oc'++(A7 q1 T 64++A7 q2 [Au b0] 81)),⟨h1,h2,h3,⟨oc',rfl,h4⟩,h5⟩,rfl,rfl⟩,by simp⟩
end
end Go.Proofs.YtfekkjbdcdnhlaaGreatDoor.Sep
