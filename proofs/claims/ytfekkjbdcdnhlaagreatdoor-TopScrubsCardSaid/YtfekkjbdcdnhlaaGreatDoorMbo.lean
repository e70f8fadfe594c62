/- Lemmas for TopScrubs. No condition but those that each states. -/
import Derived.Test.YtfekkjbdcdnhlaaGreatDoorMbm
set_option linter.all false
set_option maxHeartbeats 8000000
set_option maxRecDepth 100000
namespace Go.Proofs.YtfekkjbdcdnhlaaGreatDoor.Sep
noncomputable section
abbrev me:List Value:=[.int .i64 8,.int .i64 8,.int .i64 32,.int .i64 32]
abbrev aEI:List AV:=[.int .i64 (.ofNat 8) (.ofNat 8),.int .i64 (.ofNat 8) (.ofNat 8),.int .i64 (.ofNat 32) (.ofNat 32),.int .i64 (.ofNat 32) (.ofNat 32)]
theorem aCj{f t b:Nat}{l DK:List AV}{cs vs:List Value}(h:(match B7 (DY []) (E3 (DY []) 100000) f DK (EC [.cells l t])with|some [.val (.boo (some false)) s]=> !(Gu 0 s.md)|_=>false)=true)(hcl:Bt [(b,0)] l cs)(hv:Bt [(b,0)] DK vs):Fn Tryz.prog f vs [A7 b cs t] (E4 (.bool false) [A7 b cs t]):=by
 split at h
 ·rename_i s hc;let p0:Pt:=⟨[(b,0)],EC [.cells l t],[],[A7 b cs t],[0],fun _=>A7 b cs t⟩
  have hget:∀k,(Gf 0 [.cells l t] .e).get k=if k<1 then([AB.cells l t])[k]? else none:=fun k=>by rw[HL DI];simp[C7.FC]
  have hp0:p0.good (fun _ _ _ _=>True):=by
   refine⟨fun s a hs=>by simp[p0,EC,C7.FC]at hs,⟨rfl,by simp[p0],fun k hk=>by simp[p0]at hk;subst hk;simp[p0,EC],EI _,fun k ab hk=> ?_⟩,by simp[p0,EC]⟩;have hk':(Gf 0 [.cells l t] .e).get k=some ab:=hk;rw[hget]at hk';by_cases hkN:k<1
   ·rw[BE hkN]at hk';obtain rfl:k=0:=I;simp only[Ci,AH]at hk';subst hk';exact⟨by simp[p0],.cells (c:=0) J hcl⟩
   ·rw[Ah hkN]at hk';cases hk'
  have h1:=(FD (RS:=fun _ _ _ _=>True) (DU (l:=[]) trivial) (FG (DU (l:=[]) trivial) 100000) hp0 hc).2 _ hv;intro A U w hs;refine(h1 A U w hs).mono ?_;rintro e w' ⟨h0,S',hs1,hr⟩;rcases hr with⟨a,s',hm,q,v,hq,_,rfl,hto,hg,hcon,rfl⟩|⟨a,s',hm,_⟩
  ·simp at hm;obtain⟨rfl,rfl⟩:=hm;cases hcon;obtain⟨k1,k2⟩:=hto.kept 0 (by simp[p0]) (fun hm=>by rw[hq]at hm;rw[FZ.2 hm]at h;cases h);have hp:=hg.H.pick k1;rw[k2]at hp;have hs2:Ds A w' ([A7 b cs t]++((q.live.erase 0).map q.C++U)):=hs1.perm (hp.append_right U);refine⟨h0,[A7 b cs t],?_,rfl,rfl⟩;exact Ds.drops (C:=(q.live.erase 0).map q.C) (hs2.perm (by rw[<-AU,<-AU];exact CC.append_right U))
  ·simp at hm
 ·cases h
variable{lb:Nat}
theorem f255:Fn Tryz.prog 255 [.slice (some ⟨lb,0,none⟩) 4 4,.func (.func 256) #[] #[]] [A7 lb me 3] (E4 (.bool false) [A7 lb me 3]):=aCj (l:=aEI) (DK:=[.sl 0 0 4 4,.fn 256 [] []]) kR (.cons (.int Ba Ba) (.cons (.int Ba Ba) (.cons (.int Ba Ba) (.cons (.int Ba Ba) .nil)))) (.cons (.sl (c:=0) J) (.cons (.fn .nil .nil) .nil))
abbrev yg(nb:Nat):List Value:=[.slice (some ⟨nb,0,none⟩) 8 8,.slice (some ⟨nb,8,none⟩) 8 8,.slice (some ⟨nb,16,none⟩) 32 32,.slice (some ⟨nb,48,none⟩) 32 32]
def W0(i:Nat):Nat:=[0,8,16,48,80].getD i 0
theorem CW.aEJ{P:Program}{n:Nat}{c:Code}{Q:EX}{fr:Fr}{S:A2}(h:CW P n c Q fr ([]::S)):CW P n c Q fr S:=fun A R a w hd hk hs=>h A R a w hd hk (hs.FK DI)
variable{X:List Int}{dv:Value}{dC:List CH}
theorem f167(hd:VR X dv dC)(hX:X.length=80):
 Fn Tryz.prog 167 [dv,.slice (some ⟨lb,0,none⟩) 4 4] [dC,A7 lb me 3] (fun e S'=>∃nb ex v c,LV 53 1 4 (yg nb) v c/\e=.returned (.tuple #[v,.int .i64 0])/\S'=[dC,A7 lb me 3,A7 nb (bs X++ex) 5,c]):=by
 refine Fn.of Tryz.func167 J J [_,_] J ?_;refine W ?_;refine DL.BS J J J pK f255 kR aP kO ?_;refine W ?_;refine DL.B7 J J J pK (Ye hd I I) kR (fun _=>aP) (fun _=>kO) ?_;rintro⟨v7,c7⟩ h7;dsimp only at h7⊢;rcases h7 with⟨rfl,_⟩|⟨nb,cap,ex,rfl,h1,h2,rfl⟩
 ·simp at hX
 rw[hX]at h1⊢;refine W ?_;refine CW.aEJ ?_;refine CW.loop (ι:=Nat×Value×List CH×Nat) (fun i=>4-i.1) (fun i=>i.1<=4/\LV 53 1 i.1 ((yg nb).take i.1) i.2.1 i.2.2.1/\(i.1<4->i.2.2.2=W0 i.1)) (fun i=>[(14,.slice (some ⟨lb,0,none⟩) 4 4),(15,.int .i64 4),(6,i.2.1),(7,.slice (some ⟨nb,i.2.2.2,none⟩) (80-W0 i.1) (cap-W0 i.1)),(16,.int .i64 i.1)]) (fun i=>[dC,A7 lb me 3,A7 nb (bs X++ex) 5,i.2.2.1]) (0,.slice none 0 0,[],0) ⟨Cj _,LV.nil,fun _=>rfl⟩ sF pK ?_;rintro⟨r,v6,c6,off⟩ ⟨g1,g2,g3⟩;dsimp only at g1 g2 g3⊢;have hcase:r=0\/r=1\/r=2\/r=3\/r=4:=I;rcases hcase with rfl|rfl|rfl|rfl|rfl
 ·obtain rfl:=g3 Ba;rw[show W0 0=0 from rfl];simp only[Nat.reduceSub,Df];refine W ?_;refine DL.C3 tt 0 J J J J J J Ba ?_;refine W ?_;refine CW.dw [0,1,2,3,4,7,8,9,5,6,10,11] [] mixed hz kR pK nD ?_;refine W ?_;refine DL.Qj tt (l:=0) (m:=8) (c:=8) J J J J J J J (.Lc J J Ba I) ?_;rw[Ah Ba];refine W ?_;refine DL.Qj tt (l:=8) (m:=80) (c:=cap) J J J J J J J (.lo J Ba) ?_;generalize hoff:(if cap=8 then 0 else 0+8*1)=off'
  (refine W ?_;intro b)
  refine C6 tt J J J eN J g2 Es (DO.slice (news:=[.slice (some ⟨nb,0,none⟩) 8 8]) tt J iN J J (by simp[Value.oneCell'])) Ba J I I (fun _=>kO) ?_;intro v' c' hc';refine W ?_;try simp only[Nat.sub_sub,Nat.reduceAdd,Nat.reduceSub]
  refine⟨(1,v',c',off'),_,(by dsimp only;omega),⟨(by dsimp only;omega),hc',fun h=> ?_⟩,sF,pK⟩;rw[Ah I]at hoff;exact hoff.symm
 ·obtain rfl:=g3 Ba;rw[show W0 1=8 from rfl];simp only[Nat.reduceSub];refine W ?_;refine DL.C3 tt 1 J J J J J J Ba ?_;refine W ?_;refine CW.dw [0,1,2,3,4,7,8,9,5,6,10,11] [] mixed hz kR pK nD ?_;refine W ?_;refine DL.Qj tt (l:=0) (m:=8) (c:=8) J J J J J J J (.Lc J J Ba I) ?_;rw[Ah Ba];refine W ?_;refine DL.Qj tt (l:=8) (m:=72) (c:=cap-8) J J J J J J J (.lo J Ba) ?_;generalize hoff:(if cap-8=8 then 8 else 8+8*1)=off'
  (refine W ?_;intro b)
  refine C6 tt J J J eN J g2 Es (DO.slice (news:=[.slice (some ⟨nb,8,none⟩) 8 8]) tt J iN J J (by simp[Value.oneCell'])) Ba J I I (fun _=>kO) ?_;intro v' c' hc';refine W ?_;try simp only[Nat.sub_sub,Nat.reduceAdd,Nat.reduceSub]
  refine⟨(2,v',c',off'),_,(by dsimp only;omega),⟨(by dsimp only;omega),hc',fun h=> ?_⟩,sF,pK⟩;rw[Ah I]at hoff;exact hoff.symm
 ·obtain rfl:=g3 Ba;rw[show W0 2=16 from rfl];simp only[Nat.reduceSub];refine W ?_;refine DL.C3 tt 2 J J J J J J Ba ?_;refine W ?_;refine CW.dw [0,1,2,3,4,7,8,9,5,6,10,11] [] mixed hz kR pK nD ?_;refine W ?_;refine DL.Qj tt (l:=0) (m:=32) (c:=32) J J J J J J J (.Lc J J Ba I) ?_;rw[Ah Ba];refine W ?_;refine DL.Qj tt (l:=32) (m:=64) (c:=cap-16) J J J J J J J (.lo J Ba) ?_;generalize hoff:(if cap-16=32 then 16 else 16+32*1)=off'
  (refine W ?_;intro b)
  refine C6 tt J J J eN J g2 Es (DO.slice (news:=[.slice (some ⟨nb,16,none⟩) 32 32]) tt J iN J J (by simp[Value.oneCell'])) Ba J I I (fun _=>kO) ?_;intro v' c' hc';refine W ?_;try simp only[Nat.sub_sub,Nat.reduceAdd,Nat.reduceSub]
  refine⟨(3,v',c',off'),_,(by dsimp only;omega),⟨(by dsimp only;omega),hc',fun h=> ?_⟩,sF,pK⟩;rw[Ah I]at hoff;exact hoff.symm
 ·obtain rfl:=g3 Ba;rw[show W0 3=48 from rfl];simp only[Nat.reduceSub];refine W ?_;refine DL.C3 tt 3 J J J J J J Ba ?_;refine W ?_;refine CW.dw [0,1,2,3,4,7,8,9,5,6,10,11] [] mixed hz kR pK nD ?_;refine W ?_;refine DL.Qj tt (l:=0) (m:=32) (c:=32) J J J J J J J (.Lc J J Ba I) ?_;rw[Ah Ba];refine W ?_;refine DL.Qj tt (l:=32) (m:=32) (c:=cap-48) J J J J J J J (.lo J Ba) ?_;generalize hoff:(if cap-48=32 then 48 else 48+32*1)=off'
  (refine W ?_;intro b)
  refine C6 tt J J J eN J g2 Es (DO.slice (news:=[.slice (some ⟨nb,48,none⟩) 32 32]) tt J iN J J (by simp[Value.oneCell'])) Ba J I I (fun _=>kO) ?_;intro v' c' hc';refine W ?_;try simp only[Nat.sub_sub,Nat.reduceAdd,Nat.reduceSub]
  refine⟨(4,v',c',off'),_,(by dsimp only;omega),⟨(by dsimp only;omega),hc',fun h=> ?_⟩,sF,pK⟩;exact absurd h (by dsimp only;omega)
 ·rw[show W0 4=80 from rfl];refine W ?_;exact⟨_,_,_,Fb (RV.tmp J) (RV.tmp J),pK,nb,ex,v6,c6,g2,rfl,rfl⟩
variable{l:List Int}
theorem f168{b off cap bt m:Nat}{cs:List Value}(hA:FB l)(hm:l.length=m)(h1:1<=m)(h2:m<=8)(hcs:(cs.drop off).take m=bs l):Fn Tryz.prog 168 [.slice (some ⟨b,off,none⟩) m cap] [A7 b cs bt] (E4 (.tuple #[.int .u64 (JL l),.int .i64 0]) [A7 b cs bt]):=by subst hm;refine Fn.of Tryz.func168 J J [_,_] J ?_;refine W ?_;refine DL.BS J J J pK (zZ hA h2 hcs) kR aP kO ?_;exact W trivial
def LD(v:List Value):Prop:=∃(i:Int) (Y:List Int),v=.int .u64 i::bs Y/\0<=i/\i<=18446744073709551615/\Y.length=64/\BN Y
theorem LD.zero:LD ([Value.int .u64 0]++bs (BQ 64)):=⟨0,BQ 64,rfl,Ba,Ba,Bn _,E0 _⟩
variable{v:List Value}
theorem LD.len(h:LD v):v.length=65:=by obtain⟨i,Y,rfl,_,_,h,_⟩:=h;simp[Aa,h]
theorem I8(h:LD v):∀u∈v,u.oneCell'=true:=by
 obtain⟨i,Y,rfl,_⟩:=h;intro u hu;rcases Ab.1 hu with rfl|hu
 ·rfl
 ·exact BV _ u hu
theorem qw(hA:FB l)(hl:l.length<=8):0<=JL l/\JL l<=18446744073709551615:=by
 obtain⟨h1,h2⟩:=QG hA;refine⟨h1,?_⟩;have h3:(256:Int)^l.length<=256^8:=by
  have:=Nat.pow_le_pow_right (n:=256) Ba hl
  exact_mod_cast this
 have h4:(256:Int)^8=18446744073709551616:=Ba;omega
theorem qx{x:Int}{A B:List Int}(hA:A.length=32)(hB:B.length=32):F6 (Kd.st [(0,1),(1,32),(33,32)]).place ([Value.int .u64 0]++bs (BQ 64)) [(0,(Value.int .u64 x).cells.toList),(1,bs A),(2,bs B)]=some (Value.int .u64 x::bs (A++B)):=by simp[F6,Kd.place,E1,Aa,Bn,hA,hB,C4,CM,AX,BJ,Value.cells];rw[<-H8];rfl
theorem f100(hd:VR X dv dC)(Ix:BN X)(hX:X.length=80):Fn Tryz.prog 100 [dv] [dC] (Dv (ι:=List Value×Int) (fun i=>LD i.1/\0<=i.2/\i.2<=30) (fun i=>.tuple #[.agg i.1.toArray,.int .i64 i.2]) (fun _=>[dC])):=by
 refine Fn.of Tryz.func100 J J [_,_] J ?_
 (refine W ?_;intro b;refine W ?_;intro b)
 refine DL.call J J J pK (f167 hd hX) kR (fun ch S1 hc=>by obtain⟨_,_,_,_,_,hc,_⟩:=hc;cases hc) ?_;rintro v S1 ⟨nb,ex,v',c',hc',hv,rfl⟩;cases hv;refine⟨kO,?_⟩;simp only[AQ,AS,Dc];rcases hc' with⟨h0,_⟩|⟨vb,cap,ex',rfl,h1,h2,h3,rfl⟩
 ·exact absurd h0 Ba
 refine W ?_;refine DL.C3 tt 0 J J J J J J Ba ?_;refine W ?_;have e8:((bs X++ex).drop 0).take 8=bs (X.take 8):=by rw[BL,Ar (by rw[Aa];omega)];simp[bs]
 refine DL.toStr (X:=X.take 8) tt J J J J J J UK e8 (by rw[BP];omega) ?_;refine W ?_;generalize(!(Oy (Vh (List.take 8 X))).toList==({data:= #[114,101,112,111,114,116,0,0]}:ByteArray).toList)=t;cases t with
 |true=>refine W ?_;refine DL.Bj tt J J J J uP HS (I8 LD.zero) HS kO ?_;refine W ?_;exact BD ([Value.int .u64 0]++bs (BQ 64),4) ⟨LD.zero,(show(0:Int)<=4 by decide),(show(4:Int)<=30 by decide)⟩ (Fb (RV.D8 tt J J J (In.mem iN) HS) (RV.tmp J)) pK
 |false=>
  have yh:∀a k,a+k<=80->((bs X++ex).drop a).take k=bs (cut X a k):=fun a k h=>by rw[<-Lu,DT (by rw[Aa];omega),Ar (by rw[B9,Aa];omega)]
  have qy:FB X:=fun x hx=>by have:=Ix x hx;omega
  have hX8:(cut X 8 8).length=8:=F9 I;have hXA:(cut X 16 32).length=32:=F9 I;have hXB:(cut X 48 32).length=32:=F9 I;have hn:=qw (Jp qy 8 8) I;refine W ?_;refine DL.C3 tt 1 J J J J J J Ba ?_;refine W ?_;refine DL.BS J J J pK (f168 (cap:=8) (Jp qy 8 8) hX8 Ba Ba (yh 8 8 Ba)) kR aP kO ?_;refine W ?_;refine CW.dw [0,1,2,3,4,5,6,7,8,9,10,11,12,13] [A7 vb (yg nb++ex') 53,A7 nb (bs X++ex) 5] mixed hz kR pK nD ?_;refine W ?_;refine DL.C3 tt 2 J J J J J J Ba ?_;refine W ?_;refine DL.yu tt J J J J Ba ?_;refine DL.HQ tt (cs:=bs X++ex) (vs:=bs (cut X 16 32)) J J J J J (In.mem UK) (yh 16 32 Ba) (by rw[Aa,hXA]) ?_;refine W ?_;refine DL.C3 tt 3 J J J J J J Ba ?_;refine W ?_;refine DL.yu tt J J J J Ba ?_;refine DL.HQ tt (cs:=bs X++ex) (vs:=bs (cut X 48 32)) J J J J J (In.mem UK) (yh 48 32 Ba) (by rw[Aa,hXB]) ?_;refine DL.build hz tt J J J J J J (qx hXA hXB) ?_;have hrep:LD (Value.int .u64 (JL (cut X 8 8))::bs (cut X 16 32++cut X 48 32)):=⟨_,_,rfl,hn.1,hn.2,by rw[Aq,hXA,hXB],fun x hx=>by
   rcases Aj.1 hx with hx|hx
   ·have:=Jp qy 16 32 x hx;omega
   ·have:=Jp qy 48 32 x hx;omega⟩
  have hlen:=hrep.len;have hone:=I8 hrep;generalize Value.int .u64 (JL (cut X 8 8))::bs (cut X 16 32++cut X 48 32)=rv at*
  refine DL.Bj tt J J J J uP (by rw[hlen]) hone (by simp[hlen,Aa,Bn]) kO ?_;refine W ?_;exact BD (rv,0) ⟨hrep,(show(0:Int)<=0 by decide),(show(0:Int)<=30 by decide)⟩ (Fb (RV.D8 tt J J J (In.mem iN) (by rw[hlen])) (RV.tmp J)) pK
theorem f55:Fn Tryz.prog 55 [] [] (E4 (.int .i64 80) []):=by refine Fn.of Tryz.func55 J J [_] J ?_;exact W trivial
theorem f99:Fn Tryz.prog 99 [] [] (E4 (.int .i64 112) []):=by refine Fn.of Tryz.func99 J J [_] J ?_;refine W ?_;refine DL.BS J J J pK (f55) kR aP kO ?_;exact W trivial
theorem VR.aCk(h:VR X dv dC):∃p cap,dv=.slice p X.length cap:=by
 rcases h with⟨rfl,p,cap,rfl⟩|⟨b,o,cap,rfl,_⟩
 ·exact⟨p,cap,rfl⟩
 ·exact⟨_,cap,rfl⟩
abbrev SpI:=List Value×List Int×Int
def aEK(X:List Int)(i:SpI):Prop:=LD i.1/\i.2.1.length=32/\BN i.2.1/\0<=i.2.2/\i.2.2<=30/\(i.2.2=0->X.length=112)
theorem f53(hd:VR X dv dC)(Ix:BN X):Fn Tryz.prog 53 [dv] [dC] (Dv (ι:=SpI) (aEK X) (fun i=>.tuple #[.agg i.1.toArray,.agg (bs i.2.1).toArray,.int .i64 i.2.2]) (fun _=>[dC])):=by
 obtain⟨p,cap,rfl⟩:=hd.aCk;refine Fn.of Tryz.func53 J J [_,_,_] J ?_
 (refine W ?_;intro b;refine W ?_;intro b;refine W ?_)
 refine DL.BS J J J pK (f99) kR aP kO ?_;by_cases hX:X.length=112
 ·rcases hd with⟨rfl,_⟩|⟨sb,off,cap',e,h1,h2⟩
  ·simp at hX
  ·obtain⟨rfl,_,rfl⟩:=Value.slice.inj e;rw[hX]at h1⊢;refine W ?_;refine DL.BS J J J pK (f55) kR aP kO ?_;refine W ?_;refine DL.Qj tt (l:=0) (m:=80) (c:=80) J J J J J J J (.Lc J J Ba I) ?_;rw[Ah Ba];have aEL:VR (X.take 80) (.slice (some ⟨sb,off+0*1,none⟩) 80 80) dC:=.inr ⟨sb,off+0*1,80,by rw[BP,hX];rfl,by rw[BP];omega,h2.sub (i:=0*1) (k:=80) (by simp[bs]) (by rw[Aa,BP,hX];rfl)⟩;refine DL.B7 J J J pK (f100 aEL (fun x hx=>Ix x (Dn hx)) (by rw[BP,hX];rfl)) kR (fun _=>aP) (fun _=>kO) ?_;rintro⟨rv,er⟩ ⟨k1,k2,k3⟩;dsimp only at k1 k2 k3⊢;have hlen:=k1.len;have hone:=I8 k1
   (refine W ?_;intro b)
   refine DL.Bj tt J J J J uP (by rw[hlen]) hone HS kO ?_;refine W ?_;by_cases he:er=0
   ·subst he;refine W ?_;have hBl:(X.drop 80).length=32:=by rw[B9,hX]
    have hB:=h2.sub (i:=80*1) (k:=32) (ys:=bs (X.drop 80)) (by rw[Dk,show bs (X.drop 80)=(bs X).drop 80 by simp[bs]];exact AX (by rw[B9,Aa,hX];decide)) (by rw[Aa,hBl]);refine CW.dw [0,1,2,3,4,5,6,7,8] [A7 b rv 106,dC] mixed hz kR pK nD ?_;refine DL.GG tt J J J J J iN (by rw[hlen]) ?_;refine W ?_;refine DL.Qj tt (l:=80) (m:=112) (c:=cap) J J J J J J J (.lo J Ba) ?_;rw[Ah I];refine DL.yu tt J J J J Ba ?_;refine DL.tK (k:=0) (vs:=bs (X.drop 80)) tt hB J J J J J UK (by rw[BL];exact AX (by rw[Aa,hBl];decide)) (by rw[Aa,hBl]) ?_;refine DL.Bj tt J J J J uP (by rw[hlen]) hone (by simp[hlen,Aa,Bn]) kO ?_;refine DL.Bj tt J J J J uP (by rw[Aa,hBl]) (BV _) HS kO ?_;refine W ?_;exact BD (rv,X.drop 80,0) ⟨k1,hBl,fun x hx=>Ix x (ER hx),(show(0:Int)<=0 by decide),(show(0:Int)<=30 by decide),fun _=>hX⟩ (UE (RV.D8 tt J J J (In.mem iN) (by rw[hlen])) (RV.D8 tt J J J (In.mem iN) (by rw[Aa,hBl])) (RV.tmp J)) pK
   ·refine W ?_;refine DL.Bj tt J J J J uP HS (I8 LD.zero) HS kO ?_;refine DL.Bj tt J J J J uP HS (BV _) HS kO ?_;refine W ?_;exact BD ([Value.int .u64 0]++bs (BQ 64),BQ 32,er) ⟨LD.zero,Bn _,E0 _,k2,k3,fun h=>absurd h he⟩ (UE (RV.D8 tt J J J (In.mem iN) HS) (RV.D8 tt J J J (In.mem iN) HS) (RV.tmp J)) pK
 ·refine W ?_;refine DL.Bj tt J J J J uP HS (I8 LD.zero) HS kO ?_;refine DL.Bj tt J J J J uP HS (BV _) HS kO ?_;refine W ?_;exact BD ([Value.int .u64 0]++bs (BQ 64),BQ 32,4) ⟨LD.zero,Bn _,E0 _,(show(0:Int)<=4 by decide),(show(4:Int)<=30 by decide),fun h=>absurd h (show¬((4:Int)=0) by decide)⟩ (UE (RV.D8 tt J J J (In.mem iN) HS) (RV.D8 tt J J J (In.mem iN) HS) (RV.tmp J)) pK
theorem aEQ:Vl Tryz.prog 23 (List.replicate 32 (.int .u8)):=JD Tryz.underlying23 kR Tryz.underlying5 kR
abbrev VfI:=List Value×Bool×Int×List CH
variable{ob K j:Nat}{comp:List CH}
theorem f32{b0:Nat}(hO:G1 ob K [j] b0 comp)(hK:K+j+2<=HM)(hd:VR X dv dC)(Ix:BN X):
 Fn Tryz.prog 32 [Au b0,dv] [comp,dC] (Dv (ι:=VfI) (fun i=>LD i.1/\0<=i.2.2.1/\i.2.2.1<=30/\G1 ob K [j+2] b0 i.2.2.2) (fun i=>.tuple #[.agg i.1.toArray,.bool i.2.1,.int .i64 i.2.2.1]) (fun i=>[i.2.2.2,dC])):=by
 have hask:=aBE (WG hO);refine Fn.of Tryz.func32 J J [_,_,_] J ?_
 (refine W ?_;intro b;refine W ?_)
 refine DL.BS J J J pK (hask) kR aP kO ?_
 (refine W ?_;intro b)
 refine DL.Bj tt J J J J uP (by rw[Aa];rfl) (BV _) HS kO ?_;refine W ?_;refine DL.B7 J J J pK (f53 hd Ix) kR (fun _=>aP) (fun _=>kO) ?_;rintro⟨rv,dg,er⟩ ⟨k1,k2,k3,k4,k5,k6⟩;dsimp only at k1 k2 k3 k4 k5 k6⊢;have hlen:=k1.len;have hone:=I8 k1
 (refine W ?_;intro b;refine W ?_;intro b)
 refine DL.Bj tt J J J J uP (by rw[hlen]) hone HS kO ?_;refine DL.Bj tt J J J J uP (by rw[Aa,k2]) (BV _) HS kO ?_;refine W ?_;by_cases he:er=0
 ·subst he;refine W ?_;refine DL.BS J J J pK (f55) kR aP kO ?_;have hX:=k6 J;rcases hd with⟨rfl,_⟩|⟨sb,off,cap,rfl,h1,h2⟩
  ·simp at hX
  rw[hX]at h1⊢;refine DL.Qj tt (l:=0) (m:=80) (c:=cap) J J J J J J J (.hi J I) ?_;rw[Ah I];have h80:=h2.sub (i:=0*1) (k:=80) (ys:=bs (X.take 80)) (by simp[bs]) (by rw[Aa,BP,hX];rfl);refine DL.B7 J J J pK (f54 (wb:=sb) (wo:=off+0*1) (ED:=cap-0) (m:=80) hO hK (by rw[BP,hX];rfl) Ba (fun x hx=>Ix x (Dn hx)) h80) kR (fun _=>aP) (fun _=>kO) ?_;rintro⟨ye,er2,c2⟩ ⟨g1,g2,g3,g4,g5⟩;dsimp only at g1 g2 g3 g4 g5⊢
  (refine W ?_;intro b)
  refine DL.Bj tt J J J J uP (by rw[Aa,g1]) (BV _) HS kO ?_;refine W ?_;by_cases he2:er2=0
  ·subst he2;refine W ?_;rename_i q4 q7 q9 q10;have hcmp:=VS ye dg (by rw[g1,k2]);rw[g1]at hcmp;refine CW.dw [0,1,2,3,4,5,6] [A7 q9 rv 106,A7 b (bs ye) 23,A7 q10 (bs dg) 23] mixed hz kR pK nD ?_;refine DL.GG tt J J J J J iN (by rw[hlen]) ?_;refine DL.GG tt J J J J J iN (by rw[Aa,g1]) ?_;refine DL.GG tt J J J J J iN (by rw[Aa,k2]) ?_;refine DL.val J J J Ba (Q0 aEQ false J (xs:=bs ye) (ys:=bs dg) (b:=decide (ye=dg)) J J hcmp) ?_;rw[Ah Ba];refine DL.Bj tt J J J J uP (by rw[hlen]) hone (by simp[hlen,Aa,Bn]) kO ?_;refine W ?_;exact BD (rv,decide (ye=dg),0,c2) ⟨k1,(show(0:Int)<=0 by decide),(show(0:Int)<=30 by decide),g5⟩ (UE (RV.D8 tt J J J (In.mem iN) (by rw[hlen])) (RV.tmp J) (RV.tmp J)) pK
  ·refine W ?_;refine DL.Bj tt J J J J uP HS (I8 LD.zero) HS kO ?_;refine W ?_;exact BD ([Value.int .u64 0]++bs (BQ 64),false,er2,c2) ⟨LD.zero,g3,g4,g5⟩ (UE (RV.D8 tt J J J (In.mem iN) HS) (RV.tmp J) (RV.tmp J)) pK
 ·refine W ?_;refine DL.Bj tt J J J J uP HS (I8 LD.zero) HS kO ?_;refine W ?_;exact BD ([Value.int .u64 0]++bs (BQ 64),false,er,comp) ⟨LD.zero,k4,k5,FQ I hO⟩ (UE (RV.D8 tt J J J (In.mem iN) HS) (RV.tmp J) (RV.tmp J)) pK
variable{mb XB:Nat}
theorem f28{k0 k1 k2 k3 k4 w6 w7 w8 w9:Value}:Fn Tryz.prog 28 [Au mb] [A7 mb [k0,k1,k2,k3,k4,.map (some XB),w6,w7,w8,w9] 89] (E4 (.bool true) [A7 mb [k0,k1,k2,k3,k4,.map (some XB),w6,w7,w8,w9] 89]):=by refine Fn.of Tryz.func28 J J [_] J ?_;exact W trivial
theorem r29:HU (DY []) (E3 (DY []) 100000) 29 [] [] [Bw] [(false,.Ec [CB,CB])] []=true:=kR
variable{s:Stp}{old:List CH}
theorem mj(h:S5 s old):∃X,VR X s.bv old/\BN X:=by
 rcases h with e1|⟨bb,off,X,e1,e2,e3,e4,e5⟩
 ·refine⟨[],.inl ⟨rfl,s.bp,s.bc,?_⟩,fun _ h=>by cases h⟩;show Value.slice s.bp s.bl s.bc=_;rw[e1]
 ·refine⟨X,.inr ⟨bb,off,s.bc,?_,I,e5⟩,e4⟩;show Value.slice s.bp s.bl s.bc=_;rw[e1,e3]
theorem aER{o:Nat}{k1 k2 k3 k4 w6 w7 w8 w9:Value}(hO:G1 ob K [j] o comp)(hK:K+j+2<=HM)(hs:Oi s)(hb:S5 s old)(h4:s.kind=4):
 Fn Tryz.prog 9 [Au mb,.agg s.cells.toArray] [A7 mb [Au o,k1,k2,k3,k4,.map (some XB),w6,w7,w8,w9] 89,comp,old]
  (fun e S'=>∃(c':List CH) (ok:Bool) (i:Int),S'=[A7 mb [Au o,k1,k2,k3,k4,.map (some XB),w6,w7,.int .u64 0,.slice none 0 0] 89,c',old]/\G1 ob K [j+2] o c'/\e=.returned (.agg (Ri 0 0 0 0 0 0 ok i).toArray)):=by
 obtain⟨X,hd,Ix⟩:=mj hb;refine Fn.of Tryz.func9 J J [_] J ?_
 (refine W ?_;intro b;refine W ?_;intro b;refine W ?_)
 obtain⟨q4,hq4⟩:∃q4,q4=b:=⟨_,rfl⟩
 subst hq4;rw[h4];skip
 refine DL.BS J J J pK f28 kR aP D9 ?_;refine W ?_;refine DL.Br (cs':=[Au o,k1,k2,k3,k4,.map (some XB),w6,w7,.int .u64 0,w9]) tt J J J J J uP J J J DI D9 ?_;refine W ?_;refine DL.Br (cs':=[Au o,k1,k2,k3,k4,.map (some XB),w6,w7,.int .u64 0,.slice none 0 0]) tt J J J J J uP J J J DI D9 ?_;refine W ?_;refine DL.B7 J J J .nil (IF r29 (vs:=[.int .u64 (s.ad:Int)]) (.cons (QV hs.ad) .nil) J) kR (fun _=>aP) (fun _=>D9) ?_;rintro v hv;cases hv with|Ec hv=>cases hv with|cons h1 hv=>cases hv with|cons h2 hv=>
 cases hv;cases h1;cases h2;refine W ?_;rw[h4];skip
 obtain⟨q3,hq3⟩:∃q3,q3=b:=⟨_,rfl⟩
 subst hq3;refine CW.dw [0,1,2,3,4,5,6,7,8,9,10,11,12,13,14,15] [A7 mb [Au o,k1,k2,k3,k4,.map (some XB),w6,w7,.int .u64 0,.slice none 0 0] 89,A7 q3 s.cells 55] mixed hz kR pK nD ?_;refine W ?_;refine DL.B7 J J J pK (f32 hO hK hd Ix) kR (fun _=>aP) (fun _=>kO) ?_;rintro⟨rv,ok,er,c'⟩ ⟨k5,k6,k7,k8⟩;dsimp only at k5 k6 k7 k8⊢;have hlen:=k5.len;have hone:=I8 k5
 (refine W ?_;intro b)
 refine DL.Bj tt J J J J uP (by rw[hlen]) hone HS kO ?_;refine W ?_;cases ok with
 |false=>refine W ?_;refine DL.Bj tt J J J J uP lN aL lN kO ?_;refine W ?_;exact⟨_,[A7 mb [Au o,k1,k2,k3,k4,.map (some XB),w6,w7,.int .u64 0,.slice none 0 0] 89,c',old],_,DC (RV.D8 tt J J J (In.mem iN) J),pK,c',false,0,rfl,k8,rfl⟩
 |true=>
  refine W ?_;by_cases he:er=0
  ·subst he;refine W ?_;obtain⟨i,Y,rfl,i1,i2,i3,i4⟩:=k5;refine W ?_;refine DL.Bj tt J J J J uP lN aL lN kO ?_;refine W ?_;exact⟨_,[A7 mb [Au o,k1,k2,k3,k4,.map (some XB),w6,w7,.int .u64 0,.slice none 0 0] 89,c',old],_,DC (RV.D8 tt J J J (In.mem iN) J),pK,c',true,i,rfl,k8,rfl⟩
  ·refine W ?_;refine DL.Bj tt J J J J uP lN aL lN kO ?_;refine W ?_;exact⟨_,[A7 mb [Au o,k1,k2,k3,k4,.map (some XB),w6,w7,.int .u64 0,.slice none 0 0] 89,c',old],_,DC (RV.D8 tt J J J (In.mem iN) J),pK,c',false,0,rfl,k8,rfl⟩
theorem yo:H9v:=by
 intro n ob K j mb xb ρ c R B s cb hn hj hX hK hρ hs hb h4;obtain⟨S,rfl,hS⟩:=hX;have hM:=hS.more dE (20000*(j+1)) I;have hF:=YG n ob (zR R);obtain⟨c0,c1,c2,c3,c4,c5,c6,c7,rfl,_,_,g2,_⟩:=hS.at_.at8;obtain⟨d0,d1,d2,d3,d4,d5,d6,d7,e,h0,h1,h2,h3,h4',h5,h6,h7,hl⟩:=hM.at_.at8;cases e;cases g2 with| @res _ o _ _ x2 p2 q2=>
 have hor:G1 ob K [0] o c2:=(OY _ _ _).1 q2;have h6':=h6;cases h6 with| @cells _ _ mb' x6 vs f1 f2=>
 rw[hρ]at f1;cases f1;cases f2 with|cons k0 f2=>cases f2 with| @cons _ v1 _ _ k1 f2=>cases f2 with| @cons _ v2 _ _ k2 f2=>cases f2 with| @cons _ v3 _ _ k3 f2=>cases f2 with| @cons _ v4 _ _ k4 f2=>cases f2 with|cons k5 f2=>cases f2 with| @cons _ w6 _ _ k6 f2=>cases f2 with| @cons _ w7 _ _ k7 f2=>cases f2 with| @cons _ w8 _ _ k8 f2=>cases f2 with| @cons _ w9 _ _ k9 f2=>
 cases f2;cases k0 with|Au k0=>
 rw[p2]at k0;cases k0;cases k5 with| @mp _ XB _ k5=>
 have hv:=aER (mb:=mb) (XB:=XB) (k1:=v1) (k2:=v2) (k3:=v3) (k4:=v4) (w6:=w6) (w7:=w7) (w8:=w8) (w9:=w9) hor (by simp only[HM,dE]at hK⊢;omega) hs hb h4;refine hv.Cd (F:=[c0,c1,c3,c4,c5,c7]) ?_ ?_
 ·simp only[Au,AW,A0,Am,AQ,AS,AU];exact C2 fun _ y=>by simp only[Ax,Db];omega
 ·rintro e S' ⟨c',ok,i,rfl,aES,rfl⟩;have hor2:OX n ob (zR R) (K+dE) 2 [0] o c':=(hF.shift 2 (.inl J) K dE 0 _ _).1 ((OY _ _ _).2 (FQ (by simp only[dE];omega) aES));have hL:IZ n ob (K+dE) (20000*(j+1)) ρ R B [c0,c1,c',c3,c4,c5,A7 mb [Au o,v1,v2,v3,v4,.map (some XB),w6,w7,.int .u64 0,.slice none 0 0] 89,c7]:=⟨Ru.pn h0 h1 (.res p2 hor2) h3 h4' h5 (.cells hρ (.cons (.Au p2) (.cons k1 (.cons k2 (.cons k3 (.cons k4 (.cons (.mp k5) (.cons k6 (.cons k7 (.cons (.int (by rw[Fj];decide) (by rw[F2];decide)) (.cons (.junk J) .nil))))))))))) h7 hl,hM.rows,hM.mem,hM.s0,hM.s1⟩
  refine⟨[_,cb],⟨R,B,_,rfl,⟨_,rfl,hL⟩,.same (fun g r hr=>Tt hr),_,_,_,_,_,_,ok,i,rfl⟩,?_⟩;simp only[AW,A0,Am,AQ,AS,AU];exact C2 fun _ y=>by simp only[Ax,Db];omega
end
end Go.Proofs.YtfekkjbdcdnhlaaGreatDoor.Sep
