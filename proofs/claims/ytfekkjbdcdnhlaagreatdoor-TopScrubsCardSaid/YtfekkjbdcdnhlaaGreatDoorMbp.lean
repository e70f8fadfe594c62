/- Lemmas for TopScrubs. No condition but those that each states. -/
import Derived.ProofKit
import Derived.OpenShut
import Derived.Deep.Slices
import Derived.Test.YtfekkjbdcdnhlaaGreatDoorMbi
import Derived.Test.YtfekkjbdcdnhlaaGreatDoorMbn
import Derived.Test.YtfekkjbdcdnhlaaGreatDoorMbk
import Derived.Test.YtfekkjbdcdnhlaaGreatDoorMbo
set_option linter.all false
set_option maxHeartbeats 8000000
set_option maxRecDepth 100000
namespace Go.Proofs.YtfekkjbdcdnhlaaGreatDoor.Sep
noncomputable section
def lX:List (Nat×F5):=[(110,qA)]
theorem tG{RS:EA}:Ol Tryz.prog RS lX:=⟨⟨s6,Ba,kR⟩,trivial⟩
def yB(chk:AV->Bool):R1->Bool
 | .val a _=>nL 0 a&&chk a
 | .Eu _ _=>false
def QA(f:Nat)(DK:List AV)(chk:AV->Bool):Bool:=match B7 (DY lX) (YY lX) f DK (EC [])with
 |some rs=>rs.all (yB chk)
 |none=>false
theorem Wv{f:Nat}{DK:List AV}{chk:AV->Bool}{vs:List Value}(h:QA f DK chk=true)(hv:Bt [] DK vs):Fn Tryz.prog f vs [] (Dv (ι:=Value) (fun v=>∃a,chk a=true/\EM [] a v) (fun v=>v) (fun _=>[])):=by
 unfold QA at h;split at h
 ·rename_i rs hcall;rw[AY]at h;let p0:Pt:=⟨[],EC [],[],[],[],fun _=>[]⟩
  have hp0:p0.good (fun _ _ _ _=>True):=⟨fun s a hs=>by simp[p0,EC,C7.FC]at hs,⟨rfl,Do,fun k hk=>by simp[p0]at hk,EI _,fun k ab hk=>by simp[p0,EC,Gf,C7.FC]at hk⟩,by simp[p0,EC]⟩
  have h2:=(FD (RS:=fun _ _ _ _=>True) (DU tG) (YZ tG) hp0 hcall).2 _ hv;intro A U w hs;refine(h2 A U w hs).mono ?_;rintro e w' ⟨h0,S',hs1,hr⟩;rcases hr with⟨a,s,hm,q,v,_,_,rfl,hto,_,hcon,rfl⟩|⟨a,s,hm,_⟩
  ·have h1:=h _ hm;simp only[yB,AI]at h1;exact⟨h0,[],(hs1.drops),v,⟨a,h1.2,JU (N:=0) (fun n hn=>I) h1.1 hcon⟩,rfl,rfl⟩
  ·have h1:=h _ hm;simp[yB]at h1
 ·cases h
abbrev yD(op d a b m:Nat):AV:=.agg [Cb op,Cb d,Cb a,Cb b,Cb m]
variable{ρ:Nm}
theorem Je(n:Nat):EM ρ (Cb n) (.int .i64 (n:Int)):=.int (A4 _) (A4 _)
theorem Ww(op d a b m:Nat):EM ρ (yD op d a b m) (.agg (Hg op d a b m).toArray):=.agg (.cons (Je _) (.cons (Je _) (.cons (Je _) (.cons (Je _) (.cons (Je _) .nil)))))
def dM:AV->Bool
 | .boo (some true)=>true
 |_=>false
def dN(x:Nat):AV->Bool
 | .Ec [.int .u64 a b,.int .i64 c d]=>decide (a=(x:Int)/\b=(x:Int)/\c=0/\d=0)
 |_=>false
variable{op d a b m:Nat}
theorem VK{w p:ByteArray}(h:QA 60 [yD op d a b m,.agg [.val (.string w),.val (.string p)]] dM=true):
 Fn Tryz.prog 60 [.agg (Hg op d a b m).toArray,du w p] [] (E4 (.bool true) []):=by
 refine(Wv h (.cons (Ww ..) (.cons (.agg (.cons .val (.cons .val .nil))) .nil))).mono ?_;rintro e S' ⟨v,⟨a,ha,hv⟩,rfl,rfl⟩;unfold dM at ha;split at ha
 ·cases hv;exact⟨rfl,rfl⟩
 ·cases ha
theorem VL{x:Nat}(h:QA 37 [yD op d a b m] (dN x)=true):
 Fn Tryz.prog 37 [.agg (Hg op d a b m).toArray] [] (E4 (.tuple #[.int .u64 (x:Int),.int .i64 0]) []):=by
 refine(Wv h (.cons (Ww ..) .nil)).mono ?_;rintro e S' ⟨v,⟨a,ha,hv⟩,rfl,rfl⟩;unfold dN at ha;split at ha
 ·cases hv with|Ec hv=>cases hv with|cons h1 hv=>cases hv with|cons h2 hv=>
  cases hv;cases h1 with| @int _ _ _ z1 a1 b1=>
  cases h2 with| @int _ _ _ z2 a2 b2=>
  obtain⟨e1,e2,e3,e4⟩:=of_decide_eq_true ha;have e1:z1=(x:Int):=I;have e2:z2=0:=I;subst e1 e2;exact⟨rfl,rfl⟩
 ·cases ha
abbrev dO:Nat->ByteArray:=fun i=>match i with|0=>⟨#[108,111,97,100,32,114,51,32,114,48,32,48,10,97,100,100,32,114,52,32,114,51,32,114,51,10,109,111,118,32,114,48,32,114,52,10,115,101,114,118,105,99,101,32,49]⟩|1=>⟨#[97,100,100,32,114,52,32,114,51,32,114,51,10,109,111,118,32,114,48,32,114,52,10,115,101,114,118,105,99,101,32,49]⟩|2=>⟨#[109,111,118,32,114,48,32,114,52,10,115,101,114,118,105,99,101,32,49]⟩|3=>⟨#[115,101,114,118,105,99,101,32,49]⟩|_=>⟨#[]⟩
abbrev dP:Nat->Nat:=fun i=>match i with|0=>12|1=>12|2=>9|_=>0
theorem qU:Pq ⟨#[108,111,97,100,32,114,51,32,114,48,32,48,10,97,100,100,32,114,52,32,114,51,32,114,51,10,109,111,118,32,114,48,32,114,52,10,115,101,114,118,105,99,101,32,49]⟩ 10 3 dO dP where
 zero:=rfl
 at_:=by intro i hi;have:i=0\/i=1\/i=2:=I;rcases this with rfl|rfl|rfl<;>rfl
 lt:=by intro i hi;have:i=0\/i=1\/i=2:=I;rcases this with rfl|rfl|rfl<;>decide
 step:=by intro i hi;have:i=0\/i=1\/i=2:=I;rcases this with rfl|rfl|rfl<;>first|rfl|decide
 cnt:=rfl
 len:=Ba
 sz:=by intro i hi;have:i=0\/i=1\/i=2\/i=3:=I;rcases this with rfl|rfl|rfl|rfl<;>decide
abbrev aBW:Nat->ByteArray:=fun i=>match i with|0=>⟨#[108,111,97,100,32,114,51,32,114,48,32,48]⟩|1=>⟨#[114,51,32,114,48,32,48]⟩|2=>⟨#[114,48,32,48]⟩|3=>⟨#[48]⟩|_=>⟨#[]⟩
abbrev aBX:Nat->Nat:=fun i=>match i with|0=>4|1=>2|2=>2|_=>0
theorem qV:Pq ⟨#[108,111,97,100,32,114,51,32,114,48,32,48]⟩ 32 3 aBW aBX where
 zero:=rfl
 at_:=by intro i hi;have:i=0\/i=1\/i=2:=I;rcases this with rfl|rfl|rfl<;>rfl
 lt:=by intro i hi;have:i=0\/i=1\/i=2:=I;rcases this with rfl|rfl|rfl<;>decide
 step:=by intro i hi;have:i=0\/i=1\/i=2:=I;rcases this with rfl|rfl|rfl<;>first|rfl|decide
 cnt:=rfl
 len:=Ba
 sz:=by intro i hi;have:i=0\/i=1\/i=2\/i=3:=I;rcases this with rfl|rfl|rfl|rfl<;>decide
abbrev aDR:Nat->Nat:=fun i=>match i with|0=>0|1=>3|2=>3|3=>3|_=>0
abbrev aDS:Nat->Nat:=fun i=>match i with|0=>0|1=>0|2=>0|3=>0|_=>0
abbrev aDT:Nat->Nat:=fun i=>match i with|0=>0|1=>0|2=>0|3=>0|_=>0
abbrev aDU:Nat->Nat:=fun i=>match i with|0=>0|1=>0|2=>0|3=>0|_=>0
abbrev aDV:Nat->ByteArray:=fun i=>match i with|0=>⟨#[114,51]⟩|1=>⟨#[114,48]⟩|2=>⟨#[48]⟩|_=>⟨#[]⟩
abbrev aDW:Nat->UInt8:=fun i=>match i with|0=>51|1=>48|2=>48|_=>0
abbrev aDX:Nat->Nat:=fun i=>match i with|0=>3|1=>0|2=>0|_=>0
abbrev aBY:Nat->Nat:=fun i=>match i with|0=>100|1=>97|2=>105|_=>0
theorem lz:lr ⟨#[108,111,97,100,32,114,51,32,114,48,32,48]⟩ ⟨#[108,111,97,100]⟩ ⟨#[100,97,105]⟩ ⟨#[108,111,97,100]⟩ 11 3 aBW aBX aDV aDW aDX aBY aDR aDS aDT aDU where
 cut:=qV
 row:=by simp[Wq]
 wd0:=rfl
 eq0:=by rw[A5];rfl
 ne:=by intro q hq hb;simp only[Wq,Ab,Az,BX]at hq;rcases hq with rfl|rfl|rfl|rfl|rfl|rfl|rfl|rfl|rfl|rfl|rfl|rfl|rfl|rfl|rfl|rfl|rfl<;>first|exact absurd J hb|(rw[A5,A5];rfl)
 wds:=by
  intro i hi;have:i=0\/i=1\/i=2:=by have:i<3:=hi;omega
  rcases this with rfl|rfl|rfl<;>refine⟨rfl,Ba,Ba,?_,Ba,Ba⟩<;>(simp only[A5];rfl)
 dec:=by
  intro i hi;have:i=0\/i=1\/i=2:=by have:i<3:=hi;omega
  rcases this with rfl|rfl|rfl<;>rfl
 st:=by
  intro i hi;have:i=0\/i=1\/i=2:=by have:i<3:=hi;omega
  rcases this with rfl|rfl|rfl
  ·exact .inl ⟨rfl,rfl,rfl,rfl,rfl⟩
  ·exact .inr (.inl ⟨rfl,rfl,rfl,rfl,rfl⟩)
  ·exact .inr (.inr (.inr ⟨rfl,rfl,rfl,rfl,rfl⟩))
 z:=⟨rfl,rfl,rfl,rfl⟩
abbrev aDY:Nat->ByteArray:=fun i=>match i with|0=>⟨#[108,111,97,100]⟩|1=>⟨#[108,111,97,100,32,114,51]⟩|2=>⟨#[108,111,97,100,32,114,51,32,114,48]⟩|3=>⟨#[108,111,97,100,32,114,51,32,114,48,32,48]⟩|_=>⟨#[]⟩
theorem qW:Fn Tryz.prog 61 [.agg (Hg 11 3 0 0 0).toArray,du ⟨#[108,111,97,100]⟩ ⟨#[100,97,105]⟩] [] (E4 (.string ⟨#[108,111,97,100,32,114,51,32,114,48,32,48]⟩) []):=by
 refine f61 (op:=11) (d:=3) (a:=0) (bb:=0) (m:=0) (wd:=⟨#[108,111,97,100]⟩) (pt:=⟨#[100,97,105]⟩) (c:=aBY) (tx:=aDY) Ba Ba Ba Ba J lz.dec (by intro i hi;rcases(show i=0\/i=1\/i=2 by have h3:i<3:=hi;omega)with rfl|rfl|rfl<;>decide) ?_;intro i hi;have:i=0\/i=1\/i=2:=by have:i<3:=hi;omega
 rcases this with rfl|rfl|rfl
 ·exact .inl ⟨rfl,rfl⟩
 ·exact .inr (.inl ⟨rfl,rfl⟩)
 ·exact .inr (.inr (.inr ⟨rfl,rfl⟩))
theorem yE:QA 60 [.agg [Cb 11,Cb 3,Cb 0,Cb 0,Cb 0],.agg [.val (.string ⟨#[108,111,97,100]⟩),.val (.string ⟨#[100,97,105]⟩)]] dM=true:=kR
theorem yF:QA 37 [.agg [Cb 11,Cb 3,Cb 0,Cb 0,Cb 0]] (dN 779)=true:=kR
abbrev aBZ:Nat->ByteArray:=fun i=>match i with|0=>⟨#[97,100,100,32,114,52,32,114,51,32,114,51]⟩|1=>⟨#[114,52,32,114,51,32,114,51]⟩|2=>⟨#[114,51,32,114,51]⟩|3=>⟨#[114,51]⟩|_=>⟨#[]⟩
abbrev aB0:Nat->Nat:=fun i=>match i with|0=>3|1=>2|2=>2|_=>0
theorem qX:Pq ⟨#[97,100,100,32,114,52,32,114,51,32,114,51]⟩ 32 3 aBZ aB0 where
 zero:=rfl
 at_:=by intro i hi;have:i=0\/i=1\/i=2:=I;rcases this with rfl|rfl|rfl<;>rfl
 lt:=by intro i hi;have:i=0\/i=1\/i=2:=I;rcases this with rfl|rfl|rfl<;>decide
 step:=by intro i hi;have:i=0\/i=1\/i=2:=I;rcases this with rfl|rfl|rfl<;>first|rfl|decide
 cnt:=rfl
 len:=Ba
 sz:=by intro i hi;have:i=0\/i=1\/i=2\/i=3:=I;rcases this with rfl|rfl|rfl|rfl<;>decide
abbrev aDZ:Nat->Nat:=fun i=>match i with|0=>0|1=>4|2=>4|3=>4|_=>0
abbrev aD0:Nat->Nat:=fun i=>match i with|0=>0|1=>0|2=>3|3=>3|_=>0
abbrev aD1:Nat->Nat:=fun i=>match i with|0=>0|1=>0|2=>0|3=>3|_=>0
abbrev aD2:Nat->Nat:=fun i=>match i with|0=>0|1=>0|2=>0|3=>0|_=>0
abbrev aD3:Nat->ByteArray:=fun i=>match i with|0=>⟨#[114,52]⟩|1=>⟨#[114,51]⟩|2=>⟨#[114,51]⟩|_=>⟨#[]⟩
abbrev aD4:Nat->UInt8:=fun i=>match i with|0=>52|1=>51|2=>51|_=>0
abbrev aD5:Nat->Nat:=fun i=>match i with|0=>4|1=>3|2=>3|_=>0
abbrev aB1:Nat->Nat:=fun i=>match i with|0=>100|1=>97|2=>98|_=>0
theorem l9:lr ⟨#[97,100,100,32,114,52,32,114,51,32,114,51]⟩ ⟨#[97,100,100]⟩ ⟨#[100,97,98]⟩ ⟨#[97,100,100]⟩ 4 10 aBZ aB0 aD3 aD4 aD5 aB1 aDZ aD0 aD1 aD2 where
 cut:=qX
 row:=by simp[Wq]
 wd0:=rfl
 eq0:=by rw[A5];rfl
 ne:=by intro q hq hb;simp only[Wq,Ab,Az,BX]at hq;rcases hq with rfl|rfl|rfl|rfl|rfl|rfl|rfl|rfl|rfl|rfl|rfl|rfl|rfl|rfl|rfl|rfl|rfl<;>first|exact absurd J hb|(rw[A5,A5];rfl)
 wds:=by
  intro i hi;have:i=0\/i=1\/i=2:=by have:i<3:=hi;omega
  rcases this with rfl|rfl|rfl<;>refine⟨rfl,Ba,Ba,?_,Ba,Ba⟩<;>(simp only[A5];rfl)
 dec:=by
  intro i hi;have:i=0\/i=1\/i=2:=by have:i<3:=hi;omega
  rcases this with rfl|rfl|rfl<;>rfl
 st:=by
  intro i hi;have:i=0\/i=1\/i=2:=by have:i<3:=hi;omega
  rcases this with rfl|rfl|rfl
  ·exact .inl ⟨rfl,rfl,rfl,rfl,rfl⟩
  ·exact .inr (.inl ⟨rfl,rfl,rfl,rfl,rfl⟩)
  ·exact .inr (.inr (.inl ⟨rfl,rfl,rfl,rfl,rfl⟩))
 z:=⟨rfl,rfl,rfl,rfl⟩
abbrev aD6:Nat->ByteArray:=fun i=>match i with|0=>⟨#[97,100,100]⟩|1=>⟨#[97,100,100,32,114,52]⟩|2=>⟨#[97,100,100,32,114,52,32,114,51]⟩|3=>⟨#[97,100,100,32,114,52,32,114,51,32,114,51]⟩|_=>⟨#[]⟩
theorem qY:Fn Tryz.prog 61 [.agg (Hg 4 4 3 3 0).toArray,du ⟨#[97,100,100]⟩ ⟨#[100,97,98]⟩] [] (E4 (.string ⟨#[97,100,100,32,114,52,32,114,51,32,114,51]⟩) []):=by
 refine f61 (op:=4) (d:=4) (a:=3) (bb:=3) (m:=0) (wd:=⟨#[97,100,100]⟩) (pt:=⟨#[100,97,98]⟩) (c:=aB1) (tx:=aD6) Ba Ba Ba Ba J l9.dec (by intro i hi;rcases(show i=0\/i=1\/i=2 by have h3:i<3:=hi;omega)with rfl|rfl|rfl<;>decide) ?_;intro i hi;have:i=0\/i=1\/i=2:=by have:i<3:=hi;omega
 rcases this with rfl|rfl|rfl
 ·exact .inl ⟨rfl,rfl⟩
 ·exact .inr (.inl ⟨rfl,rfl⟩)
 ·exact .inr (.inr (.inl ⟨rfl,rfl⟩))
theorem yG:QA 60 [.agg [Cb 4,Cb 4,Cb 3,Cb 3,Cb 0],.agg [.val (.string ⟨#[97,100,100]⟩),.val (.string ⟨#[100,97,98]⟩)]] dM=true:=kR
theorem yH:QA 37 [.agg [Cb 4,Cb 4,Cb 3,Cb 3,Cb 0]] (dN 50529284)=true:=kR
abbrev aB2:Nat->ByteArray:=fun i=>match i with|0=>⟨#[109,111,118,32,114,48,32,114,52]⟩|1=>⟨#[114,48,32,114,52]⟩|2=>⟨#[114,52]⟩|_=>⟨#[]⟩
abbrev aB3:Nat->Nat:=fun i=>match i with|0=>3|1=>2|_=>0
theorem qZ:Pq ⟨#[109,111,118,32,114,48,32,114,52]⟩ 32 2 aB2 aB3 where
 zero:=rfl
 at_:=by intro i hi;have:i=0\/i=1:=I;rcases this with rfl|rfl<;>rfl
 lt:=by intro i hi;have:i=0\/i=1:=I;rcases this with rfl|rfl<;>decide
 step:=by intro i hi;have:i=0\/i=1:=I;rcases this with rfl|rfl<;>first|rfl|decide
 cnt:=rfl
 len:=Ba
 sz:=by intro i hi;have:i=0\/i=1\/i=2:=I;rcases this with rfl|rfl|rfl<;>decide
abbrev aD7:Nat->Nat:=fun i=>match i with|0=>0|1=>0|2=>0|_=>0
abbrev aD8:Nat->Nat:=fun i=>match i with|0=>0|1=>0|2=>4|_=>0
abbrev aD9:Nat->Nat:=fun i=>match i with|0=>0|1=>0|2=>0|_=>0
abbrev aEa:Nat->Nat:=fun i=>match i with|0=>0|1=>0|2=>0|_=>0
abbrev aEb:Nat->ByteArray:=fun i=>match i with|0=>⟨#[114,48]⟩|1=>⟨#[114,52]⟩|_=>⟨#[]⟩
abbrev aEc:Nat->UInt8:=fun i=>match i with|0=>48|1=>52|_=>0
abbrev aEd:Nat->Nat:=fun i=>match i with|0=>0|1=>4|_=>0
abbrev aB4:Nat->Nat:=fun i=>match i with|0=>100|1=>97|_=>0
theorem mA:lr ⟨#[109,111,118,32,114,48,32,114,52]⟩ ⟨#[109,111,118]⟩ ⟨#[100,97]⟩ ⟨#[109,111,118]⟩ 3 2 aB2 aB3 aEb aEc aEd aB4 aD7 aD8 aD9 aEa where
 cut:=qZ
 row:=by simp[Wq]
 wd0:=rfl
 eq0:=by rw[A5];rfl
 ne:=by intro q hq hb;simp only[Wq,Ab,Az,BX]at hq;rcases hq with rfl|rfl|rfl|rfl|rfl|rfl|rfl|rfl|rfl|rfl|rfl|rfl|rfl|rfl|rfl|rfl|rfl<;>first|exact absurd J hb|(rw[A5,A5];rfl)
 wds:=by
  intro i hi;have:i=0\/i=1:=by have:i<2:=hi;omega
  rcases this with rfl|rfl<;>refine⟨rfl,Ba,Ba,?_,Ba,Ba⟩<;>(simp only[A5];rfl)
 dec:=by
  intro i hi;have:i=0\/i=1:=by have:i<2:=hi;omega
  rcases this with rfl|rfl<;>rfl
 st:=by
  intro i hi;have:i=0\/i=1:=by have:i<2:=hi;omega
  rcases this with rfl|rfl
  ·exact .inl ⟨rfl,rfl,rfl,rfl,rfl⟩
  ·exact .inr (.inl ⟨rfl,rfl,rfl,rfl,rfl⟩)
 z:=⟨rfl,rfl,rfl,rfl⟩
abbrev aEe:Nat->ByteArray:=fun i=>match i with|0=>⟨#[109,111,118]⟩|1=>⟨#[109,111,118,32,114,48]⟩|2=>⟨#[109,111,118,32,114,48,32,114,52]⟩|_=>⟨#[]⟩
theorem qc:Fn Tryz.prog 61 [.agg (Hg 3 0 4 0 0).toArray,du ⟨#[109,111,118]⟩ ⟨#[100,97]⟩] [] (E4 (.string ⟨#[109,111,118,32,114,48,32,114,52]⟩) []):=by
 refine f61 (op:=3) (d:=0) (a:=4) (bb:=0) (m:=0) (wd:=⟨#[109,111,118]⟩) (pt:=⟨#[100,97]⟩) (c:=aB4) (tx:=aEe) Ba Ba Ba Ba J mA.dec (by intro i hi;rcases(show i=0\/i=1 by have h3:i<2:=hi;omega)with rfl|rfl<;>decide) ?_;intro i hi;have:i=0\/i=1:=by have:i<2:=hi;omega
 rcases this with rfl|rfl
 ·exact .inl ⟨rfl,rfl⟩
 ·exact .inr (.inl ⟨rfl,rfl⟩)
theorem yI:QA 60 [.agg [Cb 3,Cb 0,Cb 4,Cb 0,Cb 0],.agg [.val (.string ⟨#[109,111,118]⟩),.val (.string ⟨#[100,97]⟩)]] dM=true:=kR
theorem yJ:QA 37 [.agg [Cb 3,Cb 0,Cb 4,Cb 0,Cb 0]] (dN 262147)=true:=kR
abbrev aB5:Nat->ByteArray:=fun i=>match i with|0=>⟨#[115,101,114,118,105,99,101,32,49]⟩|1=>⟨#[49]⟩|_=>⟨#[]⟩
abbrev aB6:Nat->Nat:=fun i=>match i with|0=>7|_=>0
theorem qd:Pq ⟨#[115,101,114,118,105,99,101,32,49]⟩ 32 1 aB5 aB6 where
 zero:=rfl
 at_:=by intro i hi;have:i=0:=I;rcases this with rfl<;>rfl
 lt:=by intro i hi;have:i=0:=I;rcases this with rfl<;>decide
 step:=by intro i hi;have:i=0:=I;rcases this with rfl<;>first|rfl|decide
 cnt:=rfl
 len:=Ba
 sz:=by intro i hi;have:i=0\/i=1:=I;rcases this with rfl|rfl<;>decide
abbrev aEf:Nat->Nat:=fun i=>match i with|0=>0|1=>0|_=>0
abbrev aEg:Nat->Nat:=fun i=>match i with|0=>0|1=>0|_=>0
abbrev aEh:Nat->Nat:=fun i=>match i with|0=>0|1=>0|_=>0
abbrev aEi:Nat->Nat:=fun i=>match i with|0=>0|1=>1|_=>0
abbrev aEj:Nat->ByteArray:=fun i=>match i with|0=>⟨#[49]⟩|_=>⟨#[]⟩
abbrev aEk:Nat->UInt8:=fun i=>match i with|0=>49|_=>0
abbrev aEl:Nat->Nat:=fun i=>match i with|0=>1|_=>0
abbrev aB7:Nat->Nat:=fun i=>match i with|0=>105|_=>0
theorem mB:lr ⟨#[115,101,114,118,105,99,101,32,49]⟩ ⟨#[115,101,114,118,105,99,101]⟩ ⟨#[105]⟩ ⟨#[115,101,114,118,105,99,101]⟩ 16 8 aB5 aB6 aEj aEk aEl aB7 aEf aEg aEh aEi where
 cut:=qd
 row:=by simp[Wq]
 wd0:=rfl
 eq0:=by rw[A5];rfl
 ne:=by intro q hq hb;simp only[Wq,Ab,Az,BX]at hq;rcases hq with rfl|rfl|rfl|rfl|rfl|rfl|rfl|rfl|rfl|rfl|rfl|rfl|rfl|rfl|rfl|rfl|rfl<;>first|exact absurd J hb|(rw[A5,A5];rfl)
 wds:=by
  intro i hi;have:i=0:=by have:i<1:=hi;omega
  rcases this with rfl<;>refine⟨rfl,Ba,Ba,?_,Ba,Ba⟩<;>(simp only[A5];rfl)
 dec:=by
  intro i hi;have:i=0:=by have:i<1:=hi;omega
  rcases this with rfl<;>rfl
 st:=by
  intro i hi;have:i=0:=by have:i<1:=hi;omega
  rcases this with rfl
  ·exact .inr (.inr (.inr ⟨rfl,rfl,rfl,rfl,rfl⟩))
 z:=⟨rfl,rfl,rfl,rfl⟩
abbrev aEm:Nat->ByteArray:=fun i=>match i with|0=>⟨#[115,101,114,118,105,99,101]⟩|1=>⟨#[115,101,114,118,105,99,101,32,49]⟩|_=>⟨#[]⟩
theorem qe:Fn Tryz.prog 61 [.agg (Hg 16 0 0 0 1).toArray,du ⟨#[115,101,114,118,105,99,101]⟩ ⟨#[105]⟩] [] (E4 (.string ⟨#[115,101,114,118,105,99,101,32,49]⟩) []):=by
 refine f61 (op:=16) (d:=0) (a:=0) (bb:=0) (m:=1) (wd:=⟨#[115,101,114,118,105,99,101]⟩) (pt:=⟨#[105]⟩) (c:=aB7) (tx:=aEm) Ba Ba Ba Ba J mB.dec (by intro i hi;rcases(show i=0 by have h3:i<1:=hi;omega)with rfl<;>decide) ?_;intro i hi;have:i=0:=by have:i<1:=hi;omega
 rcases this with rfl
 ·exact .inr (.inr (.inr ⟨rfl,rfl⟩))
theorem yK:QA 60 [.agg [Cb 16,Cb 0,Cb 0,Cb 0,Cb 1],.agg [.val (.string ⟨#[115,101,114,118,105,99,101]⟩),.val (.string ⟨#[105]⟩)]] dM=true:=kR
theorem yL:QA 37 [.agg [Cb 16,Cb 0,Cb 0,Cb 0,Cb 1]] (dN 4294967312)=true:=kR
def zG:Prop:=∀RS:EA,ET Tryz.prog RS 10 yA
def Ya:EA:=fun i d b cs=>if i=0 then LQ d b cs else if i=1 then Zm d b cs else if i=2 then Im d b cs else if i=6 then xu d b cs else True
theorem VN:∀d b cs,Ya 0 d b cs↔LQ d b cs:=fun d b cs=>by simp[Ya]
theorem Yb:∀d b cs,Ya 1 d b cs↔Zm d b cs:=fun d b cs=>by simp[Ya]
theorem Yc:∀d b cs,Ya 2 d b cs↔Im d b cs:=fun d b cs=>by simp[Ya]
theorem aCa:∀d b cs,Ya 6 d b cs↔xu d b cs:=fun d b cs=>by simp[Ya]
theorem aEz:∀d b cs,Ya 9 d b cs:=fun d b cs=>by simp[Ya]
theorem mE(H:zG):Ol Tryz.prog Ya lA:=⟨⟨aDH VN,Ba,kR⟩,⟨aDI Yb,Ba,kR⟩,⟨aDJ Yc,Ba,kR⟩,⟨aBL Yc,Ba,kR⟩,⟨aDK Yc aEz,Ba,kR⟩,⟨H _,Ba,kR⟩,
 ⟨aBx VN,Ba,kR⟩,⟨aDo VN,Ba,kR⟩,⟨aBy VN,Ba,kR⟩,⟨aDp VN,Ba,kR⟩,⟨aDq VN,Ba,kR⟩,⟨aBz VN,Ba,kR⟩,⟨aBA VN,Ba,kR⟩,
 ⟨aDC Yb,Ba,kR⟩,⟨aDD Yb,Ba,kR⟩,⟨aDE Yb,Ba,kR⟩,⟨aBI Yb,Ba,kR⟩,⟨aBJ Yb,Ba,kR⟩,⟨aBK Yb,Ba,kR⟩,
 ⟨aBB Yc,Ba,kR⟩,⟨aDt Yc,Ba,kR⟩,⟨aBD Yc,Ba,kR⟩,⟨aBH Yc VN,Ba,kR⟩,⟨s6,Ba,kR⟩,⟨aDP aCa,Ba,kR⟩,⟨aDQ aCa,Ba,kR⟩,⟨ZJ,Ba,kR⟩,trivial⟩
theorem mF(H:zG):Ol Tryz.prog Ya lB:=⟨⟨aDL (DU (mE H)) (YZ (mE H)),Ba,kR⟩,mE H⟩
theorem T9{P:Program}{RS:EA}{f:Nat}:∀{l:List F5},(∀c∈l,ET P RS f c)->ET P RS f (VM l)
 |[],_=>fun args s rs h=>by cases h
 |c::r,hl=>fun args s rs h=>by
  simp only[VM]at h;split at h
  ·rename_i x hx;cases h;exact hl c BH args s _ hx
  ·exact T9 (fun c hc=>hl c (Aw _ hc)) args s rs h
theorem aCb(H:zG):ET Tryz.prog Ya 9 c9:=by
 have hE:=DU (mF H);have hih:=YZ (mF H);refine T9 fun c hc=> ?_
 simp only[Ab,Az,BX]at hc;rcases hc with rfl|rfl|rfl|rfl|rfl|rfl|rfl|rfl|rfl|rfl|rfl|rfl
 ·exact R2 hE hih aEn
 ·exact R2 hE hih aEo
 ·exact R2 hE hih aEp
 ·exact R2 hE hih aEq
 ·exact R2 hE hih aEr
 ·exact R2 hE hih aEs
 ·exact R2 hE hih aEt
 ·exact R2 hE hih aEu
 ·exact R2 hE hih aEv
 ·exact R2 hE hih aEw
 ·exact R2 hE hih aB8
 ·intro args s rs hc p hst hp vs hvs;subst hst;exact(FD hE hih hp hc).2 vs hvs
theorem tH(H:zG):Ol Tryz.prog Ya lS:=⟨⟨aCb H,Ba,kR⟩,mF H⟩
theorem mG(H:zG):Fn Tryz.prog 6 [] [] (E4 (.bool true) []):=by
 have hr:=aEy;split at hr
 ·rename_i s hc;let p0:Pt:=⟨[],EC [],[],[],[],fun _=>[]⟩
  have hp0:p0.good Ya:=⟨fun s a hs=>by simp[p0,EC,C7.FC]at hs,⟨rfl,Do,fun k hk=>by simp[p0]at hk,EI _,fun k ab hk=>by simp[p0,EC,Gf,C7.FC]at hk⟩,by simp[p0,EC]⟩
  have h:=(FD (Zq (tH H)) (yO (tH H)) hp0 hc).2 _ .nil;intro A U w hs;refine(h A U w hs).mono ?_;rintro e w' ⟨h0,S',hs1,hr⟩;rcases hr with⟨a,s,hm,q,v,_,_,rfl,_,_,hcon,rfl⟩|⟨a,s,hm,_⟩
  ·simp at hm;obtain⟨rfl,rfl⟩:=hm;cases hcon;exact⟨h0,[],hs1.drops,rfl,rfl⟩
  ·simp at hm
 ·cases hr
def yP(Q:EX):EX:=⟨fun e fr S=>match e with| .goto _=>False|e=>Q.go e fr S,Q.Eu⟩
variable{n:Nat}
theorem CW.scope{P:Program}{c:Code}{Q:EX}{fr:Fr}{S:A2}(h:CW P n c (yP Q) fr S):CW P n (.scope c) Q fr S:=by
 intro A R a' w hd hk hs;refine wp_scope_straight (wp_mono (h A R a' w hd hk hs) ?_);rintro e a1 w1 ⟨hd1,hh⟩;cases e with
 |goto l=>obtain⟨_,_,_,_,hf⟩:=hh;exact hf
 |_=>exact⟨hd1,hh⟩
abbrev VO:ByteArray:=⟨#[108,111,97,100,32,114,51,32,114,48,32,48,10,97,100,100,32,114,52,32,114,51,32,114,51,10,109,111,118,32,114,48,32,114,52,10,115,101,114,118,105,99,101,32,49,10]⟩
abbrev aEA:ByteArray:=⟨#[108,111,97,100,32,114,51,32,114,48,32,48,10,97,100,100,32,114,52,32,114,51,32,114,51,10,109,111,118,32,114,48,32,114,52,10,115,101,114,118,105,99,101,32,49]⟩
def lnB(i:Nat):ByteArray:=match i with|0=>⟨#[108,111,97,100,32,114,51,32,114,48,32,48]⟩|1=>⟨#[97,100,100,32,114,52,32,114,51,32,114,51]⟩|2=>⟨#[109,111,118,32,114,48,32,114,52]⟩|3=>⟨#[115,101,114,118,105,99,101,32,49]⟩|_=>⟨#[]⟩
def insL(i:Nat):List Value:=match i with|0=>Hg 11 3 0 0 0|1=>Hg 4 4 3 3 0|2=>Hg 3 0 4 0 0|3=>Hg 16 0 0 0 1|_=>Hg 0 0 0 0 0
theorem mH:∀i,i<4->E1 (PQ dO dP 3) i=some (.string (lnB i)):=by intro i hi;have:i=0\/i=1\/i=2\/i=3:=I;rcases this with rfl|rfl|rfl|rfl<;>rfl
def zH(i:Nat):Nat:=xy.getD i 0
theorem Zr{mb:Nat}:∀i,i<4->Fn Tryz.prog 36 [.string (lnB i),.map (some mb)] [DX (Value.int .i64) mb (LR 17) 17] (E4 (.tuple #[.agg (insL i).toArray,.bool true]) [DX (Value.int .i64) mb (LR 17) 17]):=by
 intro i hi;have:i=0\/i=1\/i=2\/i=3:=I;rcases this with rfl|rfl|rfl|rfl
 ·exact f36 lz (VK yE) qW
 ·exact f36 l9 (VK yG) qY
 ·exact f36 mA (VK yI) qc
 ·exact f36 mB (VK yK) qe
theorem mI:∀i,i<4->Fn Tryz.prog 37 [.agg (insL i).toArray] [] (E4 (.tuple #[.int .u64 (zH i:Int),.int .i64 0]) []):=by
 intro i hi;have:i=0\/i=1\/i=2\/i=3:=I;rcases this with rfl|rfl|rfl|rfl
 ·exact VL yF
 ·exact VL yH
 ·exact VL yJ
 ·exact VL yL
theorem Og(i:Nat):(insL i).length=5:=by unfold insL;split<;>rfl
theorem Wy(i:Nat):∀u∈insL i,u.oneCell'=true:=by unfold insL;split<;>(intro u hu;simp only[Ab,Az,BX]at hu;rcases hu with rfl|rfl|rfl|rfl|rfl<;>rfl)
def eA(i:Nat):List Value:=(List.range i).map fun j=>Value.int .u64 (zH j:Int)
theorem qf(i:Nat):(eA i).length=i:=by simp[eA]
theorem mJ(i:Nat):eA i++[Value.int .u64 (zH i:Int)]=eA (i+1):=by simp[eA,List.range_succ]
def yQ:Nat->Nat->Nat->Value
 |0,_,_=>.slice none 0 0
 |i+1,b,cap=>.slice (some ⟨b,0,none⟩) (i+1) cap
def yR:Nat->Nat->List Value->A2
 |0,_,_=>[]
 |i+1,b,ex=>[A7 b (eA (i+1)++ex) 43]
theorem qg:((VO.extract (VO.size-(⟨#[10]⟩:ByteArray).size) VO.size).toList==(⟨#[10]⟩:ByteArray).toList)=true:=by rw[A5,A5];rfl
theorem mK:VO.extract 0 (VO.size-(⟨#[10]⟩:ByteArray).size)=aEA:=rfl
theorem yS:(VO.toList==(⟨#[]⟩:ByteArray).toList)=false:=by rw[A5,A5];rfl
theorem f10:Fn Tryz.prog 10 [.string VO] [] (Dv (ι:=Nat×Nat×List Value) (fun i=>i.2.2.length=i.2.1-4/\4<=i.2.1) (fun i=>.tuple #[.slice (some ⟨i.1,0,none⟩) 4 i.2.1,.int .i64 0,.int .i64 0]) (fun i=>[A7 i.1 (eA 4++i.2.2) 43])):=by
 refine Fn.of Tryz.func10 J J [_,_,_] J ?_;refine W ?_;refine CW.scope ?_;refine W ?_;refine DL.BS J J J .nil (f34 (a:=VO) (b:=⟨#[10]⟩) Ba Ba qg) kR .nil kO ?_;rw[mK];refine DL.B7 J J J .nil (f33 qU) kR (fun _=>aP) (fun _=>kO) ?_;rintro lb-
 refine W ?_;rw[yS];refine W ?_;refine DL.B7 J J J .nil f35 kR (fun _=>aP) (fun _=>kO) ?_;rintro mb-
 refine W ?_;refine CW.label ?_;refine W ?_;refine CW.loop (ι:=Nat×Nat×Nat×List Value) (fun j=>4-j.1) (fun j=>j.1<=4/\j.2.2.2.length=j.2.2.1-j.1/\j.1<=j.2.2.1) (fun j=>[(24,.slice (some ⟨lb,0,none⟩) 4 4),(25,.int .i64 4),(26,.int .i64 (j.1:Int)),(6,.map (some mb)),(7,yQ j.1 j.2.1 j.2.2.1),(8,.int .i64 (-1))]) (fun j=>[DX (Value.int .i64) mb (LR 17) 17,A7 lb (PQ dO dP 3) 9]++yR j.1 j.2.1 j.2.2.2) (0,0,0,[]) DI sF (show DV _ [DX (Value.int .i64) mb (LR 17) 17,A7 lb (PQ dO dP 3) 9] _ from pK) ?_;rintro⟨i,ob,cap,ex⟩ ⟨hi,h1,h2⟩;dsimp only at hi h1 h2⊢;cases i with
 |zero=>
  simp only[yQ,yR,AQ,AS];refine W ?_;have hlt:0<4:=I;skip
  refine DL.C3 tt (0) J J J J J J I ?_;refine DL.ld1 (v:=.string (lnB (0))) tt J J J J J iN (by rw[BM,Dk];exact mH _ hlt) ?_;refine W ?_;refine DL.BS J J J pK (Zr (0) hlt) kR aP kO ?_
  (refine W ?_;intro b)
  obtain⟨q11,hq11⟩:∃q11,q11=b:=⟨_,rfl⟩
  subst hq11;refine DL.Bj tt J J J J uP (by rw[Og]) (Wy _) J kO ?_;refine W ?_;refine DL.LJ tt J J J J J iN (by rw[Og]) ?_;refine DL.BS J J J .nil (mI (0) hlt) kR .nil kO ?_
  (refine W ?_;intro b)
  refine DL.N1 tt J J J eM J (DO.slice (news:=[.int .u64 (zH 0:Int)]) tt J iN J J (by simp[Value.oneCell'])) I I I kC ?_;intro b' cap' ex' e1 e2;rw[show[Value.int .u64 (zH 0:Int)]=eA (0+1)from rfl];refine W ?_;exact⟨(0+1,b',cap',ex'),_,by dsimp only;omega,⟨by dsimp only;omega,by dsimp only;omega,by dsimp only;omega⟩,sF,(show DV _ [DX (Value.int .i64) mb (LR 17) 17,A7 lb (PQ dO dP 3) 9,A7 b' (eA (0+1)++ex') 43] _ from pK)⟩
 |succ i=>
  simp only[yQ,yR,AQ,AS];refine W ?_;by_cases hlt:i+1<4
  ·refine CW.Gp J I ?_;refine W ?_;refine DL.C3 tt (i+1) J J J J J J I ?_;refine DL.ld1 (v:=.string (lnB (i+1))) tt J J J J J iN (by rw[BM,Dk];exact mH _ hlt) ?_;refine W ?_;refine DL.BS J J J pK (Zr (i+1) hlt) kR aP kO ?_
   (refine W ?_;intro b)
   obtain⟨q11,hq11⟩:∃q11,q11=b:=⟨_,rfl⟩
   subst hq11;refine DL.Bj tt J J J J uP (by rw[Og]) (Wy _) J kO ?_;refine W ?_;refine DL.LJ tt J J J J J iN (by rw[Og]) ?_;refine DL.BS J J J .nil (mI (i+1) hlt) kR .nil kO ?_
   (refine W ?_;intro b)
   refine DL.append (xs:=eA (i+1)) (ex:=ex) tt J J J eM J Es (DO.slice (news:=[.int .u64 (zH (i+1):Int)]) tt J iN J J (by simp[Value.oneCell'])) (by rw[qf,Dk]) (by rw[Dk];exact h1) h2 I I kC ?_;intro b' cap' ex' e1 e2;rw[mJ];refine W ?_;exact⟨(i+1+1,b',cap',ex'),_,by dsimp only;omega,⟨by dsimp only;omega,by dsimp only;omega,by dsimp only;omega⟩,sF,(show DV _ [DX (Value.int .i64) mb (LR 17) 17,A7 lb (PQ dO dP 3) 9,A7 b' (eA (i+1+1)++ex') 43] _ from pK)⟩
  ·obtain rfl:i=3:=I;refine CW.GM J I ?_;refine W ?_;exact BD (ob,cap,ex) ⟨h1,h2⟩ (UE (RV.tmp J) (RV.tmp J) (RV.tmp J)) pK
theorem yT{a:ByteArray}(h:(a.data.toList.map fun b=>b.toNat)=qT):a=VO:=by
 have e:a.data.toList=qT.map UInt8.ofNat:=by
  rw[<-h,List.map_map];conv=>lhs;rw[<-List.map_id a.data.toList]
  refine BB fun x _=> ?_
  simp
 obtain⟨d⟩:=a;congr 1
 apply Bl.1;rw[e];rfl
theorem h10:zG:=by
 intro RS args s rs hc p hst hp vs hvs;subst hst;unfold yA at hc;split at hc
 ·rename_i a;cases hcond:RJ (a.data.toList.map fun b=>b.toNat) qT&&p.st.room<;>rw[hcond]at hc<;>simp only[AN,AO,reduceCtorEq,AH]at hc;subst hc;simp only[AI]at hcond;obtain⟨h1,hroom⟩:=hcond;obtain rfl:=yT (OD h1);cases hvs with|cons k0 hvs=>
  cases hvs;cases k0;refine(f10).Cd (F:=p.S) DI ?_;rintro e S' ⟨⟨ob,cap,ex⟩,⟨e1,e2⟩,rfl,rfl⟩;dsimp only at e1 e2⊢;obtain⟨g1,g2⟩:=KD (q:=p) (news:=xy.map fun x=>BZ x) (ns:=eA 4) (e:=43) (CU:=1) (m:=4) (b:=ob) (cap:=cap) (ex:=ex) hp hroom (show Bt p.ρ [BZ 779,BZ 50529284,BZ 262147,BZ 4294967312] [.int .u64 ((779:Nat):Int),.int .u64 ((50529284:Nat):Int),.int .u64 ((262147:Nat):Int),.int .u64 ((4294967312:Nat):Int)]from .cons (.int (A4 _) (A4 _)) (.cons (.int (A4 _) (A4 _)) (.cons (.int (A4 _) (A4 _)) (.cons (.int (A4 _) (A4 _)) .nil)))) J I e2;exact⟨_,.inl ⟨_,_,AP.2 J,p.new (ob,cap) _ _,_,rfl,rfl,rfl,.new hp _ _ _,g1,.Ec (.cons g2 (.cons (Je 0) (.cons (Je 0) .nil))),rfl⟩,by simp[Pt.new]⟩
 ·cases hc
theorem aEW{n0:Int}{ib:Bool}{M:List Int}{dp ep:Option Addr}{dl dc el ec:Nat}{D:List (List Int)}{L:List Stp}{lv:Value}{old:List CH}(hn0: -9223372036854775808<=n0/\n0<=9223372036854775807)(hM:M.length=32)(hMb:BN M)(hdr:tL D (.slice dp dl dc) old)(ZG:∀x∈D,BN x)(hE:el<=100->dW (.slice ep el ec) old)(hL:Nw L lv old)(hB:∀s∈L,Oi s/\S5 s old)(hdl:dl<9223372036854775808)(hel:el<9223372036854775808)(tM:L.length<9223372036854775808):
 Fn Tryz.prog 3 [.agg (setW n0 ib M (.slice dp dl dc) (.slice ep el ec)).toArray,lv] [old] (E4 (.bool true) [old]):=
 f3 (mG h10) yZ yo hn0 hM hMb hdr ZG hE hL hB hdl hel tM
section
open Go.ChangeShapes Go.WideShapes Go.ChangeAt Go.RowKit
def allB(w:World):List CH:=w.heap.toList.zipIdx.map fun p=>(p.2,p.1)
variable{w:World}
theorem SD{o:Obj}:(b,o)∈allB w↔w.heap[b]? =some o:=by
 unfold allB;rw[A8];constructor
 ·rintro⟨⟨o',i⟩,hm,he⟩;simp only[Af]at he;obtain⟨rfl,rfl⟩:=he;have:=Cm.1 hm;simpa using this
 ·intro h;exact⟨(o,b),Cm.2 (by simpa using h),rfl⟩
abbrev mq(w:World):Om:={os:=w.os,tape:=w.tape,output:=w.output,base:=w.heap.size}
theorem mr(w:World):Ds (mq w) w ([allB w]++[]):=by
 refine⟨rfl,rfl,rfl,Ao _,?_,fun x hx=> ?_⟩
 ·have e:((([allB w]++[]:A2)).flatten.map (fun x:CH=>x.1))=List.range' 0 w.heap.toList.length:=by simp only[Am,AW,A0,allB,List.map_map];rw[<-List.zipIdx_map_snd 0 w.heap.toList];rfl
  rw[e];exact List.nodup_range'
 ·simp only[Am,AW,A0]at hx;exact SD.1 hx
theorem my{w':World}{U:A2}(h:Ds (mq w) w' ([allB w]++U)):Below w.heap.size w w':=by refine⟨h.os,h.tape,h.output,h.size,fun k hk=> ?_⟩;have:=h.has (k,w.heap[k]) (by simp only[AQ,AW];exact A3 _ (SD.2 (B6 hk)));rw[B6 hk];exact this
theorem Yk{b off:Nat}{xs:List Value}(h:∀(j:Nat) (v:Value),xs[j]? =some v->w.cell? ⟨b,off+j,none⟩=some v):QC (allB w) b off xs:=by
 cases xs with
 |nil=>exact .inl J
 |cons x xs=>
  right;have h0:=h 0 x J;unfold World.cell? at h0;split at h0
  ·rename_i c t fz hb;refine⟨c.toList,t,fz,SD.2 (by simpa using hb),?_⟩;apply List.ext_getElem?;intro j;cases hj:(x::xs)[j]? with
   |none=>
    rw[Bf];split
    ·rename_i hlt;rw[AZ hlt]at hj;cases hj
    ·rfl
   |some v=>have hv:=h j v hj;have hlt:=(Ae.1 hj).1;rw[Bf,BE hlt,CG];simpa[World.cell?,hb]using hv
  ·cases h0
section
variable{H:Type} {enc:TypeId×Value->H} {P:Program} {w:World} {base:Nat} {spare:Nat->Bool} {held:Bool}
def Rd(enc:TypeId×Value->H)(P:Program)(w:World)(base:Nat)(spare:Nat->Bool)(held:Bool)(t:TypeId)(cs:List Value):Prop:=∃fuel x,DataW.trod enc P w base spare held fuel t cs=some x
variable{t:TypeId}{k:IntKind}
theorem MI{cs:List Value}(ht:P.underlying t=some (.int k))(h:Rd enc P w base spare held t cs):∃z,cs=[.int k z]/\k.min<=z/\z<=k.max:=by obtain⟨fuel,x,hf⟩:=h;obtain⟨z,rfl,_,hw⟩:=DataW.trod_int ht hf;simp only[Lit.wf,AI,decide_eq_true_eq]at hw;exact⟨z,rfl,hw⟩
theorem rJ{cs:List Value}(ht:P.underlying t=some .bool)(h:Rd enc P w base spare held t cs):∃b,cs=[.bool b]:=by obtain⟨fuel,x,hf⟩:=h;obtain⟨b,rfl,_⟩:=DataW.trod_bool ht hf;exact⟨b,rfl⟩
variable{e:TypeId}
theorem Yl{cs:List Value}(ht:P.underlying t=some (.array n e))(he:P.underlying e=some (.int k))(hc:P.cellsOf e=1)(hC:P.cellsOf t=n)(h:Rd enc P w base spare held t cs):
 ∃zs:List Int,cs=zs.map (Value.int k)/\zs.length=n/\∀z∈zs,k.min<=z/\z<=k.max:=by
 obtain⟨fuel,x,hf⟩:=h;obtain⟨xs,m,_,_,hlen,hxs,hi⟩:=DataW.trod_array ht hf;have hlc:cs.length=n:=by rw[hlen,hC]
 have key:∀i,i<n->∃z,cs[i]? =some (.int k z)/\k.min<=z/\z<=k.max:=fun i hin=>by have h1:=hi i hin;rw[AZ I]at h1;obtain⟨z,hz,hw⟩:=MI (enc:=enc) (w:=w) (base:=base) (spare:=spare) (held:=held) he ⟨_,_,h1⟩;refine⟨z,?_,hw⟩;simp only[hc,Dk]at hz;have:=congrArg (fun l=>l[0]?) hz;simpa[Bf,CG]using this
 refine⟨(List.range n).map fun i=>match cs[i]? with|some (Value.int _ z)=>z|_=>(0:Int),?_,by simp,?_⟩
 ·apply List.ext_getElem?;intro i;by_cases hin:i<n
  ·obtain⟨z,hz,_⟩:=key i hin;rw[hz];simp[hin,hz]
  ·rw[List.getElem?_eq_none I,List.getElem?_eq_none (by simp;omega)]
 ·intro z hz;obtain⟨i,hi1,hi2⟩:=A8.1 hz;obtain⟨y,hy,hw⟩:=key i (by simpa using hi1);rw[hy]at hi2;simp only at hi2;exact hi2▸hw
variable{fs:Array Field}
theorem Mc{cs:List Value}(ht:P.underlying t=some (.struct fs))(h:Rd enc P w base spare held t cs):cs.length=P.cellsOf t/\∀(i:Nat) (f:Field),fs[i]? =some f->Rd enc P w base spare held f.type ((cs.drop f.offset).take (P.cellsOf f.type)):=by
 obtain⟨fuel,x,hf⟩:=h;obtain⟨xs,n,_,_,hlen,hxs,hi⟩:=DataW.trod_struct ht hf;refine⟨hlen,fun i f hfi=> ?_⟩;have h1:=hi i f hfi;have hlt:i<xs.length:=by rw[hxs];exact(A1.1 hfi).1
 rw[AZ hlt]at h1;exact⟨_,_,h1⟩
theorem Gs{t t' o k:Nat}{cs:List Value}(ht:P.underlying t=some (.struct fs))(h:Rd enc P w base spare held t cs)(i:Nat){f:Field}(hfi:fs[i]? =some f)(h1:f.type=t')(h2:f.offset=o)(h3:P.cellsOf t'=k):Rd enc P w base spare held t' ((cs.drop o).take k):=by subst h1 h2 h3;exact(Mc ht h).2 i f hfi
theorem Oj{cs:List Value}{c:Nat}(ht:P.underlying t=some (.slice e))(hc:P.cellsOf e=c)(hc0:0<c)(h:Rd enc P w base spare held t cs):
 cs=[.slice none 0 0]\/∃(a:Addr) (len cap:Nat),cs=[.slice (some a) len cap]/\len<=cap/\cap<=maxLen/\(0<len->a.spot=none)/\
  ∀i,i<len->∃xs,xs.length=c/\(∀(k:Nat) (v:Value),xs[k]? =some v->w.cell? ⟨a.block,a.off+i*c+k,none⟩=some v)/\Rd enc P w base spare held e xs:=by
 obtain⟨fuel,x,hf⟩:=h;rcases Deep.open_slice ht hf with⟨rfl,_⟩|⟨a,len,cap,m,n,D,Pl,rfl,hb,hl,hm,hmm,rfl,hx⟩
 ·exact .inl J
 right;have hlm:len<=m:=by rw[hmm];split<;>omega
 have hcell:∀i,i<len->∃xs,xs.length=c/\(∀k,k<c->w.cell? (a.add (i*c+k))=xs[k]?)/\Rd enc P w base spare held e xs:=fun i hi=>by obtain⟨cs',h1,h2⟩:=hx i I;rw[hc]at h1;obtain⟨_,e1,e2⟩:=World.cells?_some h1;exact⟨cs',e1,fun k hk=>by rw[<-Addr.add_add];exact e2 k hk,_,_,h2⟩
 have hspot:0<len->a.spot=none:=fun h0=>by
  obtain⟨xs,hxl,hxc,_⟩:=hcell 0 h0;have h1:=hxc 0 hc0;rw[AZ I]at h1;simp only[Nat.zero_mul,CV,Addr.add,C9]at h1;unfold World.cell? at h1;split at h1
  ·split at h1
   ·cases h1
   ·rename_i hs;simpa using hs
  ·cases h1
 refine⟨a,len,cap,rfl,hl,hm,hspot,fun i hi=> ?_⟩;obtain⟨xs,hxl,hxc,hrd⟩:=hcell i hi;refine⟨xs,hxl,fun k v hk=> ?_,hrd⟩;have hkl:=(Ae.1 hk).1;have h1:=hxc k I;rw[hk]at h1;have hs:=hspot I;obtain⟨ab,ao,as_⟩:=a;simp only at hs;subst hs;rw[<-h1];congr 1
 unfold Addr.add;split
 ·rename_i h0;simp only[Addr.mk.injEq,true_and,and_true];omega
 ·simp only[Addr.mk.injEq,true_and,and_true];omega
end
theorem KP{α:Type}{p:Nat->α->Prop}:∀(n:Nat),(∀i,i<n->∃x,p i x)->∃l:List α,l.length=n/\∀i x,l[i]? =some x->p i x
 |0,_=>⟨[],rfl,fun i x h=>by simp at h⟩
 |n+1,h=>by
  obtain⟨l,hl,hp⟩:=KP n (fun i hi=>h i I);obtain⟨x,hx⟩:=h n I;refine⟨l++[x],by simp[hl],fun i y hy=> ?_⟩;by_cases hi:i<n
  ·rw[BG I]at hy;exact hp i y hy
  ·have hi':i=n:=by have:=(Ae.1 hy).1;simp at this;omega
   subst hi';rw[BF I]at hy;simp[hl]at hy;exact hy▸hx
theorem W4{b c:Nat}{L:List (List Value)}{off:Nat}(hl:∀x∈L,x.length=c)(h:∀(i:Nat) (xs:List Value),L[i]? =some xs->∀(k:Nat) (v:Value),xs[k]? =some v->w.cell? ⟨b,off+i*c+k,none⟩=some v):QC (allB w) b off L.flatten:=by
 refine Yk ?_;induction L generalizing off with
 |nil=>intro j v hj;simp at hj
 |cons x L ih=>
  intro j v hj;have hx:=hl x DI;rw[AW]at hj;by_cases hjx:j<x.length
  ·rw[BG hjx]at hj;have:=h 0 x J j v hj;simpa using this
  ·rw[BF I]at hj;have:=ih (off:=off+c) (fun y hy=>hl y (by simp[hy])) (fun i xs hi k u hk=>by
    have:=h (i+1) xs (by simpa using hi) k u hk;rw[D2,Bi]at this;rw[<-this];congr 2
    omega) (j-x.length) v hj
   rw[<-this];congr 2
   omega
theorem Iz(cs:List Value)(a k:Nat):cs.drop a=(cs.drop a).take k++cs.drop (a+k):=by rw[<-EU,CS]
end
theorem c5:Tryz.prog.cellsOf 5=1:=kR
theorem c23:Tryz.prog.cellsOf 23=32:=kR
theorem c43:Tryz.prog.cellsOf 43=1:=kR
theorem c50:Tryz.prog.cellsOf 50=6:=kR
theorem c52:Tryz.prog.cellsOf 52=7:=kR
theorem c55:Tryz.prog.cellsOf 55=11:=kR
theorem c27:Tryz.prog.cellsOf 27=36:=kR
theorem c3:Tryz.prog.cellsOf 3=1:=kR
theorem c4:Tryz.prog.cellsOf 4=1:=kR
theorem c24:Tryz.prog.cellsOf 24=1:=kR
theorem c25:Tryz.prog.cellsOf 25=1:=kR
theorem c48:Tryz.prog.cellsOf 48=1:=kR
theorem c49:Tryz.prog.cellsOf 49=1:=kR
theorem c53:Tryz.prog.cellsOf 53=1:=kR
section
variable{H:Type} {enc:TypeId×Value->H} {w:World} {base:Nat} {spare:Nat->Bool} {held:Bool}
theorem nA{cs:List Value}(h:Rd enc Tryz.prog w base spare held 53 cs):∃(bp:Option Addr) (bl bc:Nat),cs=[.slice bp bl bc]/\(bl=0\/∃bb off X,bp=some ⟨bb,off,none⟩/\bl<=bc/\X.length=bl/\BN X/\QC (allB w) bb off (bs X)):=by
 rcases Oj Tryz.underlying53 c5 Ba h with rfl|⟨a,len,cap,rfl,hl,hm,hspot,hx⟩
 ·exact⟨none,0,0,rfl,.inl J⟩
 refine⟨some a,len,cap,rfl,?_⟩;by_cases h0:len=0
 ·exact .inl h0
 right;obtain⟨l,hll,hlp⟩:=KP (p:=fun i (z:Int)=>(0<=z/\z<=255)/\w.cell? ⟨a.block,a.off+i,none⟩=some (.int .u8 z)) len (fun i hi=>by obtain⟨xs,e1,e2,e3⟩:=hx i hi;obtain⟨z,rfl,z1,z2⟩:=MI Tryz.underlying5 e3;refine⟨z,⟨z1,z2⟩,?_⟩;have:=e2 0 _ J;simpa using this)
 obtain⟨ab,ao,as_⟩:=a;have hs:as_=none:=hspot I;subst hs;refine⟨ab,ao,l,rfl,hl,hll,fun x hx=> ?_,Yk fun j v hj=> ?_⟩
 ·obtain⟨i,hi⟩:=List.getElem?_of_mem hx;exact(hlp i x hi).1
 ·rw[bs,List.getElem?_map]at hj;cases hz:l[j]? with
  |none=>rw[hz]at hj;cases hj
  |some z=>rw[hz]at hj;cases hj;exact(hlp j z hz).2
theorem rK{cs:List Value}(h:Rd enc Tryz.prog w base spare held 55 cs):∃s:Stp,cs=s.cells/\Oi s/\S5 s (allB w):=by
 have hl:=(Mc Tryz.underlying55 h).1;rw[c55]at hl;obtain⟨k,e0,k1,k2⟩:=MI Tryz.underlying48 (Gs (o:=0) Tryz.underlying55 h 0 J J J c48);have hy:=Gs (t':=52) (o:=1) Tryz.underlying55 h 1 J J J c52;have hl2:=(Mc Tryz.underlying52 hy).1;obtain⟨o,f0,o1,o2⟩:=MI Tryz.underlying49 (Gs (o:=0) Tryz.underlying52 hy 0 J J J c49);obtain⟨zs,f1,zl,zb⟩:=Yl Tryz.underlying50 Tryz.underlying43 c43 c50 (Gs (o:=1) Tryz.underlying52 hy 1 J J J c50);obtain⟨ad,e2,a1,a2⟩:=MI Tryz.underlying43 (Gs (o:=8) Tryz.underlying55 h 2 J J J c43);obtain⟨wd,e3,w1,w2⟩:=MI Tryz.underlying43 (Gs (o:=9) Tryz.underlying55 h 3 J J J c43);obtain⟨bp,bl,bc,e4,hb⟩:=nA (Gs (o:=10) Tryz.underlying55 h 4 J J J c53);rw[c52]at hl2;have hcs:cs=(cs.drop 0).take 1++((cs.drop 1).take 7++((cs.drop 8).take 1++((cs.drop 9).take 1++((cs.drop 10).take 1++cs.drop 11)))):=by rw[<-show cs.drop 10=(cs.drop 10).take 1++cs.drop 11 from Iz cs 10 1,<-show cs.drop 9=(cs.drop 9).take 1++cs.drop 10 from Iz cs 9 1,<-show cs.drop 8=(cs.drop 8).take 1++cs.drop 9 from Iz cs 8 1,<-show cs.drop 1=(cs.drop 1).take 7++cs.drop 8 from Iz cs 1 7,<-show cs.drop 0=(cs.drop 0).take 1++cs.drop 1 from Iz cs 0 1,BL]
 generalize(cs.drop 1).take 7=ys at hcs f0 f1 hl2;have hys:ys=(ys.drop 0).take 1++((ys.drop 1).take 6++ys.drop 7):=by rw[<-show ys.drop 1=(ys.drop 1).take 6++ys.drop 7 from Iz ys 1 6,<-show ys.drop 0=(ys.drop 0).take 1++ys.drop 1 from Iz ys 0 1,BL]
 rw[f0,f1,BJ I]at hys;rw[e0,e2,e3,e4,BJ I,hys]at hcs
 match zs,zl,zb with
 |[z0,z1,z2,z3,z4,z5],_,zb=>
  have b0:=zb z0 DI;have b1:=zb z1 DI;have b2:=zb z2 DI;have b3:=zb z3 DI;have b4:=zb z4 DI;have b5:=zb z5 DI;have hm:IntKind.u64.min=0/\IntKind.u64.max=18446744073709551615:=Ba;have hM:IntKind.i64.min= -9223372036854775808/\IntKind.i64.max=9223372036854775807:=Ba;rw[hm.1,hm.2]at b0 b1 b2 b3 b4 b5;rw[hm.1]at a1 w1;rw[hm.2]at a2 w2;rw[hM.1]at k1 o1;rw[hM.2]at k2 o2;refine⟨⟨k,o,fun i=>([z0,z1,z2,z3,z4,z5].getD i 0).toNat,ad.toNat,wd.toNat,bp,bl,bc⟩,?_,⟨⟨k1,k2⟩,⟨o1,o2⟩,fun i=> ?_,by dsimp only;omega,by dsimp only;omega⟩,hb⟩
  ·rw[hcs];have t:∀z:Int,0<=z->((z.toNat:Nat):Int)=z:=fun z h=>Int.toNat_of_nonneg h
   simp[Stp.cells,Stp.bv,t _ b0.1,t _ b1.1,t _ b2.1,t _ b3.1,t _ b4.1,t _ b5.1,t _ a1,t _ w1]
  ·dsimp only;by_cases hi:i<6
   ·have:i=0\/i=1\/i=2\/i=3\/i=4\/i=5:=I;rcases this with rfl|rfl|rfl|rfl|rfl|rfl<;>simp<;>omega
   ·rw[BR,List.getElem?_eq_none (by simp;omega)];simp
theorem nE{cs:List Value}(h:Rd enc Tryz.prog w base spare held 28 cs)(hs:∀(a:Addr) (len cap:Nat),cs=[.slice (some a) len cap]->a.spot=none):
 ∃(L:List Stp) (lv:Value),cs=[lv]/\Nw L lv (allB w)/\(∀s∈L,Oi s/\S5 s (allB w))/\L.length<9223372036854775808:=by
 rcases Oj Tryz.underlying28 c55 Ba h with rfl|⟨a,len,cap,rfl,hl,hm,hspot,hx⟩
 ·exact⟨[],_,rfl,.inl ⟨rfl,rfl⟩,(fun s hs=>by cases hs),Ba⟩
 obtain⟨ab,ao,as_⟩:=a;have hs0:as_=none:=hs _ _ _ J;subst hs0;obtain⟨L,tM,hLp⟩:=KP (p:=fun i (s:Stp)=>(∀(k:Nat) (v:Value),s.cells[k]? =some v->w.cell? ⟨ab,ao+i*11+k,none⟩=some v)/\Oi s/\S5 s (allB w)) len (fun i hi=>by obtain⟨xs,_,e2,e3⟩:=hx i hi;obtain⟨s,rfl,s1,s2⟩:=rK e3;exact⟨s,e2,s1,s2⟩)
 subst tM;refine⟨L,_,rfl,.inr ⟨ab,ao,cap,rfl,W4 (c:=11) (fun x hx=> ?_) (fun i xs hi k v hk=> ?_)⟩,fun s hs=> ?_,?_⟩
 ·obtain⟨s,_,rfl⟩:=A8.1 hx;rfl
 ·rw[List.getElem?_map]at hi;cases hz:L[i]? with
  |none=>rw[hz]at hi;cases hi
  |some s=>rw[hz]at hi;cases hi;exact(hLp i s hz).1 k v hk
 ·obtain⟨i,hi⟩:=List.getElem?_of_mem hs;exact(hLp i s hi).2
 ·have:maxLen<9223372036854775808:=Ba;omega
theorem nF{cs:List Value}(h:Rd enc Tryz.prog w base spare held 24 cs)(hs:∀(a:Addr) (len cap:Nat),cs=[.slice (some a) len cap]->a.spot=none):
 ∃(dp:Option Addr) (dl dc:Nat) (D:List (List Int)),cs=[.slice dp dl dc]/\tL D (.slice dp dl dc) (allB w)/\(∀x∈D,BN x)/\dl<9223372036854775808:=by
 rcases Oj Tryz.underlying24 c23 Ba h with rfl|⟨a,len,cap,rfl,hl,hm,hspot,hx⟩
 ·exact⟨_,_,_,[],rfl,⟨(fun x hx=>by cases hx),.inl ⟨rfl,rfl⟩⟩,(fun x hx=>by cases hx),Ba⟩
 obtain⟨ab,ao,as_⟩:=a;have hs0:as_=none:=hs _ _ _ J;subst hs0;obtain⟨D,hDl,hDp⟩:=KP (p:=fun i (x:List Int)=>(∀(k:Nat) (v:Value),(bs x)[k]? =some v->w.cell? ⟨ab,ao+i*32+k,none⟩=some v)/\x.length=32/\BN x) len (fun i hi=>by obtain⟨xs,_,e2,e3⟩:=hx i hi;obtain⟨zs,rfl,z1,z2⟩:=Yl Tryz.underlying23 Tryz.underlying5 c5 c23 e3;exact⟨zs,e2,z1,fun z hz=>z2 z hz⟩)
 subst hDl;have hall:∀x∈D,x.length=32/\BN x:=fun x hx=>by obtain⟨i,hi⟩:=List.getElem?_of_mem hx;exact(hDp i x hi).2
 have hfl:(D.map bs).flatten=bs D.flatten:=by simp only[bs,List.map_flatten];rfl
 refine⟨_,_,_,D,rfl,⟨fun x hx=>(hall x hx).1,.inr ⟨ab,ao,cap,rfl,?_⟩⟩,fun x hx=>(hall x hx).2,?_⟩
 ·rw[<-hfl];refine W4 (c:=32) (fun x hx=> ?_) (fun i xs hi k v hk=> ?_)
  ·obtain⟨y,hy,rfl⟩:=A8.1 hx;rw[Aa,(hall y hy).1]
  ·rw[List.getElem?_map]at hi;cases hz:D[i]? with
   |none=>rw[hz]at hi;cases hi
   |some s=>rw[hz]at hi;cases hi;exact(hDp i s hz).1 k v hk
 ·have:maxLen<9223372036854775808:=Ba;omega
theorem yp{cs:List Value}(h:Rd enc Tryz.prog w base spare held 25 cs)(hs:∀(a:Addr) (len cap:Nat),cs=[.slice (some a) len cap]->a.spot=none):
 ∃(ep:Option Addr) (el ec:Nat),cs=[.slice ep el ec]/\(el<=100->dW (.slice ep el ec) (allB w))/\el<9223372036854775808:=by
 rcases Oj Tryz.underlying25 c43 Ba h with rfl|⟨a,len,cap,rfl,hl,hm,hspot,hx⟩
 ·exact⟨_,_,_,rfl,fun _=>.inl J,Ba⟩
 obtain⟨ab,ao,as_⟩:=a;have hs0:as_=none:=hs _ _ _ J;subst hs0;obtain⟨l,hll,hlp⟩:=KP (p:=fun i (v:Value)=>(∃x:Nat,v=.int .u64 (x:Int)/\x<=18446744073709551615)/\w.cell? ⟨ab,ao+i,none⟩=some v) len (fun i hi=>by obtain⟨xs,_,e2,e3⟩:=hx i hi;obtain⟨z,rfl,z1,z2⟩:=MI Tryz.underlying43 e3;have hm:IntKind.u64.min=0/\IntKind.u64.max=18446744073709551615:=Ba;rw[hm.1]at z1;rw[hm.2]at z2;refine⟨_,⟨z.toNat,by rw[Int.toNat_of_nonneg z1],I⟩,?_⟩;have:=e2 0 _ J;simpa using this)
 refine⟨_,_,_,rfl,fun qt=>.inr ⟨ab,ao,len,cap,l,rfl,qt,hll,Yk fun j v hj=>(hlp j v hj).2,fun u hu=> ?_⟩,?_⟩
 ·obtain⟨i,hi⟩:=List.getElem?_of_mem hu;exact(hlp i u hi).1
 ·have:maxLen<9223372036854775808:=Ba;omega
theorem nH{cs:List Value}(h:Rd enc Tryz.prog w base spare held 27 cs)(hs:∀(i:Nat),i=34\/i=35->∀(a:Addr) (len cap:Nat),cs[i]? =some (.slice (some a) len cap)->a.spot=none):
 ∃(n0:Int) (ib:Bool) (M:List Int) (dp ep:Option Addr) (dl dc el ec:Nat) (D:List (List Int)),cs=setW n0 ib M (.slice dp dl dc) (.slice ep el ec)/\(-9223372036854775808<=n0/\n0<=9223372036854775807)/\M.length=32/\BN M/\
  tL D (.slice dp dl dc) (allB w)/\(∀x∈D,BN x)/\dl<9223372036854775808/\(el<=100->dW (.slice ep el ec) (allB w))/\el<9223372036854775808:=by
 have hl:=(Mc Tryz.underlying27 h).1;rw[c27]at hl;have hat:∀(i:Nat) (v:Value),(cs.drop i).take 1=[v]->cs[i]? =some v:=fun i v e=>by have:=congrArg (fun l=>l[0]?) e;simpa[Bf,CG]using this
 obtain⟨k,e0,k1,k2⟩:=MI Tryz.underlying3 (Gs (o:=0) Tryz.underlying27 h 0 J J J c3);obtain⟨b,e1⟩:=rJ Tryz.underlying4 (Gs (o:=1) Tryz.underlying27 h 1 J J J c4);obtain⟨M,e2,ml,mb⟩:=Yl Tryz.underlying23 Tryz.underlying5 c5 c23 (Gs (o:=2) Tryz.underlying27 h 2 J J J c23);obtain⟨dp,dl,dc,D,e3,d1,d2,d3⟩:=nF (Gs (o:=34) Tryz.underlying27 h 3 J J J c24) (fun a len cap e=>by exact hs 34 (.inl J) a len cap (hat 34 _ e))
 obtain⟨ep,el,ec,e4,n1,n2⟩:=yp (Gs (o:=35) Tryz.underlying27 h 4 J J J c25) (fun a len cap e=>by exact hs 35 (.inr J) a len cap (hat 35 _ e))
 have hM:IntKind.i64.min= -9223372036854775808/\IntKind.i64.max=9223372036854775807:=Ba;rw[hM.1]at k1;rw[hM.2]at k2;have hcs:cs=(cs.drop 0).take 1++((cs.drop 1).take 1++((cs.drop 2).take 32++((cs.drop 34).take 1++((cs.drop 35).take 1++cs.drop 36)))):=by rw[<-show cs.drop 35=(cs.drop 35).take 1++cs.drop 36 from Iz cs 35 1,<-show cs.drop 34=(cs.drop 34).take 1++cs.drop 35 from Iz cs 34 1,<-show cs.drop 2=(cs.drop 2).take 32++cs.drop 34 from Iz cs 2 32,<-show cs.drop 1=(cs.drop 1).take 1++cs.drop 2 from Iz cs 1 1,<-show cs.drop 0=(cs.drop 0).take 1++cs.drop 1 from Iz cs 0 1,BL]
 rw[e0,e1,e2,e3,e4,BJ I]at hcs;refine⟨k,b,M,dp,ep,dl,dc,el,ec,D,?_,⟨k1,k2⟩,ml,fun x hx=>mb x hx,d1,d2,d3,n1,n2⟩;rw[hcs];simp[setW,bs]
end
end
end Go.Proofs.YtfekkjbdcdnhlaaGreatDoor.Sep
