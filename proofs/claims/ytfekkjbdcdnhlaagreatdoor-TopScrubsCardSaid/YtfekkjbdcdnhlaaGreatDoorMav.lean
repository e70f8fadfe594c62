/- Lemmas for TopScrubs. No condition but those that each states. -/
import Derived.Lib.Bytealg
import Derived.Laws.Strings
import Derived.Test.YtfekkjbdcdnhlaaGreatDoorMat
import Derived.Test.YtfekkjbdcdnhlaaGreatDoorMau
set_option linter.all false
set_option maxHeartbeats 8000000
set_option maxRecDepth 100000
namespace Go.Proofs.YtfekkjbdcdnhlaaGreatDoor.Sep
noncomputable section
section
variable{P:Program} {n:Nat} {K:Option A2} {Q:EX} {fr:Fr} {S:A2} {rest:List FO}
variable{i ty:Nat} {pos:String} {af:Array Edge} {gd g:Option (Nat×Bool)}
variable{f:Nat}
theorem DL.ru{d:Nat}{ax:Array Operand}{ts:Array TypeId}{vals:List Value}{v:Value}(hg:lg fr g=some true)(hn:Nat.blt d n=true)(ha:FP fr ax.toList=some vals)(hx:∀w,(callFunc f vals.toArray).run P w=.ok (.value v) w)(hK:Ge K S)(h:DL P n K Q rest ((d,v)::fr) S):
 DL P n K Q (⟨i,⟨some d,.call ⟨.value (.func f),ax,ts⟩,ty,pos,af,gd⟩,g⟩::rest) fr S:=by
 refine .eff (fun u S'=>u=v/\S'=S) (fun _ _=>False) (.inl J) hg (fun e he=>by simp only at he;cases he;simpa using hn) ?_ (fun _ _ h=>h.elim) (by rintro u S' ⟨rfl,rfl⟩;exact hK) (by rintro u S' ⟨rfl,rfl⟩;exact h);intro A V a w hk hs;have he:=EV hk ha;have hargs:ax.map a.eval=vals.toArray:=Bl.1 (by simpa using he);have hrun:(execOp a.eval (⟨some d,.call ⟨.value (.func f),ax,ts⟩,ty,pos,af,gd⟩:Oper)).run P w=.ok (.value v) w:=by have hf:a.eval (.func f)=.func (.func f) #[] #[]:=rfl;simp only[execOp,resolve,hf,hargs,Deferred.ofValue,invoke,Ag,BA,Ad];have:=hx w;simpa using this
 rw[Fq,hrun];exact⟨S,hs,rfl,rfl⟩
end
theorem aCS(s:ByteArray)(c:Int)(w:World):(callFunc 320 [Value.string s,Value.int .u8 c].toArray).run Tryz.prog w=.ok (.value (.int .i64 (Lib.indexByte s.data.toList c.toNat.toUInt8))) w:=by rw[run_callFunc_extern Tryz.func320 kR kR kR (e:=Extern.BytealgIndexByte.indexByte) kR,Lib.run_indexByteString];rfl
variable{s:ByteArray}
theorem f258{c:Int}:Fn Tryz.prog 258 [.string s,.int .u8 c] [] (E4 (.int .i64 (Lib.indexByte s.data.toList c.toNat.toUInt8)) []):=by refine Fn.of Tryz.func258 J J [_] J ?_;refine W ?_;refine DL.ru J J J (aCS s c) kO ?_;exact W trivial
theorem f173{c:UInt8}:Fn Tryz.prog 173 [.string s,.string ⟨#[c]⟩] [] (E4 (.int .i64 (Lib.indexByte s.data.toList c)) []):=by
 refine Fn.of Tryz.func173 J J [_] J ?_;refine W ?_;have e1:((⟨#[c]⟩:ByteArray).toList==s.toList)=(([c]:List UInt8)==s.data.toList):=by rw[A5,A5]
 rw[e1];by_cases h:([c]:List UInt8)=s.data.toList
 ·rw[show(([c]:List UInt8)==s.data.toList)=true by simpa using h];have e2:Lib.indexByte s.data.toList c=0:=by rw[<-h];simp[Lib.indexByte]
  rw[e2];exact W trivial
 ·rw[show(([c]:List UInt8)==s.data.toList)=false by simpa using h];refine W ?_;refine DL.val (v:=.int .u8 (c.toNat:Int)) J J J J (fun A R a w hk hs=> ?_) ?_
  ·have e2:a.eval (.tmp 28)=_:=hk.eval J;have e3:a.eval (.const (.int .i64 0))=.int .i64 0:=rfl;simp only[execOp,e2,e3,Ag];rw[run_index_string _ _ _ _ _ Tryz.underlying9];simp;rfl
  skip
  refine DL.BS J J J .nil (f258 (s:=s) (c:=(c.toNat:Int))) kR .nil kO ?_;rw[show((c.toNat:Int)).toNat.toUInt8=c by simp];exact W trivial
theorem f105{c:UInt8}:Fn Tryz.prog 105 [.string s,.string ⟨#[c]⟩] [] (E4 (.int .i64 (Lib.indexByte s.data.toList c)) []):=by refine Fn.of Tryz.func105 J J [_] J ?_;refine W ?_;refine DL.BS J J J .nil (f173 (s:=s) (c:=c)) kR .nil kO ?_;exact W trivial
theorem f110{c:UInt8}:Fn Tryz.prog 110 [.string s,.string ⟨#[c]⟩] [] (E4 (.bool (decide (0<=Lib.indexByte s.data.toList c))) []):=by refine Fn.of Tryz.func110 J J [_] J ?_;refine W ?_;refine DL.BS J J J .nil (f105 (s:=s) (c:=c)) kR .nil kO ?_;exact W trivial
variable{a:ByteArray}
theorem f109{c:UInt8}{n:Int}{q:Nat}{b:ByteArray}:Fn Tryz.prog 109 [.string ⟨#[c]⟩,.int .i64 n,Au q] [A7 q [.string a,.string b] 165] (Dv (ι:=Bool) (fun r=>r=true->0<=n/\n<=7) (fun r=>.bool r) (fun _=>[A7 q [.string a,.string b] 165])):=by
 refine Fn.of Tryz.func109 J J [_] J ?_;refine W ?_;by_cases h0:n=0
 ·rw[show decide (n=0)=true by simp[h0]];refine W ?_;exact BD true (fun _=>I) (DC (RV.tmp J)) pK
 rw[show decide (n=0)=false by simp[h0]];refine W ?_;by_cases h1:0<n
 ·rw[show decide (0<n)=true by simp[h1]];refine W ?_;by_cases h2:n<8
  ·rw[show decide (n<8)=true by simp[h2]];refine W ?_;refine DL.BS J J J pK (f110) kR aP kO ?_;refine W ?_;exact BD _ (fun _=>I) (DC (RV.tmp J)) pK
  ·rw[show decide (n<8)=false by simp[h2]];refine W ?_;exact BD false (fun h=>by cases h) (DC (RV.tmp rfl)) pK
 ·rw[show decide (0<n)=false by simp[h1]];refine W ?_;exact BD false (fun h=>by cases h) (DC (RV.tmp rfl)) pK
theorem f60{op dd aa bb im:Int}{b0:ByteArray}:Fn Tryz.prog 60 [.agg #[.int .i64 op,.int .i64 dd,.int .i64 aa,.int .i64 bb,.int .i64 im],Value.agg #[.string a,.string b0]] [] (Dv (ι:=Bool) (fun r=>r=true->(0<=dd/\dd<=7)/\(0<=aa/\aa<=7)/\(0<=bb/\bb<=7)) (fun r=>.bool r) (fun _=>[])):=by
 refine Fn.of Tryz.func60 J J [_] J ?_
 (refine W ?_;intro b;refine W ?_;intro b;refine W ?_)
 obtain⟨q3,hq3⟩:∃q3,q3=b:=⟨_,rfl⟩
 subst hq3;generalize decide (IntKind.i64.wrap (IntKind.i32.wrap im)=im)=r1;cases r1 with
 |true=>
  refine W ?_;generalize decide (0<=im)=r2;cases r2 with
  |false=>
   refine W ?_;generalize(!(a.toList==(⟨#[]⟩:ByteArray).toList))=r3;cases r3 with
   |false=>refine W ?_;exact BD false (fun h=>by cases h) (DC (RV.tmp rfl)) .nil
   |true=>
    refine W ?_;refine DL.IE J J J J (F:=[A7 q3 [.string a,.string b0] 165]) pK f109 kR (fun _=>aP) (fun _=>kO) ?_;intro r4 h4;cases r4 with
    |false=>refine W ?_;exact BD false (fun h=>by cases h) (DC (RV.tmp rfl)) .nil
    |true=>
     refine W ?_;refine DL.IE J J J J (F:=[A7 q3 [.string a,.string b0] 165]) pK f109 kR (fun _=>aP) (fun _=>kO) ?_;intro r5 h5;cases r5 with
     |false=>refine W ?_;exact BD false (fun h=>by cases h) (DC (RV.tmp rfl)) .nil
     |true=>
      refine W ?_;refine DL.IE J J J J (F:=[A7 q3 [.string a,.string b0] 165]) pK f109 kR (fun _=>aP) (fun _=>kO) ?_;intro r6 h6;cases r6 with
      |false=>refine W ?_;exact BD false (fun h=>by cases h) (DC (RV.tmp rfl)) .nil
      |true=>
       refine W ?_;generalize decide (¬op=16)=r7;cases r7 with
       |false=>refine W ?_;exact BD false (fun h=>by cases h) (DC (RV.tmp rfl)) .nil
       |true=>
        refine W ?_;generalize decide (im=0)=r8;cases r8 with
        |true=>refine W ?_;exact BD _ (fun _=>⟨h4 J,h5 J,h6 J⟩) (DC (RV.tmp J)) .nil
        |false=>refine W ?_;refine DL.BS J J J pK (f110) kR aP kO ?_;refine W ?_;exact BD _ (fun _=>⟨h4 J,h5 J,h6 J⟩) (DC (RV.tmp J)) .nil
  |true=>
   refine W ?_;generalize(!(a.toList==(⟨#[]⟩:ByteArray).toList))=r3;cases r3 with
   |false=>refine W ?_;exact BD false (fun h=>by cases h) (DC (RV.tmp rfl)) .nil
   |true=>
    refine W ?_;refine DL.IE J J J J (F:=[A7 q3 [.string a,.string b0] 165]) pK f109 kR (fun _=>aP) (fun _=>kO) ?_;intro r4 h4;cases r4 with
    |false=>refine W ?_;exact BD false (fun h=>by cases h) (DC (RV.tmp rfl)) .nil
    |true=>
     refine W ?_;refine DL.IE J J J J (F:=[A7 q3 [.string a,.string b0] 165]) pK f109 kR (fun _=>aP) (fun _=>kO) ?_;intro r5 h5;cases r5 with
     |false=>refine W ?_;exact BD false (fun h=>by cases h) (DC (RV.tmp rfl)) .nil
     |true=>
      refine W ?_;refine DL.IE J J J J (F:=[A7 q3 [.string a,.string b0] 165]) pK f109 kR (fun _=>aP) (fun _=>kO) ?_;intro r6 h6;cases r6 with
      |false=>refine W ?_;exact BD false (fun h=>by cases h) (DC (RV.tmp rfl)) .nil
      |true=>
       refine W ?_;generalize decide (im=0)=r8;cases r8 with
       |true=>refine W ?_;exact BD _ (fun _=>⟨h4 J,h5 J,h6 J⟩) (DC (RV.tmp J)) .nil
       |false=>refine W ?_;refine DL.BS J J J pK (f110) kR aP kO ?_;refine W ?_;exact BD _ (fun _=>⟨h4 J,h5 J,h6 J⟩) (DC (RV.tmp J)) .nil
 |false=>
  refine W ?_;generalize(!(a.toList==(⟨#[]⟩:ByteArray).toList))=r3;cases r3 with
  |false=>refine W ?_;exact BD false (fun h=>by cases h) (DC (RV.tmp rfl)) .nil
  |true=>
   refine W ?_;refine DL.IE J J J J (F:=[A7 q3 [.string a,.string b0] 165]) pK f109 kR (fun _=>aP) (fun _=>kO) ?_;intro r4 h4;cases r4 with
   |false=>refine W ?_;exact BD false (fun h=>by cases h) (DC (RV.tmp rfl)) .nil
   |true=>
    refine W ?_;refine DL.IE J J J J (F:=[A7 q3 [.string a,.string b0] 165]) pK f109 kR (fun _=>aP) (fun _=>kO) ?_;intro r5 h5;cases r5 with
    |false=>refine W ?_;exact BD false (fun h=>by cases h) (DC (RV.tmp rfl)) .nil
    |true=>
     refine W ?_;refine DL.IE J J J J (F:=[A7 q3 [.string a,.string b0] 165]) pK f109 kR (fun _=>aP) (fun _=>kO) ?_;intro r6 h6;cases r6 with
     |false=>refine W ?_;exact BD false (fun h=>by cases h) (DC (RV.tmp rfl)) .nil
     |true=>refine W ?_;exact BD false (fun h=>by cases h) (DC (RV.tmp rfl)) .nil
def X6(N δ:Nat)(a:AV):R1->Bool
 | .val v s=>gB v a&&(match s.hp.get 2 with|some (.res 2 [x])=>Nat.ble x δ|_=>false)&&(match s.hp.get 0 with|some (.res 0 [])=>true|_=>false)&&s.md.all (fun k=>Nat.ble N k||Nat.beq k 2||Nat.beq k 0)
 | .Eu _ _=>false
def Uy(E:GI)(ih:Ih)(f:Nat)(B:List AB)(DK:List AV)(a:AV)(δ:Nat):Bool:=nL B.length a&&Nat.blt 2 B.length&&Nat.ble B.length 16777216&&(match B7 E ih f DK (EC B)with|some rs=>rs.all (X6 B.length δ a)|none=>false)
variable{ih:Ih}{f:Nat}
theorem pG{P:Program}{RS:EA}{E:GI}(hE:En P RS E)(hih:GK P RS ih){B:List AB}{DK:List AV}{a:AV}{δ:Nat}(h:Uy E ih f B DK a δ=true)
 {ρ:Nm} {S:A2} (hρ:ρ.length=B.length) (hS:S.length=B.length) (hB:∀(k:Nat) (hk:k<B.length) (hk':k<S.length),Da RS ρ k B[k] S[k]) {vs:List Value} (hv:Bt ρ DK vs) {b2 c2 b0 c0:Nat} (h2:ρ[2]? =some (b2,c2)) (h0':ρ[0]? =some (b0,c0)):
 Fn P f vs S (fun e S'=>∃v c' d' x,EM ρ a v/\e=.returned v/\S'=(S.set 2 c').set 0 d'/\x<=δ/\RS 2 [x] b2 c'/\RS 0 [] b0 d'):=by
 unfold Uy at h;simp only[AI]at h;obtain⟨⟨⟨hnm,h2N⟩,J5⟩,hrun⟩:=h;have J5:B.length<=2^24:=AL J5;have h2N:2<B.length:=by simpa using h2N
 split at hrun
 ·rename_i rs hcall;rw[AY]at hrun;let N:=B.length
  let C0:Nat->List CH:=fun k=>S.getD k []
  have hC0:(List.range N).map C0=S:=by
   refine List.ext_getElem (by simp[N,hS]) fun i h1 h3=> ?_
   simp[C0,BR,AZ h3]
  let p0:Pt:=⟨ρ,EC B,[],S,List.range N,C0⟩
  have hget:∀k,(Gf 0 B .e).get k=if k<N then B[k]? else none:=fun k=>by rw[HL I];simp[C7.FC,N]
  have hp0:p0.good RS:=by
   refine⟨fun s a hs=>by simp[p0,EC,C7.FC]at hs,⟨hρ,Bc,fun k hk=>Ak.1 hk,?_,fun k ab hk=> ?_⟩,J5⟩
   ·show S.Perm ((List.range N).map C0);rw[hC0]
   ·have hk':(Gf 0 B .e).get k=some ab:=hk;rw[hget]at hk';by_cases hkN:k<N
    ·rw[BE hkN]at hk';obtain⟨_,e⟩:=Ae.1 hk';subst e;have gZ:k<S.length:=by rw[hS];exact hkN
     refine⟨Ak.2 hkN,?_⟩;have:=hB k hkN gZ;show Da RS ρ k _ (C0 k);rw[show C0 k=S[k] by simp[C0,BR,AZ gZ]];exact this
    ·rw[Ah hkN]at hk';cases hk'
  intro A U w hs;refine((FD hE hih hp0 hcall).2 vs hv A U w hs).mono ?_;rintro e w' ⟨hw,S',hs1,hret⟩;refine⟨hw,?_⟩;rcases hret with⟨a1,s,hm,q,v,e1,_,e3,hto,hgood,hcon,rfl⟩|⟨a1,s,hm,_⟩
  ·have hr:=hrun _ hm;simp only[X6,AI]at hr;obtain⟨⟨⟨hle,hx⟩,hx0⟩,hmd⟩:=hr;rw[AY]at hmd;split at hx
   ·rename_i x hg2;have hx:x<=δ:=AL hx;obtain⟨hl2,hc2⟩:=hgood.mem (k:=2) (ab:=.res 2 [x]) (by rw[e1];exact hg2);split at hx0;rotate_left
    ·cases hx0
    rename_i hg0;obtain⟨hl0,hc0⟩:=hgood.mem (k:=0) (ab:=.res 0 []) (by rw[e1];exact hg0);obtain⟨σ,y9⟩:=hto.ext;have hat:q.ρ[2]? =some (b2,c2):=by rw[y9];exact Dz σ h2
    have aCZ:q.ρ[0]? =some (b0,c0):=by rw[y9];exact Dz σ h0'
    have V8:∀k,k<N->k≠2->k≠0->k∈q.live/\q.C k=C0 k:=fun k hk hk2 hk0=>hto.kept k (Ak.2 hk) (fun hm2=>by
     rw[e1]at hm2;have:=hmd k hm2;simp only[BI]at this;rcases this with(h|h)|h
     ·have:=AL h;omega
     ·exact hk2 (AK h)
     ·exact hk0 (AK h))
    have hin:∀k,k<N->k∈q.live:=fun k hk=>by
     by_cases e:k=2
     ·subst e;exact hl2
     ·by_cases e':k=0
      ·subst e';exact hl0
      ·exact(V8 k hk e e').1
    let rest:=q.live.filter (fun k=> !decide (k<N))
    have hperm:q.live.Perm (List.range N++rest):=by
     have e1:q.live.Perm (q.live.filter (fun k=>decide (k<N))++rest):=(CO _ _).symm;refine e1.trans (Bm _ ?_);refine(B8 (hgood.H.nd.filter _) Bc).2 fun k=> ?_
     simp only[Bh,Ak,decide_eq_true_eq];exact⟨fun hk=>hk.2,fun hk=>⟨hin k hk,hk⟩⟩
    have vT:q.S.Perm (rest.map q.C++(List.range N).map q.C):=by refine hgood.H.perm.trans ?_;have:=hperm.map q.C;rw[Ai]at this;exact this.trans CC
    have hset:(List.range N).map q.C=(S.set 2 (q.C 2)).set 0 (q.C 0):=by
     refine List.ext_getElem (by simp[N,hS]) fun i h1 h3=> ?_
     simp only[D3,List.length_range]at h1;simp only[List.getElem_map,List.getElem_range,List.getElem_set];by_cases e':i=0
     ·subst e';simp
     rw[Ah (fun h=>e' h.symm)];by_cases e:i=2
     ·subst e;simp
     ·rw[Ah (fun h=>e h.symm),(V8 i h1 e e').2];have hiS:i<S.length:=by rw[hS];exact h1
      simp[C0,BR,AZ hiS]
    subst e3;cases hc2 with| @res _ b _ _ _ E8 hr=>
    rw[hat]at E8;cases E8;cases hc0 with| @res _ b _ _ _ sY hr0=>
    rw[aCZ]at sY;cases sY;have I5:SZ N q.ρ ρ:=fun n hn=>by rw[y9];show(ρ++σ)[n]? =_;rw[BG (by rw[hρ];exact hn)]
    refine⟨(S.set 2 (q.C 2)).set 0 (q.C 0),?_,v,q.C 2,q.C 0,x,JU I5 hnm (Kz hcon hle),rfl,rfl,hx,hr,hr0⟩;rw[<-hset];have h5:=hs1.perm (vT.append_right U);rw[AU]at h5;exact h5.drops
   ·cases hx
  ·have hr:=hrun _ hm;simp[X6]at hr
 ·cases hrun
def Zn(E:GI)(ih:Ih)(n:Nat)(An:List Oper)(s:St):List (List Nat)->Option (Ej×List Nat×List Nat)
 |[]=>some ([],[],[])
 |o::r=>match LY E ih n (E2 An o) {s with md:=[]}with
  |some (x,L,M)=>match Zn E ih n An s r with
   |some (y,L',M')=>some (x++y,L++L',M++M')
   |none=>none
  |none=>none
def xi(E:GI)(ih:Ih)(n:Nat)(An:List Oper)(E6:List (List Nat))(pre post:List Nat)(s:St):Option Ej:=
 bif UJ An.toArray E6 pre post&&FT An.toArray&&HO E.zt n An.toArray&&XO An.toArray pre post then
  (match Zn E ih n An s E6 with
  |some (o,L,M)=>bif L.all (fun k=>Nat.blt k s.nx&& !(Gu k M))&&o.all IV then
   (match Hj o (fun s'=>match LY E ih n (E2 An post) {s' with md:=[]}with
    |some (o',[],_)=>some (o'.map fun x=>(x.1,{x.2 with md:=x.2.md++s'.md}))
    |_=>none)with
   |some o2=>some (o2.map fun x=>(x.1,{x.2 with md:=x.2.md++s.md}))
   |none=>none)else none
  |none=>none)else none
theorem Wn{E:GI}{ih:Ih}{n:Nat}{An:List Oper}{s:St}:∀{E6:List (List Nat)} {x:Ej} {L M:List Nat},Zn E ih n An s E6=some (x,L,M)->∀o∈E6,∃x' L' M',LY E ih n (E2 An o) {s with md:=[]}=some (x',L',M')/\(∀y∈x',y∈x)/\(∀k∈L',k∈L)/\(∀k∈M',k∈M)
 |[],_,_,_,_,o,ho=>by cases ho
 |a::r,x,L,M,h,o,ho=>by
  simp only[Zn]at h;split at h
  ·rename_i x1 L1 M1 h1;split at h
   ·rename_i x2 L2 M2 h2;simp only[AH,Af]at h;obtain⟨rfl,rfl,rfl⟩:=h;rcases Ab.1 ho with rfl|ho
    ·exact⟨x1,L1,M1,h1,fun y hy=>A3 _ hy,fun y hy=>A3 _ hy,fun y hy=>A3 _ hy⟩
    ·obtain⟨x',L',M',g1,g2,g3,g4⟩:=Wn h2 o ho;exact⟨x',L',M',g1,fun y hy=>BK _ (g2 y hy),fun y hy=>BK _ (g3 y hy),fun y hy=>BK _ (g4 y hy)⟩
   ·cases h
  ·cases h
section
variable{P:Program} {RS:EA} {E:GI} {n:Nat}
theorem qJ(hE:En P RS E)(hih:GK P RS ih){id:Nat}{An:List Oper}{E6:List (List Nat)}{pre post:List Nat}{st:St}{outs:Ej}(h:xi E ih n An E6 pre post st=some outs):Snd P RS n (.region id An.toArray true) st outs:=by
 intro p hst hp Q ES;subst hst;unfold xi at h;cases hc:UJ An.toArray E6 pre post&&FT An.toArray&&HO E.zt n An.toArray&&XO An.toArray pre post<;>rw[hc]at h<;>simp only[AN,AO,reduceCtorEq]at h;split at h
 ·rename_i o L M hr;cases hk:L.all (fun k=>Nat.blt k p.st.nx&& !(Gu k M))&&o.all IV<;>rw[hk]at h<;>simp only[AN,AO,reduceCtorEq]at h;split at h
  ·rename_i o2 hb2;simp only[AH]at h;subst h;simp only[AI]at hk;obtain⟨hk,hnp⟩:=hk;rw[AY]at hk hnp;let Lf:=M7 (L.filter (fun k=>decide (k∈p.live)))
   have W8:∀k,k∈Lf↔k∈L/\k∈p.live:=fun k=>by simp[Lf,JS]
   have hkk:∀k∈L,k<p.st.nx/\k∉M:=fun k Xj=>by have:=hk k Xj;simp only[AI,Bo]at this;refine⟨by simpa using this.1,fun hm=> ?_⟩;rw[FZ.2 hm]at this;simp at this
   let p0:Pt:={p with st:={p.st with md:=[]}}
   have hp0:p0.good RS:=⟨hp.F,hp.H,hp.lt⟩
   have hst:IM (some (Lf.map p.C)) Lf p.C p.st.nx p.live p0:=.inr ⟨rfl,Gl,Ao _,fun k hk _=>hk,fun k hk=>⟨((W8 k).1 hk).2,rfl⟩⟩;obtain⟨U,hperm⟩:=hst.yz hp0;have hpk:∀(A B:A2),DV (A++B) A B:=fun A B=>by
    induction A with
    |nil=>exact .nil
    |cons c A ih=>exact .cons .here ih
   have hfin:∀x∈o2,∀q:Pt,q.st=x.2->p0.to q->q.good RS->Fin x.1 q Q:=by intro x hx q e1 e2 e3;have:=ES _ (EH hx) {q with st:={q.st with md:=q.st.md++p.st.md}} (by rw[<-e1]) ⟨e2.ext,fun k hk hn=>e2.kept k hk (fun hm=>hn (A3 _ hm)),e2.old,e2.nx,fun k hk=>BK _ hk⟩ ⟨e3.F,e3.H,e3.lt⟩;obtain⟨e,s⟩:=x;cases e<;>exact this
   refine CW.perm (S:=Lf.map p.C++U) ?_ hperm.symm;refine CW.dF (zero:=E.zt) E6 pre post (Lf.map p.C) [] hE.mixed hE.zt hc (hpk _ _) J fun od hod=>DL.congr (S:=p.S) ?_ (Eo.refl _) hperm
   obtain⟨o',L',M',hr',ho',hL',hM'⟩:=Wn hr od hod;refine I4 (K:=some (Lf.map p.C)) (Lf:=Lf) (C0:=p.C) (SJ:=p.st.nx) (live0:=p.live) hE hih (p:=p0) hr' hp0 hst (fun k hk=>.inr ⟨(hkk k (hL' k hk)).1,fun hl=>(W8 k).2 ⟨hL' k hk,hl⟩⟩) (fun k hk=>.inr fun hm=>(hkk k ((W8 k).1 hm).1).2 (hM' k hk)) ?_;intro x hx q e1 e2 e3;have hm:=Kx hb2 x (ho' x hx);have V0:=hnp x (ho' x hx);obtain⟨e,s⟩:=x;cases e with
   |nor=>
    obtain⟨mm,h1,h2⟩:=hm;simp only at h1 e1;split at h1
    ·rename_i o'' M'' aBM;simp only[AH]at h1;subst h1;rw[<-e1]at aBM;let q0:Pt:={q with st:={q.st with md:=[]}}
     have hq0:q0.good RS:=⟨e3.F,e3.H,e3.lt⟩
     have hst2:IM (some (([]:List Nat).map q.C)) [] q.C q.st.nx q.live q0:=.inr ⟨rfl,Do,Ao _,fun k hk _=>hk,fun k hk=>by cases hk⟩;have hd:=I4 (K:=some (([]:List Nat).map q.C)) (Lf:=[]) (C0:=q.C) (SJ:=q.st.nx) (live0:=q.live) hE hih (p:=q0) aBM hq0 hst2 (fun k hk=>by cases hk) (fun k hk=>.inr fun hm=>by cases hm) (fun y hy q' e4 e5 e6=>by have:=hfin _ (h2 _ (EH hy)) {q' with st:={q'.st with md:=q'.st.md++q.st.md}} (by rw[<-e4,<-e1]) (e2.trans ⟨e5.ext,fun k hk hn=>e5.kept k hk (fun hm=>hn (A3 _ hm)),e5.old,e5.nx,fun k hk=>BK _ hk⟩) ⟨e6.F,e6.H,e6.lt⟩;obtain⟨ee,ss⟩:=y;cases ee<;>exact this)
     exact Fe ⟨_,EI _⟩ hd
    ·cases h1
   |ret=>simp[IV]at V0
   |ex id=>simp[IV]at V0
   |Eu v=>intro u hu;exact hfin _ hm q e1 e2 e3 u hu
  ·cases h
 ·cases h
def hkO(E:GI)(ih:Ih)(sp:Nat->Nat->Option (List (List Nat)×List Nat×List Nat)):Hk:=fun f n c st=>match c with
 | .region id An true=>match sp f id with
  |some (E6,pre,post)=>xi E ih n An.toList E6 pre post st
  |none=>none
 |_=>none
theorem lZ(hE:En P RS E)(hih:GK P RS ih){sp:Nat->Nat->Option (List (List Nat)×List Nat×List Nat)}:GK P RS (hkO E ih sp):=by
 intro f n c st outs h;unfold hkO at h;split at h
 ·rename_i id An;split at h
  ·have:=qJ (id:=id) hE hih h;simpa using this
  ·cases h
 ·cases h
end
end
end Go.Proofs.YtfekkjbdcdnhlaaGreatDoor.Sep
