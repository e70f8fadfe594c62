/- Lemmas for TopScrubs. No condition but those that each states. -/
import Derived.LoopN
import Derived.Scope
import Derived.Test.YtfekkjbdcdnhlaaGreatDoorMak
set_option linter.all false
set_option maxHeartbeats 8000000
set_option maxRecDepth 100000
namespace Go.Proofs.YtfekkjbdcdnhlaaGreatDoor.Sep
noncomputable section
def RA(P:Program)(RS:EA)(n:Nat)(K:Option A2)(Q:EX)(rest:List FO)(dst:Option Nat)(p:Pt)(rs:List R1):Prop:=∀r∈rs,match r with
 | .val a s=>∀q:Pt,q.st=s->q.fr=p.fr->p.to q->q.good RS->∀v,EM q.ρ a v->Ge K q.S/\DL P n K Q rest (Sep.Dc dst v p.fr) q.S
 | .Eu a s=>∀q:Pt,q.st=s->q.fr=p.fr->p.to q->q.good RS->∀v,EM q.ρ a v->Q.Eu [{v:=v,recovered:=false}] q.S
variable{b t:Nat}{v:Value}
theorem Y3:A7 b v.cells.toList t=[(b,.cells v.cells t (0,0))]:=by simp[A7]
section
variable{P:Program} {RS:EA} {E:GI} {n:Nat} {K:Option A2} {Q:EX} {rest:List FO}
variable{i ty:Nat} {pos:String} {af:Array Edge} {gd g:Option (Nat×Bool)} {d:Nat} {p:Pt} {rs:List R1}
variable{u:Nat}{z:Value}
theorem fo(hE:En P RS E)(hp:p.good RS)(hz:E.zt u=some z)(ht:∀x,z≠.tuple x)(hg:g=none)(hn:Nat.blt d n=true)(hr:p.st.room=true)
 (ES:RA P RS n K Q rest (some d) p [.val (.Au p.st.nx 0) (p.st.new (.cells (GU (Is z)) u))]):DL P n K Q (⟨i,⟨some d,.alloc u,ty,pos,af,gd⟩,g⟩::rest) p.fr p.S:=by
 have hc:∀b,Bt (p.ρ++[(b,0)]) (GU (Is z)) z.cells.toList:=fun b=>JB (Kt z)
 have main:∀b,DL P n K Q rest ((d,Au b)::p.fr) (A7 b z.cells.toList u::p.S):=fun b=>(ES _ (AP.2 J) (p.new (b,0) (.cells (GU (Is z)) u) (A7 b z.cells.toList u)) J J (.new hp _ _ _) (hp.new hr _ (.cells (Pt.EZ hp _) (hc b))) (Au b) (.Au (Pt.EZ hp _))).2
 refine .IP (by simp[B5]) hg J (by simpa using hn) (HE J (hE.zt u z hz)) (fun b=> ?_);have:=main b;rw[Y3]at this;exact this
theorem Xg(hp:p.good RS)(hg:g=none)(hn:Nat.blt d n=true)(hr:p.st.room=true)
 (ES:RA P RS n K Q rest (some d) p [.val (.mp p.st.nx) (p.st.new (.map []))]):DL P n K Q (⟨i,⟨some d,.makeMap u none,ty,pos,af,gd⟩,g⟩::rest) p.fr p.S:=
 DL.makeMap (enc:=Value.int .i64) hg hn fun b=>(ES _ (AP.2 J) (p.new (b,0) (.map []) (DX (Value.int .i64) b [] 0)) J J (.new hp _ _ _) (hp.new hr _ (.map (Pt.EZ hp _) J .nil)) _ (.mp (Pt.EZ hp _))).2
variable{x:Operand}{a:AV}
theorem uz(hp:p.good RS)(hx:ao p.st.fr x=some a)(hg:lg p.fr g=some true)(hn:Nat.blt d n=true)(hr:p.st.room=true)
 (ES:RA P RS n K Q rest (some d) p [.val (.Au p.st.nx 0) (p.st.new (.cells (GU a) u))]):DL P n K Q (⟨i,⟨some d,.box u x,ty,pos,af,gd⟩,g⟩::rest) p.fr p.S:=by
 obtain⟨v,h1,h2⟩:=DG hp.F hx;have main:∀b,Ge K (A7 b v.cells.toList u::p.S)/\DL P n K Q rest ((d,Au b)::p.fr) (A7 b v.cells.toList u::p.S):=fun b=>ES _ (AP.2 J) (p.new (b,0) (.cells (GU a) u) (A7 b v.cells.toList u)) J J (.new hp _ _ _) (hp.new hr _ (.cells (Pt.EZ hp _) (JB (h2.mono _)))) (Au b) (.Au (Pt.EZ hp _))
 simp only[Y3]at main;exact DL.fresh J hg J hn (obj:=.cells v.cells u (0,0)) (mk:=Au) (fun a w hk=>by simp[execOp,hk.eval h1,Instr.box,newVar,newRow,Au]) (fun b=>(main b).1) (fun b=>(main b).2)
variable{ρ:Nm}{l:List AV}
theorem Da.with{RS:EA}{k:Nat}{ab:AB}{c:List CH}(h:Da RS ρ k ab c)(hl:ab.cs=some l):∃b cap vs ex t,ρ[k]? =some (b,cap)/\Bt ρ l vs/\c=A7 b (vs++ex) t/\∀l' vs',Bt ρ l' vs'->vs'.length=vs.length->Da RS ρ k (ab.with l') (A7 b (vs'++ex) t):=by
 cases h with
 | @cells _ t _ _ vs h1 h2=>simp only[AB.cs,AH]at hl;subst hl;exact⟨_,_,vs,[],t,h1,h2,by simp,fun l' vs' h3 h4=>by rw[Am];exact .cells h1 h3⟩
 | @grown _ t CU _ _ vs ex h1 h2 h3=>simp only[AB.cs,AH]at hl;subst hl;exact⟨_,_,vs,ex,t,h1,h2,rfl,fun l' vs' h4 h5=>.grown h1 h4 (by rw[h5];exact h3)⟩
 |_=>simp[AB.cs]at hl
theorem UT{α:Type}{vs ex us:List α}{off:Nat}(h:off+us.length<=vs.length):(vs++ex).take off++us++(vs++ex).drop (off+us.length)=(vs.take off++us++vs.drop (off+us.length))++ex:=by rw[Ar I,DT h];simp[AU]
variable{y:Operand}
theorem fp(hE:En P RS E)(hp:p.good RS){b:AV}(hx:ao p.st.fr x=some a)(hy:ao p.st.fr y=some b)(hg:lg p.fr g=some true)(h:Xb E u a b p.st=some rs)
 (ES:RA P RS n K Q rest none p rs):DL P n K Q (⟨i,⟨none,.store u x y,ty,pos,af,gd⟩,g⟩::rest) p.fr p.S:=by
 obtain⟨vx,hx1,hx2⟩:=DG hp.F hx;obtain⟨vy,hy1,hy2⟩:=DG hp.F hy;unfold Xb at h;split at h
 ·rename_i k off;split at h
  ·rename_i ab hab;split at h
   ·rename_i l hl;split at h
    ·rename_i ti ht;simp only at h;cases hb:Nat.beq (GU b).length ti.size&&(GU b).all SY&&Nat.ble (Nat.add off (GU b).length) l.length<;>rw[hb]at h<;>simp only[AN,AO,reduceCtorEq,AH]at h;subst h;simp only[AI]at hb;have hsz:=AK hb.1.1;have hfit:off+(GU b).length<=l.length:=AL hb.2;obtain⟨hlive,hcb⟩:=hp.mem hab;obtain⟨bb,cap,vs,ex,t,hρ,hcl,hC,hw⟩:=hcb.with hl
     cases hx2 with|Au E8=>
     rw[hρ]at E8;cases E8;have hcy:=JB hy2;have hly:=hcy.len;have hlv:=hcl.len;have hperm:p.S.Perm (A7 bb (vs++ex) t::(p.live.erase k).map p.C):=hC▸hp.H.pick hlive;have aAj:off+vy.cells.toList.length<=vs.length:=I;refine DL.congr (S:=A7 bb (vs++ex) t::(p.live.erase k).map p.C) ?_ (Eo.refl _) hperm.symm;have hnew:=hw (List.take off l++GU b++List.drop (Nat.add off (GU b).length) l) (vs.take off++vy.cells.toList++vs.drop (off+vy.cells.toList.length)) (((hcl.take off).app hcy).app (by rw[hly];exact hcl.drop _)) (by simp only[Aq,BP,B9];omega);have hq:=ES _ (AP.2 J) (p.set k _ _) J J (.set p k _ _) (hp.set hlive hnew) undef .val;refine .eff _ _ (.inl J) hg (fun e he=>by cases he) (Oo (cs:=vs++ex) (vs:=vy.cells.toList) hE.T J ht hx1 hy1 DI (by rw[hly,hsz]) (Lr hcy hb.1.2) (by simp only[Aq];omega) (by rw[UT aAj];exact .here)) (fun _ _ h=>h.elim) (fun v T hT=>by subst hT;exact hq.1) (fun v T hT=>by subst hT;exact hq.2)
    ·cases h
   ·cases h
  ·cases h
 ·rename_i k off m;split at h
  ·rename_i l t hab;split at h
   ·rename_i ti ht;split at h
    ·rename_i lo hi;cases hb:Nat.beq ti.size 1&&Gz 0 lo&&Gz hi 18446744073709551615&&XX l off m<;>rw[hb]at h<;>simp only[AN,AO,reduceCtorEq,AH]at h;subst h;simp only[AI,FU]at hb;obtain⟨⟨⟨c1,c2⟩,c3⟩,c4⟩:=hb;have c1:=AK c1;obtain⟨hlive,hcb⟩:=hp.mem hab;have hperm:=hp.H.pick hlive;generalize hC:p.C k=ck at hcb hperm;cases hcb with| @cells _ _ bb cc vs hρ hcl=>
     cases hx2 with| @dh _ _ _ b0 c0 j E8 hj=>
     rw[hρ]at E8;cases E8;cases hy2 with| @int _ _ _ z z1 z2=>
     have hat:=Yw c4 hj;obtain⟨v0,hv0,_⟩:=hcl.at hat
     have hlt:off+j<vs.length:=by rw[D5]at hv0;exact(Ae.1 hv0).1
     have oK:=hcl.set (off+j) (EM.int (ρ:=p.ρ) (k:=.u64) (lo:=0) (hi:=18446744073709551615) (z:=z) I I);rw[show l.set (off+j) (.int .u64 0 18446744073709551615)=l by
      rw[D5]at hat
      obtain⟨g1,g2⟩:=Ae.1 hat
      rw[<-g2];exact List.set_getElem_self g1]at oK
     refine DL.congr ?_ (Eo.refl _) hperm.symm;have hq:=ES _ (AP.2 J) (p.set k (.cells l t) (A7 bb (vs.set (off+j) (.int .u64 z)) t)) J J (.set p k _ _) (hp.set hlive (.cells hρ oK)) undef .val;exact DL.Br hE.T hg ht hx1 hy1 J .here J c1.symm J hlt hq.1 hq.2
    ·cases h
   ·cases h
  ·cases h
 ·cases h
theorem Vt{ρ:Nm}{a:Int}{b:AV}{v:Value}(hv:EM ρ b v){clk:Nat}:∀{L:List (Int×AV)} {L':List (Int×Value×Nat)},L'.map (·.1)=L.map (·.1)->Bt ρ (L.map (·.2)) (L'.map (·.2.1))->(F8 L' a v clk).map (·.1)=(TO a b L).map (·.1)/\Bt ρ ((TO a b L).map (·.2)) ((F8 L' a v clk).map (·.2.1))
 |[],[],_,_=>⟨rfl,.cons hv .nil⟩
 |[],_::_,h,_=>by simp at h
 |_::_,[],h,_=>by simp at h
 |(i,b')::L,(j,u,m)::L',h,hl=>by
  simp only[Ap,D1]at h hl;cases hl with|cons h1 h2=>
  obtain⟨rfl,h⟩:=h;simp only[F8,TO];by_cases e:a=j
  ·rw[BE e,EO.2 e];exact⟨by simp[h],.cons hv h2⟩
  ·have:FN a j=false:=by cases hq:FN a j with|true=>exact absurd (EO.1 hq) e|false=>rfl
   rw[Ah e,this];obtain⟨h3,h4⟩:=Vt hv (clk:=clk) (a:=a) h h2;exact⟨by simp only[AO,Ap,h3],.cons h1 h4⟩
theorem Vu{ρ:Nm}{a:Int}:∀{L:List (Int×AV)} {L':List (Int×Value×Nat)},L'.map (·.1)=L.map (·.1)->Bt ρ (L.map (·.2)) (L'.map (·.2.1))->(Jg L' a).map (·.1)=(TP a L).map (·.1)/\Bt ρ ((TP a L).map (·.2)) ((Jg L' a).map (·.2.1))
 |[],[],_,_=>⟨rfl,.nil⟩
 |[],_::_,h,_=>by simp at h
 |_::_,[],h,_=>by simp at h
 |(i,b')::L,(j,u,m)::L',h,hl=>by
  simp only[Ap,D1]at h hl;cases hl with|cons h1 h2=>
  obtain⟨rfl,h⟩:=h;simp only[Jg,TP];by_cases e:a=j
  ·rw[BE e,EO.2 e];exact⟨h,h2⟩
  ·have:FN a j=false:=by cases hq:FN a j with|true=>exact absurd (EO.1 hq) e|false=>rfl
   rw[Ah e,this];obtain⟨h3,h4⟩:=Vu (a:=a) h h2;exact⟨by simp only[AO,Ap,h3],.cons h1 h4⟩
theorem Vv{a:Int}{v:Value}{clk:Nat}{pr:Value->Prop}(hv:pr v):∀{L:List (Int×Value×Nat)},(∀x∈L,pr x.2.1)->∀x∈F8 L a v clk,pr x.2.1
 |[],_,x,hx=>by obtain rfl:=AP.1 hx;exact hv
 |q::L,h,x,hx=>by
  simp only[F8]at hx;by_cases e:a=q.1
  ·rw[BE e]at hx;rcases Ab.1 hx with rfl|hx
   ·exact hv
   ·exact h x (by simp[hx])
  ·rw[Ah e]at hx;rcases Ab.1 hx with rfl|hx
   ·exact h _ DI
   ·exact Vv hv (fun y hy=>h y (by simp[hy])) x hx
theorem Vw{a:Int}{pr:Value->Prop}:∀{L:List (Int×Value×Nat)},(∀x∈L,pr x.2.1)->∀x∈Jg L a,pr x.2.1
 |[],_,x,hx=>by cases hx
 |q::L,h,x,hx=>by
  simp only[Jg]at hx;by_cases e:a=q.1
  ·rw[BE e]at hx;exact h x (by simp[hx])
  ·rw[Ah e]at hx;rcases Ab.1 hx with rfl|hx
   ·exact h _ DI
   ·exact Vw (fun y hy=>h y (by simp[hy])) x hx
variable{am ak:AV}{op:Op}
theorem map_ok(hE:En P RS E)(hp:p.good RS){m:Operand}{av:AV}(hm:ao p.st.fr m=some am)(hx:ao p.st.fr x=some ak)(hy:ao p.st.fr y=some av)(hg:lg p.fr g=some true)(h:ui E u am ak av p.st=some rs)
 (ES:RA P RS n K Q rest none p rs)  (ho:op=.mapUpdate u m x y\/op=.insert u m x y):DL P n K Q (⟨i,⟨none,op,ty,pos,af,gd⟩,g⟩::rest) p.fr p.S:=by
 obtain⟨vm,hm1,hm2⟩:=DG hp.F hm;obtain⟨vx,hx1,hx2⟩:=DG hp.F hx;obtain⟨vy,hy1,hy2⟩:=DG hp.F hy;unfold ui at h;split at h
 ·rename_i k;split at h
  ·rename_i kt e sz ht;split at h
   ·rename_i szk hkt;cases hm2 with| @mp _ b0 c0 HK=>
    split at h
    ·rename_i L hab;split at h
     ·rename_i lo hi;cases hlh:FN lo hi<;>rw[hlh]at h<;>simp only[AN,AO,reduceCtorEq,AH]at h;subst h;rw[EO]at hlh;cases hx2 with| @int _ _ _ q a1 a2=>
      obtain rfl:q=lo:=I;obtain⟨hlive,hcb⟩:=hp.mem hab;have hperm:=hp.H.pick hlive;generalize hC:p.C k=ck at hcb hperm;cases hcb with| @map clk b c _ L' hρ hkk hll=>
      rw[hρ]at HK;cases HK;obtain⟨h3,h4⟩:=Vt hy2 (clk:=clk) (a:=q) hkk hll;have hq:=ES _ (AP.2 J) (p.set k (.map (TO q av L)) (DX (Value.int .i64) b0 (F8 L' q vy clk) (J8 L' q clk))) J J (.set p k _ _) (hp.set hlive (.map hρ h3 h4)) undef .val;refine DL.congr ?_ (Eo.refl _) hperm.symm;exact .eff _ _ (by rcases ho with rfl|rfl<;>exact .inl J) hg (fun e he=>by cases he) (KX (IA hE.T hkt) hE.T ho ht hm1 hx1 rfl hy1 .here) (fun _ _ h=>h.elim) (fun v T hT=>by subst hT;exact hq.1) (fun v T hT=>by subst hT;exact hq.2)
     ·cases h
    ·rename_i a hab;split at h
     ·rename_i lo hi;cases hlv:P3 av a<;>rw[hlv]at h<;>simp only[AN,AO,reduceCtorEq,AH]at h;subst h;cases hx2 with| @int _ _ _ q a1 a2=>
      obtain⟨hlive,hcb⟩:=hp.mem hab;have hperm:=hp.H.pick hlive;generalize hC:p.C k=ck at hcb hperm;cases hcb with| @Hl clk b c _ L' hρ hll=>
      rw[hρ]at HK;cases HK;have hq:=ES _ (AP.2 J) (p.set k (.Hl a) (DX (Value.int .i64) b0 (F8 L' q vy clk) (J8 L' q clk))) J J (.set p k _ _) (hp.set hlive (.Hl hρ (Vv (pr:=EM p.ρ a) (IW hy2 hlv) hll))) undef .val;refine DL.congr ?_ (Eo.refl _) hperm.symm;exact .eff _ _ (by rcases ho with rfl|rfl<;>exact .inl J) hg (fun e he=>by cases he) (KX (IA hE.T hkt) hE.T ho ht hm1 hx1 rfl hy1 .here) (fun _ _ h=>h.elim) (fun v T hT=>by subst hT;exact hq.1) (fun v T hT=>by subst hT;exact hq.2)
     ·cases h
    ·cases h
   ·cases h
  ·cases h
 ·cases h
variable{AA:Array Operand}
theorem u0(hE:En P RS E)(hp:p.good RS){tk:Nat}(ha:W7 p.st.fr AA.toList=some [am,ak])(hg:lg p.fr g=some true){dd:Option Nat}(hd:∀x,dd=some x->Nat.blt x n=true)(h:uj E u am ak p.st=some rs)
 (ES:RA P RS n K Q rest dd p rs):DL P n K Q (⟨i,⟨dd,.call ⟨.builtin .delete,AA,#[u,tk]⟩,ty,pos,af,gd⟩,g⟩::rest) p.fr p.S:=by
 obtain⟨vs,h1,h2⟩:=Ks hp.F ha;cases h2 with|cons hm2 h2=>cases h2 with|cons hx2 h2=>cases h2 with|nil=>
 unfold uj at h;split at h
 ·rename_i k;split at h
  ·rename_i kt e sz ht;split at h
   ·rename_i szk hkt;cases hm2 with| @mp _ b0 c0 HK=>
    split at h
    ·rename_i L hab;split at h
     ·rename_i lo hi;cases hlh:FN lo hi<;>rw[hlh]at h<;>simp only[AN,AO,reduceCtorEq,AH]at h;subst h;rw[EO]at hlh;cases hx2 with| @int _ _ _ q a1 a2=>
      obtain rfl:q=lo:=I;obtain⟨hlive,hcb⟩:=hp.mem hab;have hperm:=hp.H.pick hlive;generalize hC:p.C k=ck at hcb hperm;cases hcb with| @map clk b c _ L' hρ hkk hll=>
      rw[hρ]at HK;cases HK;obtain⟨h3,h4⟩:=Vu (a:=q) hkk hll;have hq:=ES _ (AP.2 J) (p.set k (.map (TP q L)) (DX (Value.int .i64) b0 (Jg L' q) clk)) J J (.set p k _ _) (hp.set hlive (.map hρ h3 h4)) (.tuple #[]) .val;refine DL.congr ?_ (Eo.refl _) hperm.symm;exact DL.delete (IA hE.T hkt) hE.T hg hd ht h1 J .here hq.1 hq.2
     ·cases h
    ·rename_i a hab;split at h
     ·rename_i lo hi;simp only[AH]at h;subst h;cases hx2 with| @int _ _ _ q a1 a2=>
      obtain⟨hlive,hcb⟩:=hp.mem hab;have hperm:=hp.H.pick hlive;generalize hC:p.C k=ck at hcb hperm;cases hcb with| @Hl clk b c _ L' hρ hll=>
      rw[hρ]at HK;cases HK;have hq:=ES _ (AP.2 J) (p.set k (.Hl a) (DX (Value.int .i64) b0 (Jg L' q) clk)) J J (.set p k _ _) (hp.set hlive (.Hl hρ (Vw (pr:=EM p.ρ a) hll))) (.tuple #[]) .val;refine DL.congr ?_ (Eo.refl _) hperm.symm;exact DL.delete (IA hE.T hkt) hE.T hg hd ht h1 J .here hq.1 hq.2
     ·cases h
    ·cases h
   ·cases h
  ·cases h
 ·cases h
variable{CU tx m:Nat}{news:List Value}{S T:A2}
theorem DO.perm{x:Value}(h:DO P CU S tx x m news)(hp:S.Perm T):DO P CU T tx x m news:=fun A U w hs=>h A U w (hs.perm (hp.symm.append_right U))
theorem RB(s:ByteArray):Bt ρ (s.data.toList.map fun b=>.int .u8 (Int.ofNat b.toNat) (Int.ofNat b.toNat)) (byteCells s):=by
 have hl:∀l:List UInt8,Bt ρ (l.map fun b=>AV.int .u8 (Int.ofNat b.toNat) (Int.ofNat b.toNat)) (l.map fun b=>Value.int .u8 (b.toNat:Int)):=fun l=>by
  induction l with
  |nil=>exact .nil
  |cons b l ih=>exact .cons (.int (A4 _) (A4 _)) ih
 have e:byteCells s=s.data.toList.map fun b=>Value.int .u8 (b.toNat:Int):=by simp[byteCells,A5]
 rw[e];exact hl _
theorem Nc{k off len:Nat}(h:Ld a=some (k,off,len))(hv:EM ρ a v):∃b c cap,ρ[k]? =some (b,c)/\v=.slice (some ⟨b,off,none⟩) len cap:=by
 unfold Ld at h;split at h
 ·simp only[AH,Af]at h;obtain⟨rfl,rfl,rfl⟩:=h;cases hv with|sl hρ=>exact⟨_,_,_,hρ,rfl⟩
 ·simp only[AH,Af]at h;obtain⟨rfl,rfl,rfl⟩:=h;cases hv with|G3 hρ hc=>exact⟨_,_,_,hρ,rfl⟩
 ·rename_i k' off' len';cases hb:Nat.blt 0 len'<;>rw[hb]at h<;>simp only[AN,AO,reduceCtorEq,AH,Af]at h;obtain⟨rfl,rfl,rfl⟩:=h;cases hv with|O3 hρ ho hc=>
  obtain rfl:=ho (by simpa using hb);exact⟨_,_,_,hρ,rfl⟩
 ·cases h
variable{sz:Nat}
theorem oM(hE:En P RS E)(hp:p.good RS){kx:Kd}{news:List AV}(h:uc p.st.hp CU a=some (m,news))(hv:EM p.ρ a v)(ht:E.T.get tx=some ⟨kx,sz⟩)
 (hk:Xa kx a=true):∃ns,DO P CU p.S tx v m ns/\Bt p.ρ news ns/\ns.length=m*CU:=by
 unfold uc at h;split at h
 ·rename_i c;simp only[AH,Af]at h;obtain⟨rfl,rfl⟩:=h;cases hv;cases kx<;>simp[Xa]at hk;exact⟨[],.nil hE.T ht,.nil,by simp⟩
 ·rename_i s;cases hb:Nat.beq CU 1<;>rw[hb]at h<;>simp only[AN,AO,reduceCtorEq,AH,Af]at h;obtain⟨rfl,rfl⟩:=h;obtain rfl:=AK hb;cases hv;cases kx<;>simp[Xa]at hk;have e:s.data.toList.length=s.size:=Dt;rw[e];exact⟨_,.string hE.T ht,RB s,by rw[(RB (ρ:=p.ρ) s).len];simp[e]⟩
 ·rename_i hn1 hn2;split at h
  ·rename_i k off len hsl;split at h
   ·rename_i ab hab;split at h
    ·rename_i l hl;cases hb:Nat.beq (List.take (Nat.mul len CU) (List.drop off l)).length (Nat.mul len CU)&&(List.take (Nat.mul len CU) (List.drop off l)).all SY<;>rw[hb]at h<;>simp only[AN,AO,reduceCtorEq,AH,Af]at h;obtain⟨rfl,rfl⟩:=h;simp only[AI]at hb;have hlen:=AK hb.1;obtain⟨hlive,hcb⟩:=hp.mem hab;obtain⟨b,cap,vs,ex,t,hρ,hcl,hC⟩:=hcb.cs hl;obtain⟨b',c',cap',E8,rfl⟩:=Nc hsl hv;rw[hρ]at E8;cases E8;have hin:=hp.inS hlive;rw[hC]at hin;have hc2:=(hcl.drop off).take (len*CU);have hlen2:(List.take (len*CU) (List.drop off vs)).length=len*CU:=by rw[hc2.len];exact hlen
     cases kx with
     |sl e s=>exact⟨_,.slice hE.T ht (In.of hin) (Gk hlen2) hlen2 (Lr hc2 hb.2),hc2,hlen2⟩
     |str=>exact absurd hk (by cases a<;>simp[Ld]at hsl<;>simp[Xa])
     |_=>simp[Xa]at hk
    ·cases h
   ·cases h
  ·cases h
variable{o:Oper}{fr:Fr}{e GN:Nat}{ts:Array TypeId}
theorem Vx(hT:Dp P E.T=true){base:Addr}{x:Value}(ho:o.op=.call ⟨.builtin .append,AA,ts⟩)(hts:ts= #[t,tx])
 (ht:E.T.get t=some ⟨.sl e CU,sz⟩) (hEl:Ew P e CU GN=true) (ha:FP fr AA.toList=some [.slice (some base) 0 0,x]) (hx:DO P CU S tx x m news) (hm:0<m) (hbd:m*GN<=140737488355328) (hbd2:m<=9223372036854775807):
 Eff P n o fr S (fun v S'=>∃b' cap' ex',v=.slice (some ⟨b',0,none⟩) m cap'/\ex'.length=(cap'-m)*CU/\m<=cap'/\S'=A7 b' (news++ex') e::S) (fun _ _=>False):=by
 intro A V a w hk hs;obtain⟨ie,z,hi,h1,h2,hz,h3⟩:=Gy hEl;obtain⟨hu,_⟩:=Et hT ht J;have hargs:AA.map a.eval= #[.slice (some base) 0 0,x]:=Bl.1 (by simpa using EV hk ha);have hsrc:Src P ie.size tx x m news w:=by rw[h1];exact hx A V w hs
 have hrun:(execOp a.eval o).run P w=((Builtin.append_ #[t,tx] o.type #[.slice (some base) 0 0,x]).run P w).andThen fun v w'=>.ok (.value v) w':=by simp only[execOp,ho,resolve,invoke,builtin,Ag,BA,Ad,hargs,hts]
 have hnl:news.length=m*CU:=by rw[hsrc.newsLen,h1]
 have hold:(Builtin.firstCells ie.size 0 (.slice (some base) 0 0)).run P w.drew=.ok (([]:List Value).toArray) w.drew:=run_firstCells_some w.drew ie.size 0 base 0 0 [] DI (fun j u hj=>by simp at hj)
 have hval:=run_append_grow_src w t tx o.type e ie z hu hi hz (some base) 0 0 [] hold x m news hsrc I I (growslice_fits I (by rw[h2];simpa using hbd));rw[Fq,hrun,hval];have hcap:0+m<=grownCap w (0+m) 0 e:=by unfold grownCap;simp only[Question.cut];omega
 have hs2:Ds A w.drew (S++V):=hs.drawn _;have UG:((([]:List Value)++news).toArray++Builtin.zeroCells z.cells (grownCap w (0+m) 0 e-(0+m)))=(news++(Builtin.zeroCells z.cells (grownCap w (0+m) 0 e-(0+m))).toList).toArray:=by apply Array.ext';simp
 refine⟨A7 w.heap.size (news++(Builtin.zeroCells z.cells (grownCap w (0+m) 0 e-(0+m))).toList) e::S,?_,w.heap.size,grownCap w (0+m) 0 e,_,by simp,?_,I,rfl⟩
 ·rw[UG];exact hs2.new _
 ·rw[Dt,Hf,h3,BM]
variable{q:Pt}
theorem KD(hq:q.good RS)(hr:q.st.room=true){news:List AV}{ns ex:List Value}{cap:Nat}(hl:Bt q.ρ news ns)(hnl:ns.length=m*CU)(hex:ex.length=(cap-m)*CU)(hc:m<=cap):
 (q.new (b,cap) (.grown news e CU) (A7 b (ns++ex) e)).good RS/\EM (q.new (b,cap) (.grown news e CU) (A7 b (ns++ex) e)).ρ (.G3 q.st.nx m) (.slice (some ⟨b,0,none⟩) m cap):=by
 refine⟨hq.new hr _ (.grown (Pt.EZ hq _) (hl.mono _) ?_),.G3 (Pt.EZ hq _) hc⟩;rw[hnl,hex,<-D2];congr 1
 omega
theorem Ds.TQ{A:Om}{w:World}(h:Ds A w S)(e:S.flatten.Perm T.flatten):Ds A w T:=⟨h.os,h.tape,h.output,h.size,(e.map _).nodup_iff.1 h.nodup,fun x hx=>h.has x (e.mem_iff.2 hx)⟩
theorem Eff.TQ{P:Program}{n:Nat}{post:Value->A2->Prop}{Eu:List PanicEntry->A2->Prop}(e:S.flatten.Perm T.flatten)(h:Eff P n o fr T post Eu):Eff P n o fr S post Eu:=fun A R a w hk hs=>h A R a w hk (hs.TQ (by rw[A6,A6];exact e.append_right _))
theorem DO.TQ{P:Program}{x:Value}(e:S.flatten.Perm T.flatten)(h:DO P CU S tx x m news):DO P CU T tx x m news:=fun A U w hs=>h A U w (hs.TQ (by rw[A6,A6];exact e.symm.append_right _))
theorem RD{z:Array Value}(h:z.size=1):(Builtin.zeroCells z m).toList=(List.replicate m z.toList).flatten:=by obtain⟨c,rfl⟩:∃c,z= #[c]:=Array.size_eq_one_iff.1 h;simp[Builtin.zeroCells,Nat.mod_one,List.map_const']
theorem Y4{ρ:Nm}{l:List AV}{vs:List Value}(h:Bt ρ l vs):∀m,Bt ρ (List.replicate m l).flatten (List.replicate m vs).flatten
 |0=>.nil
 |m+1=>by simp only[CJ,AW];exact h.app (Y4 h m)
variable{k kn:IntKind}{zf:Nat}
theorem fq{T:Tr}(hT:Dp P T=true){tn:Nat}(ho:o.op=.call ⟨.builtin .append,AA,ts⟩)(hts:ts= #[t,tn])
 (ht:T.get t=some ⟨.sl e 1,sz⟩) (htn:T.get tn=some ⟨.int kn,zf⟩) (hEl:Ew P e 1 GN=true) (hz':(P.info? e).bind (·.zero)=some z)
 (ha:FP fr AA.toList=some [.slice none 0 0,.int k (m:Int)]) (hm:0<m) (hbd:m*GN<=140737488355328) (hbd2:m<=9223372036854775807):
 z.cells.size=1/\Eff P n o fr S (fun v S'=>∃b' cap' ex',v=.slice (some ⟨b',0,none⟩) m cap'/\ex'.length=(cap'-m)*1/\m<=cap'/\S'=A7 b' ((List.replicate m z.cells.toList).flatten++ex') e::S) (fun _ _=>False):=by
 obtain⟨ie,z2,hi,h1,h2,hz,h3⟩:=Gy hEl;rw[hi]at hz';simp only[Option.bind_some]at hz';rw[hz]at hz';obtain rfl:z2=z:=by simpa using hz'
 refine⟨h3,?_⟩;intro A V a w hk hs;obtain⟨hu,_⟩:=Et hT ht J;have hun:=HF hT htn J;have hargs:AA.map a.eval= #[.slice none 0 0,.int k (m:Int)]:=Bl.1 (by simpa using EV hk ha);have hval:=Lib.run_append_nil_zeros w t tn o.type e ie z2 k kn hu hun hi hz m hm I I (by rw[h2];omega);have hrun:(execOp a.eval o).run P w=((Builtin.append_ #[t,tn] o.type #[.slice none 0 0,.int k (m:Int)]).run P w).andThen fun v w'=>.ok (.value v) w':=by simp only[execOp,ho,resolve,invoke,builtin,Ag,BA,Ad,hargs,hts]
 rw[Fq,hrun,hval];have hcap:m<=grownCap w m 0 e:=by unfold grownCap;simp only[Question.cut];omega
 have hs2:Ds A w.drew (S++V):=hs.drawn _;refine⟨A7 w.heap.size ((List.replicate m z2.cells.toList).flatten++(Builtin.zeroCells z2.cells (grownCap w m 0 e-m)).toList) e::S,?_,w.heap.size,grownCap w m 0 e,_,rfl,?_,hcap,rfl⟩
 ·have UG:(Builtin.zeroCells z2.cells m++Builtin.zeroCells z2.cells (grownCap w m 0 e-m))=((List.replicate m z2.cells.toList).flatten++(Builtin.zeroCells z2.cells (grownCap w m 0 e-m)).toList).toArray:=by apply Array.ext';rw[<-RD h3];simp
  have h5:∀l:List Value,A7 w.heap.size l e=[(w.heap.size,.cells l.toArray e (0,0))]:=fun l=>by simp[A7]
  rw[h5,UG];exact hs2.new _
 ·rw[Dt,Hf,h3]
theorem aG{T:Tr}(hT:Dp P T=true){t tn e GN sz b len cap:Nat}(ho:o.op=.call ⟨.builtin .append,AA,ts⟩)(hts:ts= #[t,tn])
 (ht:T.get t=some ⟨.sl e 1,sz⟩) (htn:T.get tn=some ⟨.int kn,zf⟩) (hEl:Ew P e 1 GN=true)
 (ha:FP fr AA.toList=some [.slice (some ⟨b,0,none⟩) len cap,.int k 0]) (hc:len<=cap):
 Eff P n o fr S (fun v S'=>v=.slice (some ⟨b,0,none⟩) len cap/\S'=S) (fun _ _=>False):=by
 obtain⟨ie,z,hi,h1,h2,hz,h3⟩:=Gy hEl;intro A V a w hk hs;obtain⟨hu,_⟩:=Et hT ht J;have hun:=HF hT htn J;have hargs:AA.map a.eval= #[.slice (some ⟨b,0,none⟩) len cap,.int k 0]:=Bl.1 (by simpa using EV hk ha);have hval:(Builtin.append_ #[t,tn] o.type #[.slice (some ⟨b,0,none⟩) len cap,.int k 0]).run P w=.ok (.slice (some ⟨b,0,none⟩) len cap) w:=by
  have hw:IntKind.i64.wrap (0:Int)=0:=by rw[IntKind.wrap_i64];omega
  simp[Builtin.append_,Ac hu,Ac hun,sizeOf,typeInfo,zeroValue,hi,hz,asInt,asIntOf,hw,hc,storeCells]
 have hrun:(execOp a.eval o).run P w=.ok (.value (.slice (some ⟨b,0,none⟩) len cap)) w:=by simp only[execOp,ho,resolve,invoke,builtin,Ag,BA,Ad,hargs,hts,hval]
 rw[Fq,hrun];exact⟨S,hs,rfl,rfl⟩
variable{a1 a2:AV}
theorem u7(hE:En P RS E)(hp:p.good RS)(ha:W7 p.st.fr AA.toList=some [a1,a2])(hg:lg p.fr g=some true)(hn:Nat.blt d n=true)(h:uf E t tx a1 a2 p.st=some rs)
 (ES:RA P RS n K Q rest (some d) p rs):DL P n K Q (⟨i,⟨some d,.call ⟨.builtin .append,AA,#[t,tx]⟩,ty,pos,af,gd⟩,g⟩::rest) p.fr p.S:=by
 obtain⟨vs,h1,h2⟩:=Ks hp.F ha;cases h2 with|cons hb2 h2=>cases h2 with|cons hx2 h2=>cases h2 with|nil=>
 unfold uf at h;split at h
 ·rename_i kx lo hi;cases hx2 with| @int _ _ _ z hl hh=>
  cases hc1:FN lo hi&&Gz 0 lo<;>rw[hc1]at h<;>simp only[AN,AO,reduceCtorEq]at h;simp only[AI]at hc1;obtain rfl:lo=hi:=EO.1 hc1.1;obtain rfl:z=lo:=I;have h0:0<=z:=FU.1 hc1.2;obtain⟨m,rfl⟩:=BO h0;simp only[Int.toNat_natCast]at h;split at h
  ·rename_i kn zf htx;split at h
   ·rename_i e sz ht;split at h
    ·rename_i GN hel;have hEl:=hE.el _ _ _ hel;split at h
     ·cases hb2;split at h
      ·rename_i zv hz;cases hbd:p.st.room&&Nat.blt 0 m&&Nat.ble (Nat.mul m GN) 140737488355328&&Nat.ble m 9223372036854775807<;>rw[hbd]at h<;>simp only[AN,AO,reduceCtorEq,AH]at h;subst h;simp only[AI]at hbd;obtain⟨⟨⟨q1,q2⟩,q3⟩,q4⟩:=hbd;obtain⟨g3,g4⟩:=fq (n:=n) (S:=p.S) (fr:=p.fr) (o:=⟨some d,.call ⟨.builtin .append,AA,#[t,tx]⟩,ty,pos,af,gd⟩) hE.T J J ht htx hEl (hE.zt _ _ hz) h1 (by simpa using q2) (AL q3) (AL q4);have main:∀b cap ex,ex.length=(cap-m)*1->m<=cap->Ge K (A7 b ((List.replicate m zv.cells.toList).flatten++ex) e::p.S)/\DL P n K Q rest ((d,.slice (some ⟨b,0,none⟩) m cap)::p.fr) (A7 b ((List.replicate m zv.cells.toList).flatten++ex) e::p.S):=fun b cap ex hex hc=>by obtain⟨g1,g2⟩:=KD hp q1 (b:=b) (e:=e) (Y4 (JB (Kt zv)) m) (m:=m) (by simp[g3]) hex hc;exact ES _ (AP.2 J) (p.new (b,cap) _ (A7 b ((List.replicate m zv.cells.toList).flatten++ex) e)) J J (.new hp _ _ _) g1 _ g2
       refine .eff _ _ (.inl J) hg (fun e he=>by cases he;simpa using hn) g4 (fun _ _ h=>h.elim) ?_ ?_
       ·rintro v S' ⟨b',cap',ex',rfl,e1,e2,rfl⟩;exact(main b' cap' ex' e1 e2).1
       ·rintro v S' ⟨b',cap',ex',rfl,e1,e2,rfl⟩;exact(main b' cap' ex' e1 e2).2
      ·cases h
     ·rename_i k len;cases hbd:Nat.beq m 0&&Nat.ble len 9223372036854775807<;>rw[hbd]at h<;>simp only[AN,AO,reduceCtorEq,AH]at h;subst h;simp only[AI]at hbd;obtain rfl:=AK hbd.1;cases hb2 with| @G3 _ _ b0 c0 HK hc0=>
      have hq:=ES _ (AP.2 J) p J J (.refl p) hp _ (.G3 HK hc0);refine .eff _ _ (.inl J) hg (fun e he=>by cases he;simpa using hn) (aG hE.T J J ht htx hEl h1 hc0) (fun _ _ h=>h.elim) ?_ ?_
      ·rintro v S' ⟨rfl,rfl⟩;exact hq.1
      ·rintro v S' ⟨rfl,rfl⟩;exact hq.2
     ·cases h
    ·cases h
   ·cases h
  ·cases h
 ·cases h
theorem u9(hE:En P RS E)(hp:p.good RS)(ha:W7 p.st.fr AA.toList=some [a1,a2])(hg:lg p.fr g=some true)(hn:Nat.blt d n=true)(h:ud E t tx a1 a2 p.st=some rs)
 (ES:RA P RS n K Q rest (some d) p rs):DL P n K Q (⟨i,⟨some d,.call ⟨.builtin .append,AA,#[t,tx]⟩,ty,pos,af,gd⟩,g⟩::rest) p.fr p.S:=by
 obtain⟨vs,h1,h2⟩:=Ks hp.F ha;cases h2 with|cons hb2 h2=>cases h2 with|cons hx2 h2=>cases h2 with|nil=>
 unfold ud at h;split at h
 ·rename_i e CU sz ht;split at h
  ·rename_i Q9 GN hel;cases hc1:Nat.beq CU Q9&&p.st.room<;>rw[hc1]at h<;>simp only[AN,AO,reduceCtorEq]at h;simp only[AI]at hc1;obtain rfl:=AK hc1.1;have hEl:=hE.el _ _ _ hel;split at h
   ·rename_i kx szx htx;cases hkx:Xa kx a2<;>rw[hkx]at h<;>simp only[AN,AO,reduceCtorEq]at h;split at h
    ·rename_i m news hsrc;obtain⟨ns,hS,hcn,hnl⟩:=oM hE hp hsrc hx2 htx hkx;split at h
     ·
      cases hb2;cases hm0:Nat.beq m 0 with
      |true=>rw[hm0]at h;simp only[AN,AH]at h;subst h;obtain rfl:=AK hm0;have hns:ns=[]:=List.eq_nil_of_length_eq_zero (by simpa using hnl);subst hns;have hq:=ES _ (AP.2 J) p J J (.refl p) hp _ .val;exact DL.eI hE.T hg hn ht hEl h1 hS hq.1 hq.2
      |false=>
       rw[hm0]at h;simp only[AO]at h;cases hbd:Nat.ble (Nat.mul m GN) 140737488355328&&Nat.ble m 9223372036854775807<;>rw[hbd]at h<;>simp only[AN,AO,reduceCtorEq,AH]at h;subst h;simp only[AI]at hbd;have hpos:0<m:=by
        rcases Nat.eq_zero_or_pos m with e0|e0;·subst e0;simp at hm0
        ·exact e0
       have main:∀b cap ex,ex.length=(cap-m)*CU->m<=cap->Ge K (A7 b (ns++ex) e::p.S)/\DL P n K Q rest ((d,.slice (some ⟨b,0,none⟩) m cap)::p.fr) (A7 b (ns++ex) e::p.S):=fun b cap ex hex hc=>by obtain⟨g1,g2⟩:=KD hp hc1.2 (b:=b) (e:=e) hcn hnl hex hc;exact ES _ (AP.2 J) (p.new (b,cap) (.grown news e CU) (A7 b (ns++ex) e)) J J (.new hp _ _ _) g1 _ g2
       refine .eff _ _ (.inl J) hg (fun e he=>by cases he;simpa using hn) (FH (xs:=[]) (ex:=[]) hE.T J J ht hEl h1 hS (.inl ⟨rfl,rfl,rfl,rfl,rfl,hpos⟩) DI DI (Ao _) (by simpa using AL hbd.1) (by simpa using AL hbd.2)) (fun _ _ h=>h.elim) ?_ ?_
       ·rintro v S' ⟨b',cap',ex',rfl,e1,e2,rfl⟩;have:=(main b' cap' ex' (by simpa using e1) I).1;simpa using this
       ·rintro v S' ⟨b',cap',ex',rfl,e1,e2,rfl⟩;have:=(main b' cap' ex' (by simpa using e1) I).2;simpa[Sep.Dc]using this
     ·
      rename_i k off;cases hb2 with|sl hρ=>
      cases hm0:Nat.beq m 0 with
      |true=>rw[hm0]at h;simp at h
      |false=>
       rw[hm0]at h;simp only[AO]at h;cases hbd:Nat.ble (Nat.mul m GN) 140737488355328&&Nat.ble m 9223372036854775807<;>rw[hbd]at h<;>simp only[AN,AO,reduceCtorEq,AH]at h;subst h;simp only[AI]at hbd;have hpos:0<m:=by
        rcases Nat.eq_zero_or_pos m with e0|e0;·subst e0;simp at hm0
        ·exact e0
       have main:∀b cap ex,ex.length=(cap-m)*CU->m<=cap->Ge K (A7 b (ns++ex) e::p.S)/\DL P n K Q rest ((d,.slice (some ⟨b,0,none⟩) m cap)::p.fr) (A7 b (ns++ex) e::p.S):=fun b cap ex hex hc=>by obtain⟨g1,g2⟩:=KD hp hc1.2 (b:=b) (e:=e) hcn hnl hex hc;exact ES _ (AP.2 J) (p.new (b,cap) (.grown news e CU) (A7 b (ns++ex) e)) J J (.new hp _ _ _) g1 _ g2
       refine .eff _ _ (.inl J) hg (fun e he=>by cases he;simpa using hn) (Vx hE.T J J ht hEl h1 hS hpos (AL hbd.1) (AL hbd.2)) (fun _ _ h=>h.elim) ?_ ?_
       ·rintro v S' ⟨b',cap',ex',rfl,e1,e2,rfl⟩;exact(main b' cap' ex' e1 e2).1
       ·rintro v S' ⟨b',cap',ex',rfl,e1,e2,rfl⟩;exact(main b' cap' ex' e1 e2).2
     ·
      rename_i k len cap hne;split at h
      ·rename_i l bt hab;cases hbd:Nat.beq bt e&&Nat.ble len cap&&Nat.beq l.length (Nat.mul cap CU)&&Nat.ble (Nat.mul (Nat.add len m) GN) 140737488355328&&Nat.ble (Nat.add len m) 9223372036854775807<;>rw[hbd]at h<;>simp only[AN,AO,reduceCtorEq,AH]at h;subst h;simp only[AI]at hbd;obtain⟨⟨⟨⟨q1,q2⟩,q3⟩,q4⟩,q5⟩:=hbd;obtain rfl:=AK q1;have q2:=AL q2;have q3:l.length=cap*CU:=AK q3;cases hb2 with| @sl _ _ _ _ b0 c0 HK=>
       obtain⟨hlive,hcb⟩:=hp.mem hab;have hperm:=hp.H.pick hlive;generalize hC:p.C k=ck at hcb hperm;cases hcb with| @cells _ _ b c vs hρ hcl=>
       rw[hρ]at HK;cases HK;have hlv:=hcl.len;have hle:len*CU<=cap*CU:=DZ _ q2;have hxl:(vs.take (len*CU)).length=len*CU:=by rw[BP];omega
       have Py:(vs.drop (len*CU)).length=(cap-len)*CU:=by rw[B9,hlv,q3,Nat.sub_mul]
       have hsp:vs=vs.take (len*CU)++vs.drop (len*CU):=(CS _ _).symm;have hdel:=hp.del hlive;have main:∀b' cap' ex,ex.length=(cap'-(len+m))*CU->len+m<=cap'->Ge K (A7 b' (vs.take (len*CU)++ns++ex) bt::(p.live.erase k).map p.C)/\DL P n K Q rest ((d,.slice (some ⟨b',0,none⟩) (len+m) cap')::p.fr) (A7 b' (vs.take (len*CU)++ns++ex) bt::(p.live.erase k).map p.C):=fun b' cap' ex hex hc=>by obtain⟨g1,g2⟩:=KD (q:=p.del k) hdel hc1.2 (b:=b') (cap:=cap') (e:=bt) (ex:=ex) ((hcl.take (len*CU)).app hcn) (by rw[Aq,hxl,hnl,D2]) hex hc;exact ES _ (AP.2 J) ((p.del k).new (b',cap') (.grown (List.take (Nat.mul len CU) l++news) bt CU) (A7 b' (vs.take (len*CU)++ns++ex) bt)) J J ((Pt.to.del p k).trans (.new hdel _ _ _)) g1 _ g2
       refine DL.congr ?_ (Eo.refl _) hperm.symm;refine .eff _ _ (.inl J) hg (fun e he=>by cases he;simpa using hn) (FH (xs:=vs.take (len*CU)) (ex:=vs.drop (len*CU)) (U:=(p.live.erase k).map p.C) hE.T J J ht hEl h1 (hS.perm hperm) (.inr ⟨_,rfl,by rw[<-hsp];exact .here⟩) hxl Py q2 (AL q4) (AL q5)) (fun _ _ h=>h.elim) ?_ ?_
       ·rintro v S' ⟨b',cap',ex',rfl,e1,e2,rfl⟩;exact(main b' cap' ex' e1 e2).1
       ·rintro v S' ⟨b',cap',ex',rfl,e1,e2,rfl⟩;exact(main b' cap' ex' e1 e2).2
      ·cases h
     ·
      rename_i k len;split at h
      ·rename_i l bt ez hab;cases hbd:Nat.beq bt e&&Nat.beq ez CU&&Nat.ble (Nat.mul len CU) l.length&&Nat.ble (Nat.mul (Nat.add len m) GN) 140737488355328&&Nat.ble (Nat.add len m) 9223372036854775807<;>rw[hbd]at h<;>simp only[AN,AO,reduceCtorEq,AH]at h;subst h;simp only[AI]at hbd;obtain⟨⟨⟨⟨q1,q2⟩,q3⟩,q4⟩,q5⟩:=hbd;obtain rfl:=AK q1;obtain rfl:=AK q2;have q3:len*ez<=l.length:=AL q3;cases hb2 with| @G3 _ _ b0 c0 HK hc0=>
       obtain⟨hlive,hcb⟩:=hp.mem hab;have hperm:=hp.H.pick hlive;generalize hC:p.C k=ck at hcb hperm;cases hcb with| @grown _ _ _ b c vs yy hρ hcl aE4=>
       rw[hρ]at HK;cases HK;have hlv:=hcl.len;have hxl:(vs.take (len*ez)).length=len*ez:=by rw[BP];omega
       have Py:(vs.drop (len*ez)++yy).length=(c0-len)*ez:=by rw[Aq,B9,Nat.sub_mul];omega
       have hsp:vs++yy=vs.take (len*ez)++(vs.drop (len*ez)++yy):=by rw[<-AU,CS]
       have hdel:=hp.del hlive;have main:∀b' cap' ex,ex.length=(cap'-(len+m))*ez->len+m<=cap'->Ge K (A7 b' (vs.take (len*ez)++ns++ex) bt::(p.live.erase k).map p.C)/\DL P n K Q rest ((d,.slice (some ⟨b',0,none⟩) (len+m) cap')::p.fr) (A7 b' (vs.take (len*ez)++ns++ex) bt::(p.live.erase k).map p.C):=fun b' cap' ex hex hc=>by obtain⟨g1,g2⟩:=KD (q:=p.del k) hdel hc1.2 (b:=b') (cap:=cap') (e:=bt) (ex:=ex) ((hcl.take (len*ez)).app hcn) (by rw[Aq,hxl,hnl,D2]) hex hc;exact ES _ (AP.2 J) ((p.del k).new (b',cap') (.grown (List.take (Nat.mul len ez) l++news) bt ez) (A7 b' (vs.take (len*ez)++ns++ex) bt)) J J ((Pt.to.del p k).trans (.new hdel _ _ _)) g1 _ g2
       refine DL.congr ?_ (Eo.refl _) hperm.symm;refine .eff _ _ (.inl J) hg (fun e he=>by cases he;simpa using hn) (FH (xs:=vs.take (len*ez)) (ex:=vs.drop (len*ez)++yy) (U:=(p.live.erase k).map p.C) hE.T J J ht hEl h1 (hS.perm hperm) (.inr ⟨_,rfl,by rw[<-hsp];exact .here⟩) hxl Py hc0 (AL q4) (AL q5)) (fun _ _ h=>h.elim) ?_ ?_
       ·rintro v S' ⟨b',cap',ex',rfl,e1,e2,rfl⟩;exact(main b' cap' ex' e1 e2).1
       ·rintro v S' ⟨b',cap',ex',rfl,e1,e2,rfl⟩;exact(main b' cap' ex' e1 e2).2
      ·cases h
     ·
      rename_i k bb j ez x;split at h
      ·rename_i bt hab;cases hbd:Nat.beq x 1&&Nat.beq bt e&&Nat.beq ez CU&&Nat.blt 0 m&&Nat.ble (Nat.mul (Nat.add (Nat.add 4294967296 j) m) GN) 140737488355328&&Nat.ble (Nat.add (Nat.add 4294967296 j) m) 9223372036854775807<;>rw[hbd]at h<;>simp only[AN,AO,reduceCtorEq,AH]at h;subst h;simp only[AI]at hbd;obtain⟨⟨⟨⟨⟨q0,q1⟩,q2⟩,q3⟩,q4⟩,q5⟩:=hbd;obtain rfl:=AK q1;obtain rfl:=AK q2;have q3:0<m:=by simpa using q3
       have q4:(4294967296+j+m)*GN<=140737488355328:=AL q4;have q5:4294967296+j+m<=9223372036854775807:=AL q5;obtain rfl:=AK q0;clear q0;cases hb2 with| @GY _ _ _ _ _ q0 c0 qb cb _ HK P2 hv0=>
       obtain⟨hlive,hcb⟩:=hp.mem hab;have hperm:=hp.H.pick hlive;generalize hC:p.C k=ck at hcb hperm;cases hcb with|unk hρ hu=>
       rw[hρ]at HK;cases HK;have hdel:=hp.del hlive;have hl0:GQ qb<4294967296:=by unfold GQ;omega
       have aAk:∀x,((p.del k).ρ++[x])[bb]? =some (qb,cb):=fun x=>Dz [x] P2
       have main:∀b' cap' (cs:List Value),(∀len,len<=GQ qb+j->cs.length=cap'*ez->len+m<=cap'->Ge K (A7 b' cs bt::(p.live.erase k).map p.C)/\DL P n K Q rest ((d,.slice (some ⟨b',0,none⟩) (len+m) cap')::p.fr) (A7 b' cs bt::(p.live.erase k).map p.C)):=fun b' cap' cs len hlen hcs hc=>by
        have e1:QH ((b'+1)*4294967296)=b':=by unfold QH;omega
        have hne:(b'+1)*4294967296≠0:=I;have g1:=Pt.good.new (p:=p.del k) hdel hc1.2 ((b'+1)*4294967296,cap'*ez) (ab:=.unk none bt) (c:=A7 b' cs bt) (.unk (Pt.EZ hdel _) (show NV _ none bt _ _ _ from .inr ⟨hne,cs,hcs,(fun x hx=>by cases hx),by rw[e1]⟩));exact ES _ (AP.2 J) ((p.del k).new ((b'+1)*4294967296,cap'*ez) (.unk none bt) (A7 b' cs bt)) J J ((Pt.to.del p k).trans (.new hdel _ _ _)) g1 _ (.GY (Pt.EZ hdel _) (aAk _) (.inr ⟨hne,0,len+m,cap',by rw[e1],hc,(show len+m<=GQ qb+(j+m) by omega),I,fun _=>⟨rfl,rfl⟩,fun h=>by cases h⟩))
       refine DL.congr ?_ (Eo.refl _) hperm.symm;rcases hu with⟨rfl,rfl⟩|⟨hq0,ex,hex,_,rfl⟩
       ·rcases hv0 with⟨_,rfl,_⟩|⟨hq,_⟩
        ·have hpn:([]::(p.live.erase k).map p.C).flatten.Perm ((p.live.erase k).map p.C).flatten:=by simp
         have hS2:DO P ez ((p.live.erase k).map p.C) tx _ m ns:=(hS.perm hperm).TQ hpn;refine .eff _ _ (.inl J) hg (fun e he=>by cases he;simpa using hn) (Eff.TQ hpn (FH (xs:=[]) (ex:=[]) hE.T J J ht hEl h1 hS2 (.inl ⟨rfl,rfl,rfl,rfl,rfl,q3⟩) DI DI (Ao _) (Nat.le_trans (DZ _ I) q4) I)) (fun _ _ h=>h.elim) ?_ ?_
         ·rintro v S' ⟨b',cap',ex',rfl,e1,e2,rfl⟩;exact(main b' cap' ([]++ns++ex') 0 I (by simp only[AS,Aq,hnl,e1];rw[<-D2];congr 1;omega) e2).1
         ·rintro v S' ⟨b',cap',ex',rfl,e1,e2,rfl⟩;exact(main b' cap' ([]++ns++ex') 0 I (by simp only[AS,Aq,hnl,e1];rw[<-D2];congr 1;omega) e2).2
        ·exact absurd J hq
       ·rcases hv0 with⟨hq,_⟩|⟨_,off,len,cap,rfl,h2,h3,h4,h5⟩
        ·exact absurd hq hq0
        ·obtain⟨rfl,h6⟩:=h5.1 J;have hle:len*ez<=ex.length:=by rw[hex,<-h6];exact DZ _ h2
         have hxl:(ex.take (len*ez)).length=len*ez:=by rw[BP];omega
         have Py:(ex.drop (len*ez)).length=(cap-len)*ez:=by rw[B9,hex,<-h6,Nat.sub_mul]
         have hsp:ex=ex.take (len*ez)++ex.drop (len*ez):=(CS _ _).symm;refine .eff _ _ (.inl J) hg (fun e he=>by cases he;simpa using hn) (FH (xs:=ex.take (len*ez)) (ex:=ex.drop (len*ez)) (U:=(p.live.erase k).map p.C) hE.T J J ht hEl h1 (hS.perm hperm) (.inr ⟨_,rfl,by rw[<-hsp];exact .here⟩) hxl Py h2 (Nat.le_trans (DZ _ I) q4) I) (fun _ _ h=>h.elim) ?_ ?_
         ·rintro v S' ⟨b',cap',ex',rfl,e1,e2,rfl⟩;exact(main b' cap' _ len h3 (by rw[Aq,Aq,hxl,hnl,e1,<-D2,<-D2];congr 1;omega) e2).1
         ·rintro v S' ⟨b',cap',ex',rfl,e1,e2,rfl⟩;exact(main b' cap' _ len h3 (by rw[Aq,Aq,hxl,hnl,e1,<-D2,<-D2];congr 1;omega) e2).2
      ·cases h
     ·cases h
    ·cases h
   ·cases h
  ·cases h
 ·cases h
end
section
variable{P:Program} {RS:EA} {E:GI} {n:Nat} {K:Option A2} {Q:EX} {rest:List FO}
variable{i ty:Nat} {pos:String} {af:Array Edge} {gd g:Option (Nat×Bool)} {d:Nat} {p:Pt} {rs:List R1}
theorem UU{P:Program}(w:World)(dT sT ty elem:TypeId)(g o dLen dCap:Nat)(s:ByteArray)(cur:Array Value)(t:TypeId)
 (hu:P.underlying dT=some (.slice elem)) (hs:(P.info? elem).map (·.size)=some 1)
 (hg:w.heap[g]? =some (.cells cur t (0,0))) (hle:s.size<=dLen) (hfit:o+(byteCells s).length<=cur.size):
 (Builtin.copy_ #[dT,sT] ty #[.slice (some ⟨g,o,none⟩) dLen dCap,.string s]).run P w=
  .ok (goInt (byteCells s).length) (w.setRow g (cur.toList.take o++byteCells s++cur.toList.drop (o+(byteCells s).length)).toArray):=by
 have h1:∀v∈byteCells s,v.oneCell'=true:=fun u hu=>by obtain⟨_,_,rfl⟩:=A8.1 hu;rfl
 have hst:=run_storeCells_at P g o t (byteCells s) 0 cur w hg (by simpa using hfit) h1;have hfc:=firstCells_string (P:=P) s w;have hmin:Nat.min s.size dLen=s.size:=Nat.min_eq_left hle;cases hq:P.info? elem with
 |none=>simp[hq]at hs
 |some i=>
  have hi:i.size=1:=by simpa[hq]using hs
  simp only[CV]at hst;have aAl:min s.size dLen=s.size:=Nat.min_eq_left hle;simp[Builtin.copy_,Ac hu,Builtin.lenOf,sizeOf,typeInfo,hq,hi,hmin,aAl,hfc,hst,byteCells_length]at hst⊢;try simp[hst]
variable{AA:Array Operand}{fr:Fr}{S:A2}
theorem DL.copyS{T:Tr}(hT:Dp P T=true){dT sT e sz b off dl dc bt:Nat}{dd:Option Nat}{s:ByteArray}{cs cs':List Value}{S':A2}(hg:lg fr g=some true)(hd:∀x,dd=some x->Nat.blt x n=true)(ht:T.get dT=some ⟨.sl e 1,sz⟩)(hE:JI P e 1=true)
 (ha:FP fr AA.toList=some [.slice (some ⟨b,off,none⟩) dl dc,.string s]) (hu:SL (A7 b cs bt) (A7 b cs' bt) S S') (hc:cs.take off++byteCells s++cs.drop (off+(byteCells s).length)=cs')
 (hle:s.size<=dl) (hfit:off+(byteCells s).length<=cs.length) (hK:Ge K S') (h:DL P n K Q rest (Dc dd (.int .i64 (byteCells s).length) fr) S'):
 DL P n K Q (⟨i,⟨dd,.call ⟨.builtin .copy,AA,#[dT,sT]⟩,ty,pos,af,gd⟩,g⟩::rest) fr S:=by
 refine .eff (fun v T=>v=.int .i64 (byteCells s).length/\T=S') (fun _ _=>False) (.inl J) hg (fun e he=>by simpa using hd e he) ?_ (fun _ _ h=>h.elim) (by rintro v T ⟨rfl,rfl⟩;exact hK) (by rintro v T ⟨rfl,rfl⟩;exact h);intro A R a w hk hs;obtain⟨U,p1,p2⟩:=hu.perm;have hs1:=hs.perm (p1.append_right R);have hb:w.heap[b]? =some (.cells cs.toArray bt (0,0)):=hs1.has (b,_) (by simp[A7]);obtain⟨hu',_⟩:=Et hT ht J;obtain⟨ie,hi,hsz⟩:=Gi hE;have hargs:AA.map a.eval= #[.slice (some ⟨b,off,none⟩) dl dc,.string s]:=Bl.1 (by simpa using EV hk ha);have hr:=UU (P:=P) w dT sT ty e b off dl dc s cs.toArray bt hu' (by rw[hi];simp[hsz]) hb hle (by simpa using hfit);simp only at hr;rw[hc]at hr;have hrun:(execOp a.eval ⟨dd,.call ⟨.builtin .copy,AA,#[dT,sT]⟩,ty,pos,af,gd⟩).run P w=.ok (.value (.int .i64 (byteCells s).length)) (w.setRow b cs'.toArray):=by simp only[execOp,resolve,invoke,builtin,Ag,BA,Ad,hargs,hr];rfl
 rw[Fq,hrun];exact⟨S',Ds.perm (Ds.put (S:=U++R) (b:=b) (o:=.cells cs.toArray bt (0,0)) hs1 J J J (by simp[World.setRow]) (setRow_heap w b _ _ _ _ hb) (fun k hk hne=>setRow_other w b k _ hne)) (p2.symm.append_right R),rfl,rfl⟩
variable{tx:Nat}{a1:AV}
theorem vA(hE:En P RS E)(hp:p.good RS){str:ByteArray}(ha:W7 p.st.fr AA.toList=some [a1,.val (.string str)])(hg:lg p.fr g=some true){dd:Option Nat}(hd:∀x,dd=some x->Nat.blt x n=true)(h:uh E t a1 str p.st=some rs)
 (ES:RA P RS n K Q rest dd p rs):DL P n K Q (⟨i,⟨dd,.call ⟨.builtin .copy,AA,#[t,tx]⟩,ty,pos,af,gd⟩,g⟩::rest) p.fr p.S:=by
 obtain⟨vs0,h1,h2⟩:=Ks hp.F ha;cases h2 with|cons hb2 h2=>cases h2 with|cons hx2 h2=>cases h2 with|nil=>
 cases hx2;unfold uh at h;split at h
 ·rename_i e sz ht;split at h
  ·rename_i GN hel;have hEl:=hE.el _ _ _ hel;have vB:JI P e 1=true:=by obtain⟨ie,z,hi,q1,_⟩:=Gy hEl;unfold JI;rw[hi];simpa using q1
   split at h
   ·rename_i k off dl hsd;split at h
    ·rename_i ab hab;split at h
     ·rename_i l hl;cases hb:Nat.ble (M6 str).length dl&&Nat.ble (Nat.add off (M6 str).length) l.length<;>rw[hb]at h<;>simp only[AN,AO,reduceCtorEq,AH]at h;subst h;simp only[AI]at hb;have q1:=AL hb.1;have q3:off+(M6 str).length<=l.length:=AL hb.2;obtain⟨b,c,cap,hρ,rfl⟩:=Nc hsd hb2;obtain⟨hlive,hcb⟩:=hp.mem hab;obtain⟨bb,cc,vs,ex,bt,E8,hcl,hC,hw⟩:=hcb.with hl
      rw[hρ]at E8;cases E8;have hby:Bt p.ρ (M6 str) (byteCells str):=RB str;have hlb:=hby.len;have hlv:=hcl.len;have hperm:p.S.Perm (A7 b (vs++ex) bt::(p.live.erase k).map p.C):=hC▸hp.H.pick hlive;have hfit:off+(byteCells str).length<=vs.length:=I;have hnew:=hw (List.take off l++M6 str++List.drop (Nat.add off (M6 str).length) l) (vs.take off++byteCells str++vs.drop (off+(byteCells str).length)) (((hcl.take off).app hby).app (by rw[hlb];exact hcl.drop _)) (by simp only[Aq,B9,BP (l:=vs)];omega);have hq:=ES _ (AP.2 J) (p.set k _ _) J J (.set p k _ _) (hp.set hlive hnew) (.int .i64 (M6 str).length) (.int (A4 _) (A4 _));refine DL.congr (S:=A7 b (vs++ex) bt::(p.live.erase k).map p.C) ?_ (Eo.refl _) hperm.symm;refine DL.copyS (cs:=vs++ex) (cs':=(vs.take off++byteCells str++vs.drop (off+(byteCells str).length))++ex) hE.T hg hd ht vB h1 .here (UT hfit) (by rw[byteCells_length]at hlb;omega) (by simp only[Aq];omega) hq.1 ?_;rw[hlb]at hq⊢;exact hq.2
     ·cases h
    ·cases h
   ·cases h
  ·cases h
 ·cases h
variable{a2:AV}
theorem vC(hE:En P RS E)(hp:p.good RS)(ha:W7 p.st.fr AA.toList=some [a1,a2])(hg:lg p.fr g=some true){dd:Option Nat}(hd:∀x,dd=some x->Nat.blt x n=true)(h:ug E t a1 a2 p.st=some rs)
 (ES:RA P RS n K Q rest dd p rs):DL P n K Q (⟨i,⟨dd,.call ⟨.builtin .copy,AA,#[t,tx]⟩,ty,pos,af,gd⟩,g⟩::rest) p.fr p.S:=by
 obtain⟨vs0,h1,h2⟩:=Ks hp.F ha;cases h2 with|cons hb2 h2=>cases h2 with|cons hx2 h2=>cases h2 with|nil=>
 unfold ug at h;split at h
 ·rename_i e sz ht;split at h
  ·rename_i GN hel;have hEl:=hE.el _ _ _ hel;have vB:JI P e 1=true:=by obtain⟨ie,z,hi,q1,_⟩:=Gy hEl;unfold JI;rw[hi];simpa using q1
   split at h
   ·rename_i k off dl hsd;split at h
    ·rename_i ab hab;split at h
     ·rename_i l hl;split at h
      ·rename_i k2 off2 sl hss;split at h
       ·rename_i rU aCB;split at h
        ·rename_i l2 hl2;simp only at h;generalize hm:(bif Nat.ble sl dl then sl else dl)=m at h;have hmm:min sl dl=m:=by
          rw[<-hm];cases hb:Nat.ble sl dl with
          |true=>have:=AL hb;simp;omega
          |false=>
           have:¬sl<=dl:=fun hh=>by rw[Nat.ble_eq_true_of_le hh]at hb;cases hb
           simp;omega
         cases hb:Nat.beq (List.take m (List.drop off2 l2)).length m&&(List.take m (List.drop off2 l2)).all SY&&Nat.ble (Nat.add off m) l.length<;>rw[hb]at h<;>simp only[AN,AO,reduceCtorEq,AH]at h;subst h;simp only[AI]at hb;obtain⟨⟨q1,q2⟩,q3⟩:=hb;have q1:=AK q1;have q3:off+m<=l.length:=AL q3;obtain⟨b,c,cap,hρ,rfl⟩:=Nc hsd hb2;obtain⟨b2,c2,cap2,IJ,rfl⟩:=Nc hss hx2;obtain⟨hlive,hcb⟩:=hp.mem hab;obtain⟨HC,hcb2⟩:=hp.mem aCB;obtain⟨bb,cc,vs,ex,bt,E8,hcl,hC,hw⟩:=hcb.with hl
         rw[hρ]at E8;cases E8;obtain⟨bb2,cc2,vs2,ex2,bt2,rY,oK,hC2⟩:=hcb2.cs hl2;rw[IJ]at rY;cases rY;have hc2:=(oK.drop off2).take m;have hlen2:(List.take m (List.drop off2 vs2)).length=m:=by rw[hc2.len];exact q1
         have hlv:=hcl.len;have hin:=hp.inS HC;rw[hC2]at hin;have hperm:p.S.Perm (A7 b (vs++ex) bt::(p.live.erase k).map p.C):=hC▸hp.H.pick hlive;have hin2:=hperm.mem_iff.1 hin;have hfit:off+(List.take m (List.drop off2 vs2)).length<=vs.length:=I;have hnew:=hw (List.take off l++List.take m (List.drop off2 l2)++List.drop (Nat.add off m) l) (vs.take off++List.take m (List.drop off2 vs2)++vs.drop (off+(List.take m (List.drop off2 vs2)).length)) (((hcl.take off).app hc2).app (by rw[hlen2];exact hcl.drop _)) (by simp only[Aq,B9,hlen2,BP (l:=vs)];omega);have hq:=ES _ (AP.2 J) (p.set k _ _) J J (.set p k _ _) (hp.set hlive hnew) (.int .i64 m) (.int (A4 _) (A4 _));refine DL.congr (S:=A7 b (vs++ex) bt::(p.live.erase k).map p.C) ?_ (Eo.refl _) hperm.symm;have hlm:(List.take m (List.drop off2 vs2)).length=min sl dl:=by rw[hlen2,hmm]
         refine DL.copy (cs:=vs++ex) (vs:=List.take m (List.drop off2 vs2)) (cs':=(vs.take off++List.take m (List.drop off2 vs2)++vs.drop (off+(List.take m (List.drop off2 vs2)).length))++ex) hE.T hg hd ht vB h1 (In.of hin2) .here ?_ hlm (UT hfit) (Lr hc2 q2) (by simp only[Aq];omega) hq.1 ?_
         ·rw[hmm];exact Gk hlen2
         ·rw[hlen2];rw[hlen2]at hq;exact hq.2
        ·cases h
       ·cases h
      ·cases h
     ·cases h
    ·cases h
   ·cases h
  ·cases h
 ·cases h
theorem Vy{ρ:Nm}{CU:Nat}:∀{k:Nat} {ps:List (Nat×List AV)} {l:List AV} {vs:List (Nat×List Value)},TN CU k ps=some l->MN ρ ps vs->∃NP,vs=Nz k NP/\(∀v∈NP,v.length=CU)/\Bt ρ l NP.flatten/\NP.length=ps.length
 |k,[],l,_,h,.nil=>by simp only[TN,AH]at h;subst h;exact⟨[],rfl,by simp,.nil,rfl⟩
 |k,(i,a)::ps,l,_,h,.cons (v:=v) h1 h2=>by
  simp only[TN]at h;cases hb:Nat.beq i k&&Nat.beq a.length CU<;>rw[hb]at h<;>simp only[AN,AO,reduceCtorEq]at h;simp only[AI]at hb;obtain rfl:=AK hb.1;have e1:=AK hb.2;split at h
  ·rename_i m hm;simp only[AH]at h;subst h;obtain⟨NP,q1,q2,q3,q4⟩:=Vy hm h2;exact⟨v::NP,by rw[q1];rfl,by intro u hu;rcases Ab.1 hu with rfl|hu;exact h1.len.trans e1;exact q2 u hu,h1.app q3,by simp[q4]⟩
  ·cases h
variable{l:List AV}
theorem aH(hE:En P RS E)(hp:p.good RS){u len e CU GN sz:Nat}{parts:List (Nat×Operand)}{ps:List (Nat×List AV)}(ht:E.T.get u=some ⟨.sl e CU,sz⟩)(hel:E.el e=some (CU,GN))(hps:Ku p.st.fr parts=some ps)(hen:TN CU 0 ps=some l)
 (hlen:ps.length=len) (hs:len*CU<=16777216) (hr:p.st.room=true) (hg:lg p.fr g=some true) (hn:Nat.blt d n=true) (ES:RA P RS n K Q rest (some d) p [.val (.sl p.st.nx 0 len len) (p.st.new (.cells l e))]):
 DL P n K Q (⟨i,⟨some d,.buildSlice u len parts.toArray,ty,pos,af,gd⟩,g⟩::rest) p.fr p.S:=by
 obtain⟨vs,h1,h2⟩:=NY hp.F hps;obtain⟨NP,rfl,q2,q3,q4⟩:=Vy hen h2;have main:∀b,Ge K (A7 b NP.flatten e::p.S)/\DL P n K Q rest ((d,.slice (some ⟨b,0,none⟩) len len)::p.fr) (A7 b NP.flatten e::p.S):=fun b=>ES _ (AP.2 J) (p.new (b,0) (.cells l e) (A7 b NP.flatten e)) J J (.new hp _ _ _) (hp.new hr _ (.cells (Pt.EZ hp _) (q3.mono _))) _ (.sl (Pt.EZ hp _))
 exact .fresh J hg J hn (S9 hE.T ht (hE.el _ _ _ hel) h1 (q4.trans hlen) q2 J hs) (fun b=>(main b).1) (fun b=>(main b).2)
theorem Y5{ρ:Nm}{l:List AV}{vs:List Value}(h:Bt ρ l vs):∀m:Nat,Bt ρ (List.replicate m l).flatten (List.replicate m vs).flatten
 |0=>.nil
 |m+1=>by simp only[CJ,AW];exact h.app (Y5 h m)
variable{u e CU GN sz m:Nat}{x y:Operand}{a:AV}{z:Value}
theorem oN(hE:En P RS E)(hp:p.good RS){b:AV}(ht:E.T.get u=some ⟨.sl e CU,sz⟩)(hel:E.el e=some (CU,GN))(hx:ao p.st.fr x=some a)(hy:ao p.st.fr y=some b)(ha:VU a=some m)(hb:VU b=some m)(hz:E.zt e=some z)
 (h1:GN*m<=281474976710656) (h2:m<=9223372036854775807) (hr:p.st.room=true) (hg:lg p.fr g=some true) (hn:Nat.blt d n=true) (ES:RA P RS n K Q rest (some d) p [.val (.sl p.st.nx 0 m m) (p.st.new (.cells (List.replicate m (GU (Is z))).flatten e))]):
 DL P n K Q (⟨i,⟨some d,.makeSlice u x y,ty,pos,af,gd⟩,g⟩::rest) p.fr p.S:=by
 obtain⟨vx,hx1,hx2⟩:=DG hp.F hx;obtain⟨vy,hy1,hy2⟩:=DG hp.F hy;obtain⟨k,rfl⟩:=Iu ha hx2;obtain⟨k',rfl⟩:=Iu hb hy2;have hc:=JB (ρ:=p.ρ) (Kt z);have main:∀b,Ge K (A7 b (List.replicate m z.cells.toList).flatten e::p.S)/\DL P n K Q rest ((d,.slice (some ⟨b,0,none⟩) m m)::p.fr) (A7 b (List.replicate m z.cells.toList).flatten e::p.S):=fun b=>ES _ (AP.2 J) (p.new (b,0) (.cells (List.replicate m (GU (Is z))).flatten e) (A7 b (List.replicate m z.cells.toList).flatten e)) J J (.new hp _ _ _) (hp.new hr _ (.cells (Pt.EZ hp _) ((Y5 hc m).mono _))) _ (.sl (Pt.EZ hp _))
 exact .fresh J hg J hn (Yq hE.T hE.zt ht (hE.el _ _ _ hel) hz DI hx1 hy1 h1 h2) (fun b=>(main b).1) (fun b=>(main b).2)
theorem fw(hp:p.good RS)(hx:ao p.st.fr x=some (.LU t a))(hg:lg p.fr g=some true)(ES:RA P RS n K Q rest none p [.Eu (.LU t a) p.st]):DL P n K Q (⟨i,⟨none,.panic x,ty,pos,af,gd⟩,g⟩::rest) p.fr p.S:=by
 obtain⟨v,h1,h2⟩:=DG hp.F hx;cases h2 with|LU h2=>
 exact DL.panic hg h1 (ES _ (AP.2 J) p J J (.refl p) hp _ (.LU h2))
variable{f:Nat}{ts:Array TypeId}
theorem oO(hp:p.good RS){fv:Operand}{a c vs:List AV}(hfv:ao p.st.fr fv=some (.fn f a c))(has:W7 p.st.fr AA.toList=some vs)(hok:E5 P f=true)(hg:lg p.fr g=some true){dd:Option Nat}(hd:∀x,dd=some x->x<n)
 (hF:∀us,Bt p.ρ (a++vs++c) us->Fn P f us p.S (Ij RS p rs)) (ES:RA P RS n K Q rest dd p rs):DL P n K Q (⟨i,⟨dd,.call ⟨.value fv,AA,ts⟩,ty,pos,af,gd⟩,g⟩::rest) p.fr p.S:=by
 obtain⟨v,h1,h2⟩:=DG hp.F hfv;obtain⟨us,h3,h4⟩:=Ks hp.F has;cases h2 with|fn ha hc=>
 have hpk:DV p.S p.S []:=J9 p.S;refine .eff _ _ (.inl J) hg hd (Qe J h1 hok h3 hpk (hF _ ((ha.app h4).app hc))) ?_ ?_ ?_
 ·rintro ch S' ⟨S1,rfl,hR⟩;rw[Am];rcases hR with⟨a',s,hm,q,v,e1,e2,e3,e4,e5,e6,e7⟩|⟨a',s,hm,q,v,e1,e2,e3,e4,e5,e6,e7⟩
  ·cases e7
  ·cases e7;subst e3;exact ES _ hm q e1 e2 e4 e5 v e6
 ·rintro v S' ⟨S1,rfl,hR⟩;rw[Am];rcases hR with⟨a',s,hm,q,v,e1,e2,e3,e4,e5,e6,e7⟩|⟨a',s,hm,q,v,e1,e2,e3,e4,e5,e6,e7⟩
  ·cases e7;subst e3;exact(ES _ hm q e1 e2 e4 e5 v e6).1
  ·cases e7
 ·rintro v S' ⟨S1,rfl,hR⟩;rw[Am];rcases hR with⟨a',s,hm,q,v,e1,e2,e3,e4,e5,e6,e7⟩|⟨a',s,hm,q,v,e1,e2,e3,e4,e5,e6,e7⟩
  ·cases e7;subst e3;exact(ES _ hm q e1 e2 e4 e5 v e6).2
  ·cases e7
theorem F4{α β:Type}{f:α->Option (List β)}:∀{l:List α} {r:List β},Lp l f=some r->∀x∈l,∃m,f x=some m/\∀y∈m,y∈r
 |[],_,_,x,hx=>by cases hx
 |a::l,r,h,x,hx=>by
  simp only[Lp]at h;split at h
  ·rename_i m hm;split at h
   ·rename_i m' hm';simp only[AH]at h;subst h;rcases Ab.1 hx with rfl|hx
    ·exact⟨m,hm,fun y hy=>A3 _ hy⟩
    ·obtain⟨m2,h1,h2⟩:=F4 hm' x hx;exact⟨m2,h1,fun y hy=>BK _ (h2 y hy)⟩
   ·cases h
  ·cases h
theorem RE{ρ:Nm}:∀{l:List AV} {vs:List Value} {k:Nat} {t:C7 AV} {fr:Fr},Bt ρ l vs->k+l.length<=2^24->(∀s a,t.get s=some a->s<k/\∃v,lk fr s=some v/\EM ρ a v)->(∀s v,lk fr s=some v->s<k)->∀s a,(PX k l t).get s=some a->∃v,lk (fr++Jl k vs) s=some v/\EM ρ a v
 |[],_,k,t,fr,.nil,_,h,_,s,a,hs=>by obtain⟨_,v,h1,h2⟩:=h s a hs;exact⟨v,by simp[Jl,h1],h2⟩
 |a::l,_,k,t,fr,.cons (v:=v) (vs:=vs) h1 h2,hk,h,hlt,s,b,hs=>by
  simp only[Bz]at hk;have Xh:∀{fr:Fr} {u:Value},(∀s v,lk fr s=some v->s<k)->∀s,lk (fr++[(k,u)]) s=if s=k then some u else lk fr s:=by
   intro fr u hf s;induction fr with
   |nil=>simp[lk,GH];by_cases e:s=k<;>simp[e];omega
   |cons q fr ih=>
    obtain⟨q1,q2⟩:=q;simp only[AQ,lk];cases hq:Nat.beq q1 s with
    |true=>obtain rfl:=AK hq;have:=hf q1 q2 (by simp[lk]);simp only[AN];rw[Ah I]
    |false=>
     simp only[AO];refine ih (fun s' v' hs'=> ?_);cases hq':Nat.beq q1 s' with
     |true=>obtain rfl:=AK hq';exact hf q1 q2 (by simp[lk])
     |false=>exact hf s' v' (by simp[lk,hq',hs'])
  have:=RE (k:=k+1) (t:=t.put 24 k (some a)) (fr:=fr++[(k,v)]) h2 I (fun s' a' hs'=> ?_) (fun s' v' hs'=> ?_) s b hs
  ·obtain⟨w,e1,e2⟩:=this;refine⟨w,?_,e2⟩;simpa[Jl]using e1
  ·rw[C7.get_put 24 t k s' _ I]at hs';by_cases e:s'=k
   ·subst e;simp at hs';subst hs';exact⟨I,v,by rw[Xh hlt];simp,h1⟩
   ·rw[Ah e]at hs';obtain⟨q1,w,q2,q3⟩:=h s' a' hs';exact⟨I,w,by rw[Xh hlt,Ah e];exact q2,q3⟩
  ·rw[Xh hlt]at hs';by_cases e:s'=k
   ·omega
   ·rw[Ah e]at hs';have:=hlt s' v' hs';omega
end
section
variable{P:Program} {RS:EA} {E:GI} {n:Nat}
variable{q:Pt}{a:AV}
theorem O6(hE:En P RS E)(hq:q.good RS){r:ResultVar}(h:rW E.T q.st r=some a):∃v,RV P n q.fr q.S r v/\EM q.ρ a v:=by
 cases r with
 |tmp t=>obtain⟨v,h1,h2⟩:=hq.F t a h;exact⟨v,RV.tmp h1,h2⟩
 |cell x u=>
  simp only[rW]at h;split at h
  ·rename_i k hx;split at h
   ·rename_i ti ht;split at h
    ·rename_i l bt hab;obtain⟨hlive,hcb⟩:=hq.mem hab;have hin:=hq.inS hlive;obtain⟨vx,hx1,hx2⟩:=hq.F x _ hx;cases hx2 with| @Au _ _ b0 c0 HK=>
     generalize hC:q.C k=ck at hcb hin;cases hcb with| @cells _ _ b c vs hρ hcl=>
     rw[hρ]at HK;cases HK;obtain⟨kd,sz⟩:=ti;cases hag:kd.agg with
     |true=>simp only[hag,AN]at h;cases hb:Nat.beq l.length sz<;>rw[hb]at h<;>simp only[AN,AO,reduceCtorEq,AH]at h;subst h;exact⟨_,RV.D8 hE.T hx1 ht hag hin (by rw[hcl.len];exact AK hb),.agg hcl⟩
     |false=>simp only[hag,AO]at h;obtain⟨v,h1,h2⟩:=hcl.at h;exact⟨v,RV.cell1 hE.T hx1 ht hag hin h1,h2⟩
    ·cases h
   ·cases h
  ·cases h
theorem UV(hE:En P RS E)(hq:q.good RS){rs:List ResultVar}(h:fX E.T q.st rs=some a):∃v,Oq q.fr q.S P n rs v/\EM q.ρ a v:=by
 unfold fX at h;split at h
 ·simp only[AH]at h;subst h;exact⟨_,res0,.Ec .nil⟩
 ·obtain⟨v,h1,h2⟩:=O6 (n:=n) hE hq h;exact⟨v,DC h1,h2⟩
 ·split at h
  ·rename_i x hx;split at h
   ·rename_i y hy;simp only[AH]at h;subst h;obtain⟨v,h1,h2⟩:=O6 (n:=n) hE hq hx;obtain⟨w,h3,h4⟩:=O6 (n:=n) hE hq hy;exact⟨_,Fb h1 h3,.Ec (.cons h2 (.cons h4 .nil))⟩
   ·cases h
  ·cases h
 ·split at h
  ·rename_i x hx;split at h
   ·rename_i y hy;split at h
    ·rename_i z hz;simp only[AH]at h;subst h;obtain⟨v,h1,h2⟩:=O6 (n:=n) hE hq hx;obtain⟨w,h3,h4⟩:=O6 (n:=n) hE hq hy;obtain⟨u,h5,h6⟩:=O6 (n:=n) hE hq hz;exact⟨_,UE h1 h3 h5,.Ec (.cons h2 (.cons h4 (.cons h6 .nil)))⟩
    ·cases h
   ·cases h
  ·cases h
 ·cases h
def GK(P:Program)(RS:EA)(ih:Ih):Prop:=∀f n c st outs,ih f n c st=some outs->Snd P RS n c st outs
variable{ih:Ih}{f:Nat}{rs:List R1}
theorem FD(hE:En P RS E)(hih:GK P RS ih){args:List AV}{p:Pt}(hp:p.good RS)(h:B7 E ih f args p.st=some rs):E5 P f=true/\∀us,Bt p.ρ args us->Fn P f us p.S (Ij RS p rs):=by
 unfold B7 at h;split at h
 ·rename_i c hc;exact⟨hE.uy f c hc,hE.ct f c hc args p.st rs h p J hp⟩
 ·split at h
  ·rename_i fi hfi;obtain⟨⟨fn,e1,e2,e3,e4⟩,hok⟩:=hE.ft f fi hfi;refine⟨hok,fun us hus=> ?_⟩;split at h
   ·rename_i outs hout;cases hlen:Nat.ble args.length 1000<;>rw[hlen]at hout<;>simp only[AN,AO,reduceCtorEq]at hout;have hlen:=AL hlen;refine Fn.of e1 e2 e3 fi.results e4 ?_;have hF0:Kr p.ρ (PX 0 args .e) (Jl 0 us):=fun s a hs=>by have:=RE (k:=0) (t:=.e) (fr:=[]) hus I (fun s a hs=>by simp[C7.FC]at hs) (fun s v hs=>by simp[lk]at hs) s a hs;simpa using this
    refine hih f fi.n fi.body _ outs hout ⟨p.ρ,{p.st with fr:=PX 0 args .e},Jl 0 us,p.S,p.live,p.C⟩ J ⟨hF0,hp.H,hp.lt⟩ _ ?_;intro o ho q hq hto hgood;obtain⟨m,h1,h2⟩:=F4 h o ho;have KE:p.to ⟨q.ρ,{o.2 with fr:=p.st.fr},p.fr,q.S,q.live,q.C⟩:=⟨hto.ext,fun k hk hn=>hto.kept k hk (by rw[hq];exact hn),hto.old,by have:=hto.nx;rw[hq]at this;exact this,fun k hk=>by have:=hto.md k hk;rw[hq]at this;exact this⟩
    have fx:Pt.good RS ⟨q.ρ,{o.2 with fr:=p.st.fr},p.fr,q.S,q.live,q.C⟩:=⟨KE.aAh hp.F,by have:=hgood.H;rw[hq]at this;exact this,by have:=hgood.lt;rw[hq]at this;exact this⟩
    have hres:∀{a:AV},fX E.T o.2 fi.results=some a->R1.val a {o.2 with fr:=p.st.fr}∈rs->∃v S' U,Oq q.fr q.S P fi.n fi.results v/\DV q.S S' U/\Ij RS p rs (.returned v) S':=fun{a} ha hm=>by rw[<-hq]at ha;obtain⟨v,h3,h4⟩:=UV (n:=fi.n) hE hgood ha;exact⟨v,q.S,[],h3,J9 _,.inl ⟨a,_,hm,⟨q.ρ,{o.2 with fr:=p.st.fr},p.fr,q.S,q.live,q.C⟩,v,rfl,rfl,rfl,KE,fx,h4,rfl⟩⟩
    obtain⟨e,s⟩:=o;cases e with
    |nor=>
     simp only at h1;split at h1
     ·rename_i a ha;simp only[AH]at h1;subst h1;exact hres ha (h2 _ (AP.2 J))
     ·cases h1
    |ret=>
     simp only at h1;split at h1
     ·rename_i a ha;simp only[AH]at h1;subst h1;exact hres ha (h2 _ (AP.2 J))
     ·cases h1
    |ex id=>simp at h1
    |Eu v=>simp only[AH]at h1;subst h1;intro u hu;exact⟨q.S,[],J9 _,.inr ⟨v,_,h2 _ (AP.2 J),⟨q.ρ,{s with fr:=p.st.fr},p.fr,q.S,q.live,q.C⟩,u,rfl,rfl,rfl,KE,fx,hu,rfl⟩⟩
   ·cases h
  ·cases h
variable{K:Option A2} {Q:EX} {rest:List FO} {i ty:Nat} {pos:String} {af:Array Edge} {gd g:Option (Nat×Bool)}
variable{dst:Option Nat}
theorem RF{n:Nat}(h:Lq n dst=true):∀e,dst=some e->e<n/\e<2^24:=by intro e he;subst he;simp only[Lq,AI]at h;exact⟨by simpa using h.1,by simpa using h.2⟩
variable{op:Op}
theorem vD(hE:En P RS E)(hih:GK P RS ih){p:Pt}(hp:p.good RS)(h:yx E ih g.isNone dst.isSome p.st op=some rs)(hg:lg p.fr g=some true)(hd:Lq n dst=true)
 (ES:RA P RS n K Q rest dst p rs):DL P n K Q (⟨i,⟨dst,op,ty,pos,af,gd⟩,g⟩::rest) p.fr p.S:=by
 have hdn:=RF hd;unfold yx at h;split at h
 ·
  rename_i u;unfold uk at h;cases hc:g.isNone&&dst.isSome&&p.st.room<;>rw[hc]at h<;>simp only[AN,AO,reduceCtorEq]at h;simp only[AI,Option.isNone_iff_eq_none,BU]at hc;obtain⟨⟨hg0,d,rfl⟩,hr⟩:=hc;split at h
  ·rename_i z hz;split at h
   ·cases h
   ·rename_i hnt;simp only[AH]at h;subst h;exact fo hE hp hz (fun x hx=>hnt x hx) hg0 (by simpa using(hdn d J).1) hr ES
  ·cases h
 ·rename_i u;unfold ul at h;cases hc:g.isNone&&dst.isSome&&p.st.room<;>rw[hc]at h<;>simp only[AN,AO,reduceCtorEq,AH]at h;simp only[AI,Option.isNone_iff_eq_none,BU]at hc;obtain⟨⟨hg0,d,rfl⟩,hr⟩:=hc;subst h;exact Xg hp hg0 (by simpa using(hdn d J).1) hr ES
 ·rename_i u x;unfold um at h;split at h
  ·cases h
  ·rename_i a hx hnt;cases hc:dst.isSome&&p.st.room<;>rw[hc]at h<;>simp only[AN,AO,reduceCtorEq,AH]at h;simp only[AI,BU]at hc;obtain⟨⟨d,rfl⟩,hr⟩:=hc;subst h;exact uz hp ‹_› hg (by simpa using(hdn d J).1) hr ES
  ·cases h
 ·rename_i u x y;unfold uo at h;cases hc:dst.isSome<;>rw[hc]at h<;>simp only[AN,AO,reduceCtorEq]at h;obtain rfl:dst=none:=by simpa using hc
  split at h
  ·rename_i a hx;split at h
   ·rename_i b hy;exact fp hE hp hx hy hg h ES
   ·cases h
  ·cases h
 ·rename_i u m k v;unfold fY at h;cases hc:dst.isSome<;>rw[hc]at h<;>simp only[AN,AO,reduceCtorEq]at h;obtain rfl:dst=none:=by simpa using hc
  split at h
  ·rename_i a hm;split at h
   ·rename_i b hk;split at h
    ·rename_i c hv;exact map_ok hE hp hm hk hv hg h ES (.inr J)
    ·cases h
   ·cases h
  ·cases h
 ·rename_i u m k v;unfold fY at h;cases hc:dst.isSome<;>rw[hc]at h<;>simp only[AN,AO,reduceCtorEq]at h;obtain rfl:dst=none:=by simpa using hc
  split at h
  ·rename_i a hm;split at h
   ·rename_i b hk;split at h
    ·rename_i c hv;exact map_ok hE hp hm hk hv hg h ES (.inl J)
    ·cases h
   ·cases h
  ·cases h
 ·rename_i u len parts;unfold uq at h;split at h
  ·rename_i e CU sz ht;split at h
   ·rename_i Q9 GN hel;cases hc:Nat.beq CU Q9&&dst.isSome&&p.st.room<;>rw[hc]at h<;>simp only[AN,AO,reduceCtorEq]at h;simp only[AI,BU]at hc;obtain⟨⟨hq,d,rfl⟩,hr⟩:=hc;obtain rfl:=AK hq;split at h
    ·rename_i ps hps;split at h
     ·rename_i l hl;cases hb:Nat.beq ps.length len&&Nat.ble (Nat.mul len CU) 16777216<;>rw[hb]at h<;>simp only[AN,AO,reduceCtorEq,AH]at h;subst h;simp only[AI]at hb;have:=aH (i:=i) (ty:=ty) (pos:=pos) (af:=af) (gd:=gd) hE hp ht hel hps hl (AK hb.1) (AL hb.2) hr hg (by simpa using(hdn d J).1) ES;simpa using this
     ·cases h
    ·cases h
   ·cases h
  ·cases h
 ·rename_i u x y;unfold ut at h;split at h
  ·rename_i e CU sz ht;split at h
   ·rename_i Q9 GN hel;cases hc:Nat.beq CU Q9&&dst.isSome&&p.st.room<;>rw[hc]at h<;>simp only[AN,AO,reduceCtorEq]at h;simp only[AI,BU]at hc;obtain⟨⟨hq,d,rfl⟩,hr⟩:=hc;obtain rfl:=AK hq;split at h
    ·rename_i a hx;split at h
     ·rename_i b hy;split at h
      ·rename_i m hm;split at h
       ·rename_i m' hm';split at h
        ·rename_i z hz;cases hb:Nat.beq m m'&&Nat.ble (Nat.mul GN m) 281474976710656&&Nat.ble m 9223372036854775807<;>rw[hb]at h<;>simp only[AN,AO,reduceCtorEq,AH]at h;subst h;simp only[AI]at hb;obtain rfl:=AK hb.1.1;exact oN hE hp ht hel hx hy hm hm' hz (AL hb.1.2) (AL hb.2) hr hg (by simpa using(hdn d J).1) ES
        ·cases h
       ·cases h
      ·cases h
     ·cases h
    ·cases h
   ·cases h
  ·cases h
 ·rename_i x;unfold uu at h;cases hc:dst.isSome<;>rw[hc]at h<;>simp only[AN,AO,reduceCtorEq]at h;obtain rfl:dst=none:=by simpa using hc
  split at h
  ·rename_i t a hx;simp only[AH]at h;subst h;exact fw hp hx hg ES
  ·cases h
 ·rename_i AA t tx;unfold uv at h;cases hc:dst.isSome<;>rw[hc]at h<;>simp only[Bool.not_true,Bool.not_false,AN,AO,reduceCtorEq]at h;obtain⟨d,rfl⟩:=BU.1 hc;split at h
  ·rename_i b x ha;split at h
   ·rename_i r hr;simp only[AH]at h;subst h;exact u7 hE hp ha hg (by simpa using(hdn d J).1) hr ES
   ·exact u9 hE hp ha hg (by simpa using(hdn d J).1) h ES
  ·cases h
 ·rename_i AA t tx;unfold fZ at h;split at h
  ·rename_i b str ha;exact vA hE hp ha hg (fun e he=>by simpa using(hdn e he).1) h ES
  ·rename_i b x _ ha;exact vC hE hp ha hg (fun e he=>by simpa using(hdn e he).1) h ES
  ·cases h
 ·rename_i AA t tx;unfold fb at h;split at h
  ·rename_i b x ha;exact u0 hE hp ha hg (fun e he=>by simpa using(hdn e he).1) h ES
  ·cases h
 ·rename_i fv AA ts;unfold ff at h;split at h
  ·rename_i f a c hfv;split at h
   ·rename_i vs hvs;obtain⟨hok,hF⟩:=FD hE hih hp h;exact oO hp hfv hvs hok hg (fun e he=>(hdn e he).1) hF ES
   ·cases h
  ·cases h
 ·cases h
theorem RA.from{p p1:Pt}(h:RA P RS n K Q rest dst p rs)(hto:p.to p1)(hfr:p1.fr=p.fr):RA P RS n K Q rest dst p1 rs:=by
 intro r hr;have:=h r hr;cases r with
 |val a s=>intro q e1 e2 e3 e4 v hv;rw[hfr];exact this q e1 (e2.trans hfr) (hto.trans e3) e4 v hv
 |Eu a s=>intro q e1 e2 e3 e4 v hv;exact this q e1 (e2.trans hfr) (hto.trans e3) e4 v hv
def Reads(K:Option A2)(p:Pt)(L:List Nat):Prop:=∀k∈L,k∈p.live->p.C k∈K.getD p.S
variable{L:List Nat}
theorem fy(hE:En P RS E){p:Pt}(hp:p.good RS){x:FO}(h:uw E x p.st=some (rs,L))(hK:Reads K p L)(hg:lg p.fr x.g=some true)(hd:Lq n x.o.dst=true)
 (ES:RA P RS n K Q rest x.o.dst p rs):DL P n K Q (x::rest) p.fr p.S:=by
 have hdn:=RF hd;obtain⟨i,⟨dst,op,ty,pos,af,gd⟩,g⟩:=x;unfold uw at h;simp only at h hdn ES hg;cases hc:dst.isSome<;>rw[hc]at h<;>simp only[AN,AO,reduceCtorEq]at h;obtain⟨d,rfl⟩:=BU.1 hc;split at h
 ·rename_i outs L' hev;simp only[AH,Af]at h;obtain⟨rfl,rfl⟩:=h;refine uY hE.T hE.zt hE.lt hp.F (fun k ab hk=>(hp.mem hk).2) hev (fun k hk hs=> ?_) hg (by simpa using(hdn d J).1) (fun a ha v hv=> ?_)
  ·obtain⟨ab,hab⟩:=BU.1 hs;exact hK k hk (hp.mem hab).1
  ·exact(ES (.val a p.st) (A8.2 ⟨a,ha,rfl⟩) p J J (.refl p) hp v hv).2
 ·cases h
variable{fr:Fr}
theorem RG{T:Tr}{c a b:Operand}{t:Bool}(h:Eg fr c=some (.bool t)):EW T fr (.pick c a b)=bif t then Eg fr a else Eg fr b:=by simp only[EW,h]
theorem Xi(hE:En P RS E)(hih:GK P RS ih){p:Pt}(hp:p.good RS){x:FO}(h:ux E ih x p.st=some (rs,L))(hK:Reads K p L)(hg:lg p.fr x.g=some true)(hd:Lq n x.o.dst=true)
 (ES:RA P RS n K Q rest x.o.dst p rs):DL P n K Q (x::rest) p.fr p.S:=by
 unfold ux at h;split at h
 ·rename_i c a b hop;split at h
  ·rename_i hc;have hdn:=RF hd;obtain⟨i,⟨dst,op,ty,pos,af,gd⟩,g⟩:=x;simp only at h hdn ES hg hop;subst hop;cases hcc: !dst.isSome|| !Nat.blt c 16777216<;>rw[hcc]at h<;>simp only[AN,AO,reduceCtorEq]at h
   simp only[Bool.or_eq_false_iff,Bool.not_eq_false']at hcc;obtain⟨d,rfl⟩:=BU.1 hcc.1;have hc24:c<2^24:=by simpa using hcc.2
   split at h
   ·rename_i u hu;split at h
    ·rename_i w hw;simp only[AH,Af]at h;obtain⟨rfl,rfl⟩:=h;obtain⟨vc,e1,e2⟩:=hp.F c _ hc;cases e2 with| @Jh bb=>
     have hlt:Nat.blt d n=true:=by simpa using(hdn d J).1
     cases bb with
     |true=>have hp1:=hp.refine hc24 e1;obtain⟨v,e3,e4⟩:=DG hp1.F hu;exact DL.p hE.T J hg hlt (v:=v) ((RG (c:=.tmp c) (t:=true) e1).trans e3) (ES _ (BH) {p with st:=p.st.put (some c) (.boo (some true))} J J (.refine p c true) hp1 v e4).2
     |false=>have hp1:=hp.refine hc24 e1;obtain⟨v,e3,e4⟩:=DG hp1.F hw;exact DL.p hE.T J hg hlt (v:=v) ((RG (c:=.tmp c) (t:=false) e1).trans e3) (ES _ (Aw _ BH) {p with st:=p.st.put (some c) (.boo (some false))} J J (.refine p c false) hp1 v e4).2
    ·cases h
   ·cases h
  ·exact fy hE hp h hK hg hd ES
 ·rename_i op _;split at h
  ·rename_i r hr;simp only[AH,Af]at h;obtain⟨rfl,rfl⟩:=h;obtain⟨i,⟨dst,op,ty,pos,af,gd⟩,g⟩:=x;exact vD hE hih hp hr hg hd ES
  ·exact fy hE hp h hK hg hd ES
theorem gA{r:Option (List R1)}{z:List R1×List Nat}(h:Xc r=some z):∃l,r=some l/\z=(l,[]):=by
 cases r with
 |none=>cases h
 |some l=>simp only[Xc,AH]at h;exact⟨l,rfl,h.symm⟩
variable{s:St}
theorem Vz{hd:Bool}{r:Option AV}{z:List R1×List Nat}(h:Nb hd s r=some z):hd=true/\∃a,r=some a/\z=([.val a s],[]):=by
 unfold Nb at h;cases hd with
 |false=>cases h
 |true=>
  cases r with
  |none=>cases h
  |some a=>simp only[AN,AH]at h;exact⟨rfl,a,rfl,h.symm⟩
theorem UW{x:FO}{z:List R1×List Nat}(h:opF E ih x s=some z):ux E ih x s=some z:=by
 obtain⟨i,⟨dst,op,ty,pos,af,gd⟩,g⟩:=x;unfold opF at h;unfold aAg at h;simp only at h;split at h;all_goals simp only at h
 case h_3=>
  unfold rX at h;unfold ux;simp only;split at h
  ·exact h
  ·rename_i hc;obtain⟨h1,a,h2,rfl⟩:=Vz h;simp only[uw,yw,fG,h2,h1,AN,Ap,CP]
 all_goals first
  |(cases h;done)
  |(obtain⟨l,h1,rfl⟩:=gA h;simp only[ux,yx,h1];done)
  |(simp only[ux,yx,uw,yw,fG];exact h)
  |(obtain⟨h1,a,h2,rfl⟩:=Vz h;simp only[ux,yx,uw,yw,fG,h2,h1,AN,Ap,CP];done)
  |skip
theorem oQ(hE:En P RS E)(hih:GK P RS ih){p:Pt}(hp:p.good RS){x:FO}(h:aE E ih x p.st=some (rs,L))(hK:Reads K p L)(hd:Lq n x.o.dst=true)
 (ES:RA P RS n K Q rest x.o.dst p rs):DL P n K Q (x::rest) p.fr p.S:=by
 have hdn:=RF hd;have dead:∀{p':Pt},p'.good RS->p.to p'->p'.fr=p.fr->p'.S=p.S->lg p.fr x.g=some false->R1.val (.val undef) p'.st∈rs->DL P n K Q (x::rest) p.fr p.S:=fun{p'} h1 h2 h3 h4 h5 h6=>by have:=(ES _ h6 p' J h3 h2 h1 undef .val).2;rw[h4]at this;exact .skip h5 (fun e he=>(hdn e he).1) this
 unfold aE at h;split at h
 ·rename_i hg0;exact Xi hE hih hp (UW h) hK (by rw[hg0];rfl) hd ES
 ·rename_i c b hgc;split at h
  ·rename_i b' hb';obtain⟨vc,e1,e2⟩:=hp.F c _ hb';cases e2;have I3:lg p.fr x.g=some (b'==b):=by rw[hgc];simp[lg,e1]
   cases hbb:b'==b<;>rw[hbb]at h I3<;>simp only[AN,AO]at h
   ·simp only[AH,Af]at h;obtain⟨rfl,rfl⟩:=h;exact dead hp (.refl p) J J I3 (AP.2 J)
   ·exact Xi hE hih hp (UW h) hK I3 hd ES
  ·rename_i hb';cases hcc: !Nat.blt c 16777216<;>rw[hcc]at h<;>simp only[AN,AO,reduceCtorEq]at h;have hc24:c<2^24:=by simpa using hcc
   split at h
   ·rename_i r L' hop;simp only[AH,Af]at h;obtain⟨rfl,rfl⟩:=h;obtain⟨vc,e1,e2⟩:=hp.F c _ hb';cases e2 with| @Jh bb=>
    by_cases hbb:bb=b
    ·subst hbb;have hp1:=hp.refine hc24 e1;have hto:=Pt.to.refine p c bb;have I3:lg p.fr x.g=some true:=by rw[hgc];simp[lg,e1]
     exact Xi (p:={p with st:=p.st.put (some c) (.boo (some bb))}) hE hih hp1 (UW hop) hK I3 hd (RA.from (fun q hq=>ES q (Aw _ hq)) hto J)
    ·have hbn:bb= !b:=by cases bb<;>cases b<;>simp_all
     subst hbn;have hp1:=hp.refine hc24 e1;have I3:lg p.fr x.g=some false:=by rw[hgc];simp[lg,e1]
     exact dead (p':={p with st:=p.st.put (some c) (.boo (some (!b)))}) hp1 (.refine p c _) J J I3 BH
   ·cases h
  ·rename_i v hb';obtain⟨vc,e1,e2⟩:=hp.F c _ hb';cases e2;split at h
   ·cases h
   ·rename_i hnb;simp only[AH,Af]at h;obtain⟨rfl,rfl⟩:=h;have I3:lg p.fr x.g=some false:=by rw[hgc];simp only[lg,e1]
    exact dead hp (.refl p) J J I3 (AP.2 J)
  ·cases h
end
end
end Go.Proofs.YtfekkjbdcdnhlaaGreatDoor.Sep
