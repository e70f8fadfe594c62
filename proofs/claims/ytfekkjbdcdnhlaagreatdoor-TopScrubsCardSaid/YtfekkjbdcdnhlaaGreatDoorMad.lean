/- Lemmas for TopScrubs. No condition but those that each states. -/
import Derived.Deep.AppendSrc
import Derived.Great.BuildSlice
import Derived.Lib.AppendZeros
import Derived.Lib.AppendZerosOnto
import Derived.Lib.EndianBits
import Derived.IntWalk
import Derived.Test.YtfekkjbdcdnhlaaGreatDoorMac
set_option linter.all false
set_option maxHeartbeats 8000000
set_option maxRecDepth 100000
namespace Go.Proofs.YtfekkjbdcdnhlaaGreatDoor.Sep
noncomputable section
def Ew(P:Program)(e CU GN:Nat):Bool:=match P.info? e with
 |some i=>i.size==CU&&i.bytes==GN&&(match i.zero with|some z=>z.cells.size==CU|none=>false)
 |none=>false
variable{e CU GN:Nat}
theorem Gy{P:Program}(h:Ew P e CU GN=true):∃i z,P.info? e=some i/\i.size=CU/\i.bytes=GN/\i.zero=some z/\z.cells.size=CU:=by
 unfold Ew at h;split at h
 ·rename_i i hi;simp only[AI,beq_iff_eq]at h;obtain⟨⟨h1,h2⟩,h3⟩:=h;split at h3
  ·rename_i z hz;exact⟨i,z,hi,h1,h2,hz,by simpa using h3⟩
  ·cases h3
 ·cases h
def Nz:Nat->List (List Value)->List (Nat×List Value)
 |_,[]=>[]
 |k,v::r=>(k,v)::Nz (k+1) r
theorem Ot(CU:Nat):∀(NP:List (List Value)) (k:Nat) (ps:List (Nat×Value)) (done zs:List Value),(ps.map fun p=>(p.1,p.2.cells.toList))=Nz k NP->(∀v∈NP,v.length=CU)->done.length=k*CU->zs.length=NP.length*CU->
 Instr.fill (fun i=>some (i*CU,CU)) (done++zs).toArray ps=some (done++NP.flatten).toArray
 |[],k,ps,done,zs,hp,hl,hd,hz=>by
  have:ps=[]:=by simpa[Nz]using hp
  subst this;have:zs=[]:=List.eq_nil_of_length_eq_zero (by simpa using hz);subst this;simp[Instr.fill]
 |v::NP,k,ps,done,zs,hp,hl,hd,hz=>by
  cases ps with
  |nil=>simp[Nz]at hp
  |cons p ps=>
   obtain⟨i,u⟩:=p;simp only[Ap,Nz,D1,Af]at hp;obtain⟨⟨rfl,hu⟩,hp⟩:=hp;have hv:=hl v DI;have hus:u.cells.size=CU:=by rw[<-hv,<-hu];simp
   simp only[Bz,D2,Bi]at hz;simp only[Instr.fill];rw[Ah (by simp;omega)];have e:=IQ u.cells.toList (done++zs).toArray (i*CU) 0 (by simp;omega);rw[<-Array.foldl_toList];simp only[Array.toList_zipIdx];rw[e];simp only[CV,hu];have h1:(done++zs).take (i*CU)=done:=by rw[<-hd];simp
   have h2:(done++zs).drop (i*CU+v.length)=zs.drop CU:=by rw[<-hd,hv,CM,BJ I];simp
   rw[h1,h2];have:=Ot CU NP (i+1) ps (done++v) (zs.drop CU) hp (fun x hx=>hl x (by simp[hx])) (by simp[hd,hv,D2]) (by simp;omega);simpa using this
section
variable{P:Program} {T:Tr} {n:Nat} {K:Option A2} {Q:EX} {fr:Fr} {S U':A2} {rest:List FO}
variable{i ty:Nat} {pos:String} {af:Array Edge} {gd g:Option (Nat×Bool)} {d:Nat} {dd:Option Nat}
variable{parts:List (Nat×Operand)}{NP:List (List Value)}
theorem S9(hT:Dp P T=true){t len e CU GN sz:Nat}{cs:List Value}(ht:T.get t=some ⟨.sl e CU,sz⟩)(hE:Ew P e CU GN=true)
 (hp:Ic fr parts=some (Nz 0 NP)) (hlen:NP.length=len) (hl:∀v∈NP,v.length=CU) (hc:NP.flatten=cs) (hs:len*CU<=16777216):
 FR P n ⟨some d,.buildSlice t len parts.toArray,ty,pos,af,gd⟩ fr (.cells cs.toArray e (0,0)) (fun b=>.slice (some ⟨b,0,none⟩) len len):=by
 intro a w hk;obtain⟨ie,z,hi,h1,h2,hz,h3⟩:=Gy hE;obtain⟨hu,_⟩:=Et hT ht J;have he:=KW hk hp;have hpar:(parts.toArray.map fun(p:Nat×Operand)=>(p.1,a.eval p.2))=(parts.map fun p=>(p.1,a.eval p.2)).toArray:=by simp
 simp only[execOp];rw[show(parts.toArray.map fun(x:Nat×Operand)=>match x with|(i,x)=>(i,a.eval x))=(parts.map fun p=>(p.1,a.eval p.2)).toArray from hpar];by_cases h0:len*CU=0
 ·have hfl:NP.flatten.length=0:=by
   have:∀l:List (List Value),(∀v∈l,v.length=CU)->l.flatten.length=l.length*CU:=fun l=>by
    induction l with
    |nil=>simp
    |cons v r ih=>intro h;simp[ih (fun x hx=>h x (by simp[hx])),h v DI,D2,Nat.add_comm]
   rw[this NP hl,hlen,h0]
  have hnil:cs=[]:=by rw[<-hc];exact List.eq_nil_of_length_eq_zero hfl
  subst hnil;have hf:=Ot CU NP 0 (parts.map fun p=>(p.1,a.eval p.2)) [] [] he hl DI (by rw[hlen,h0];rfl);rw[hc]at hf;have hs':¬(16777216<len*CU):=I;have hf':Instr.fill (fun i=>some (i*CU,CU)) #[] (parts.map fun p=>(p.1,a.eval p.2))=some #[]:=hf;have hr0:Array.map (fun x:Nat=>(default:Value)) (Array.range 0)= #[]:=by simp[Array.range_zero']
  simp[Instr.buildSlice,Ac hu,sizeOf,typeInfo,hi,h1,h0,newRow,hr0,hf']
 ·have hf:=Ot CU NP 0 (parts.map fun p=>(p.1,a.eval p.2)) [] (((Array.range (len*CU)).map (z.cells[·%z.cells.size]!)).toList) he hl DI (by simp[hlen]);rw[hc]at hf;have hr:=run_buildSlice (P:=P) w t e len (parts.map fun p=>(p.1,a.eval p.2)).toArray cs.toArray ie z hu hi hz (by rw[h1];omega) (by rw[h1];exact h0) (by rw[h1];simp only[AS,Array.toArray_toList]at hf;exact hf);simp only[Ag];rw[hr];rfl
theorem DL.tY(hT:Dp P T=true){t len e CU GN sz:Nat}{cs:List Value}(hg:lg fr g=some true)(hn:Nat.blt d n=true)(ht:T.get t=some ⟨.sl e CU,sz⟩)(hE:Ew P e CU GN=true)
 (hp:Ic fr parts=some (Nz 0 NP)) (hlen:NP.length=len) (hl:∀v∈NP,v.length=CU) (hc:NP.flatten=cs) (hs:len*CU<=16777216) (hK:Ge K S) (h:∀b,DL P n K Q rest ((d,.slice (some ⟨b,0,none⟩) len len)::fr) (A7 b cs e::S)):
 DL P n K Q (⟨i,⟨some d,.buildSlice t len parts.toArray,ty,pos,af,gd⟩,g⟩::rest) fr S:=by
 exact .fresh J hg J hn (S9 hT ht hE hp hlen hl hc hs) (fun _=>hK.cons) h
def DO(P:Program)(CU:Nat)(S:A2)(tx:Nat)(x:Value)(m:Nat)(news:List Value):Prop:=∀A U w,Ds A w (S++U)->Src P CU tx x m news w
theorem DO.slice(hT:Dp P T=true){CU tx e s sz b off m c bt:Nat}{cs news:List Value}(ht:T.get tx=some ⟨.sl e s,sz⟩)(hm:In (A7 b cs bt) S)(hv:(cs.drop off).take (m*CU)=news)(hl:news.length=m*CU)(h1:∀u∈news,u.oneCell'=true):
 DO P CU S tx (.slice (some ⟨b,off,none⟩) m c) m news:=fun A U w hs=>by
 have hc:=I1 (hs.mem hm.mem)
 refine Src.ofSlice w (Et hT ht J).1 _ m c news hl (fun j u hj=> ?_) h1;rw[DD,hc];rw[<-hv,Bf]at hj;split at hj
 ·rw[CG]at hj;exact hj
 ·cases hj
theorem DO.nil(hT:Dp P T=true){CU tx e s sz c:Nat}(ht:T.get tx=some ⟨.sl e s,sz⟩):DO P CU S tx (.slice none 0 c) 0 []:=fun A U w hs=>Src.ofNil w (Et hT ht J).1 c
variable{tx sz:Nat}
theorem DO.string(hT:Dp P T=true){s:ByteArray}(ht:T.get tx=some ⟨.str,sz⟩):DO P 1 S tx (.string s) s.size (byteCells s):=fun A U w hs=>Src.ofString w (Hh hT ht J) s
theorem Hf{z:Array Value}{k:Nat}:(Builtin.zeroCells z k).size=k*z.size:=by simp[Builtin.zeroCells]
variable{o:Oper}{AA:Array Operand}{t sLen sCap:Nat}{xs ex news:List Value}{U:A2}
theorem FH(hT:Dp P T=true){m:Nat}{base:Option Addr}{x:Value}{ts:Array TypeId}(ho:o.op=.call ⟨.builtin .append,AA,ts⟩)(hts:ts= #[t,tx])
 (ht:T.get t=some ⟨.sl e CU,sz⟩) (hE:Ew P e CU GN=true) (ha:FP fr AA.toList=some [.slice base sLen sCap,x]) (hx:DO P CU S tx x m news)
 (hb:(base=none/\sLen=0/\sCap=0/\xs=[]/\S=U/\0<m)\/(∃b,base=some ⟨b,0,none⟩/\Gg (A7 b (xs++ex) e) S U)) (hxl:xs.length=sLen*CU) (Py:ex.length=(sCap-sLen)*CU) (hle:sLen<=sCap) (hbd:(sLen+m)*GN<=140737488355328) (hbd2:sLen+m<=9223372036854775807):
 Eff P n o fr S (fun v S'=>∃b' cap' ex',v=.slice (some ⟨b',0,none⟩) (sLen+m) cap'/\ex'.length=(cap'-(sLen+m))*CU/\sLen+m<=cap'/\S'=A7 b' (xs++news++ex') e::U) (fun _ _=>False):=by
 intro A V a w hk hs;obtain⟨ie,z,hi,h1,h2,hz,h3⟩:=Gy hE;obtain⟨hu,_⟩:=Et hT ht J;have hargs:AA.map a.eval= #[.slice base sLen sCap,x]:=Bl.1 (by simpa using EV hk ha);have hsrc:Src P ie.size tx x m news w:=by rw[h1];exact hx A V w hs
 have hrun:(execOp a.eval o).run P w=((Builtin.append_ #[t,tx] o.type #[.slice base sLen sCap,x]).run P w).andThen fun v w'=>.ok (.value v) w':=by simp only[execOp,ho,resolve,invoke,builtin,Ag,BA,Ad,hargs,hts]
 have hnl:news.length=m*CU:=by rw[hsrc.newsLen,h1]
 by_cases hroom:sLen+m<=sCap
 ·
  rcases hb with⟨rfl,rfl,rfl,rfl,rfl,hm⟩|⟨b,rfl,hp⟩
  ·omega
  ·have hs1:=hs.perm (hp.perm.append_right V);have hblk:w.heap[b]? =some (.cells (xs++ex).toArray e (0,0)):=hs1.has (b,_) (by simp[A7]);have aE2:news.length<=ex.length:=by rw[hnl,Py];exact DZ _ I
   have hst:=run_storeCells_at (P:=P) b (sLen*CU) e news 0 (xs++ex).toArray w hblk (by simp;omega) hsrc.one;simp only[CV]at hst;have e1:(xs++ex).take (sLen*CU)=xs:=by rw[<-hxl];simp
   have e2:(xs++ex).drop (sLen*CU+news.length)=ex.drop news.length:=by rw[<-hxl,CM,BJ I];simp
   simp only[e1,e2]at hst;have hval:(Builtin.append_ #[t,tx] o.type #[.slice (some ⟨b,0,none⟩) sLen sCap,x]).run P w=.ok (.slice (some ⟨b,0,none⟩) (sLen+m) sCap) (w.setRow b (xs++news++ex.drop news.length).toArray):=by rcases hsrc.kind with⟨e',hk'⟩|hk'<;>simp[Builtin.append_,Ac hu,Ac hk',sizeOf,typeInfo,hi,h1,hsrc.len,hroom,(by rw[<-h1];exact hsrc.cells:(Builtin.firstCells CU m x).run P w=.ok news.toArray w),DD]<;>(simp at hst;simp[hst])
   rw[Fq,hrun,hval];refine⟨A7 b (xs++news++ex.drop news.length) e::U,Ds.put (S:=U++V) (b:=b) (o:=.cells (xs++ex).toArray e (0,0)) hs1 J J J (by simp[World.setRow]) (setRow_heap w b _ _ _ _ hblk) (fun k hk hne=>setRow_other w b k _ hne),b,sCap,ex.drop news.length,rfl,?_,hroom,rfl⟩;rw[B9,Py,hnl,<-Nat.sub_mul];congr 1
   omega
 ·have hold:(Builtin.firstCells ie.size sLen (.slice base sLen sCap)).run P w.drew=.ok xs.toArray w.drew:=by
   rcases hb with⟨rfl,rfl,rfl,rfl,rfl,hm⟩|⟨b,rfl,hp⟩
   ·exact run_firstCells_none w.drew ie.size 0 0 0
   ·have hs1:=hs.perm (hp.perm.append_right V);have hblk:w.heap[b]? =some (.cells (xs++ex).toArray e (0,0)):=hs1.has (b,_) (by simp[A7]);have hc:=I1 hblk;refine run_firstCells_some w.drew ie.size sLen _ sLen sCap xs (by rw[hxl,h1]) (fun j u hj=> ?_);rw[DD];show w.cell? ⟨b,0+j,none⟩=some u;rw[hc,BM,BG (Ae.1 hj).1];exact hj
  have hval:=run_append_grow_src w t tx o.type e ie z hu hi hz base sLen sCap xs hold x m news hsrc I I (growslice_fits I (by rw[h2];exact hbd));rw[Fq,hrun,hval];have hcap:sLen+m<=grownCap w (sLen+m) sCap e:=by unfold grownCap;simp only[Question.cut];omega
  have hs2:Ds A w.drew (U++V):=by
   rcases hb with⟨rfl,rfl,rfl,rfl,rfl,hm⟩|⟨b,rfl,hp⟩
   ·exact hs.drawn _
   ·exact((hs.perm (hp.perm.append_right V)).drop).drawn _
  have UG:((xs++news).toArray++Builtin.zeroCells z.cells (grownCap w (sLen+m) sCap e-(sLen+m)))=(xs++news++(Builtin.zeroCells z.cells (grownCap w (sLen+m) sCap e-(sLen+m))).toList).toArray:=by apply Array.ext';simp
  refine⟨A7 w.heap.size (xs++news++(Builtin.zeroCells z.cells (grownCap w (sLen+m) sCap e-(sLen+m))).toList) e::U,?_,w.heap.size,_,_,rfl,?_,hcap,rfl⟩
  ·rw[UG];exact hs2.new _
  ·rw[Dt,Hf,h3]
variable{b:Nat}
theorem DL.append(hT:Dp P T=true){m:Nat}{x:Value}(hg:lg fr g=some true)(hn:Nat.blt d n=true)(ht:T.get t=some ⟨.sl e CU,sz⟩)(hE:Ew P e CU GN=true)
 (ha:FP fr AA.toList=some [.slice (some ⟨b,0,none⟩) sLen sCap,x]) (hp:Gg (A7 b (xs++ex) e) S U) (hx:DO P CU S tx x m news) (hxl:xs.length=sLen*CU) (Py:ex.length=(sCap-sLen)*CU) (hle:sLen<=sCap) (hbd:(sLen+m)*GN<=140737488355328) (hbd2:sLen+m<=9223372036854775807)
 (hK:∀b' cs,Ge K (A7 b' cs e::U)) (h:∀b' cap' ex',ex'.length=(cap'-(sLen+m))*CU->sLen+m<=cap'->DL P n K Q rest ((d,.slice (some ⟨b',0,none⟩) (sLen+m) cap')::fr) (A7 b' (xs++news++ex') e::U)):
 DL P n K Q (⟨i,⟨some d,.call ⟨.builtin .append,AA,#[t,tx]⟩,ty,pos,af,gd⟩,g⟩::rest) fr S:=by
 refine .eff _ _ (.inl J) hg (fun e he=>by cases he;simpa using hn) (FH hT J J ht hE ha hx (.inr ⟨b,rfl,hp⟩) hxl Py hle hbd hbd2) (fun _ _ h=>h.elim) ?_ ?_
 ·rintro v S' ⟨b',cap',ex',rfl,h1,h2,rfl⟩;exact hK _ _
 ·rintro v S' ⟨b',cap',ex',rfl,h1,h2,rfl⟩;exact h b' cap' ex' h1 h2
theorem DL.N1(hT:Dp P T=true){m:Nat}{x:Value}(hg:lg fr g=some true)(hn:Nat.blt d n=true)(ht:T.get t=some ⟨.sl e CU,sz⟩)(hE:Ew P e CU GN=true)
 (ha:FP fr AA.toList=some [.slice none 0 0,x]) (hx:DO P CU S tx x m news) (hm:0<m) (hbd:m*GN<=140737488355328) (hbd2:m<=9223372036854775807)
 (hK:∀b' cs,Ge K (A7 b' cs e::S)) (h:∀b' cap' ex',ex'.length=(cap'-m)*CU->m<=cap'->DL P n K Q rest ((d,.slice (some ⟨b',0,none⟩) m cap')::fr) (A7 b' (news++ex') e::S)):
 DL P n K Q (⟨i,⟨some d,.call ⟨.builtin .append,AA,#[t,tx]⟩,ty,pos,af,gd⟩,g⟩::rest) fr S:=by
 refine .eff _ _ (.inl J) hg (fun e he=>by cases he;simpa using hn) (FH (xs:=[]) (ex:=[]) hT J J ht hE ha hx (.inl ⟨rfl,rfl,rfl,rfl,rfl,hm⟩) DI DI (Ao _) (by simpa using hbd) (by simpa using hbd2)) (fun _ _ h=>h.elim) ?_ ?_
 ·rintro v S' ⟨b',cap',ex',rfl,h1,h2,rfl⟩;exact hK _ _
 ·rintro v S' ⟨b',cap',ex',rfl,h1,h2,rfl⟩;simp only[BM]at h1 h2;have:=h b' cap' ex' h1 h2;simpa[Dc]using this
theorem DL.eI(hT:Dp P T=true){x:Value}(hg:lg fr g=some true)(hn:Nat.blt d n=true)(ht:T.get t=some ⟨.sl e CU,sz⟩)(hE:Ew P e CU GN=true)
 (ha:FP fr AA.toList=some [.slice none 0 0,x]) (hx:DO P CU S tx x 0 []) (hK:Ge K S) (h:DL P n K Q rest ((d,.slice none 0 0)::fr) S):
 DL P n K Q (⟨i,⟨some d,.call ⟨.builtin .append,AA,#[t,tx]⟩,ty,pos,af,gd⟩,g⟩::rest) fr S:=by
 refine .eff (fun v S'=>v=.slice none 0 0/\S'=S) (fun _ _=>False) (.inl J) hg (fun e he=>by cases he;simpa using hn) ?_ (fun _ _ h=>h.elim) (by rintro v S' ⟨rfl,rfl⟩;exact hK) (by rintro v S' ⟨rfl,rfl⟩;exact h);intro A V a w hk hs;obtain⟨ie,z,hi,h1,h2,hz,h3⟩:=Gy hE;obtain⟨hu,_⟩:=Et hT ht J;have hargs:AA.map a.eval= #[.slice none 0 0,x]:=Bl.1 (by simpa using EV hk ha);have hsrc:=hx A V w hs;have hval:(Builtin.append_ #[t,tx] ty #[.slice none 0 0,x]).run P w=.ok (.slice none 0 0) w:=by rcases hsrc.kind with⟨e',hk'⟩|hk'<;>simp[Builtin.append_,Ac hu,Ac hk',sizeOf,typeInfo,hi,h1,hsrc.len,hsrc.cells]
 have hrun:(execOp a.eval ⟨some d,.call ⟨.builtin .append,AA,#[t,tx]⟩,ty,pos,af,gd⟩).run P w=.ok (.value (.slice none 0 0)) w:=by simp only[execOp,resolve,invoke,builtin,Ag,BA,Ad,hargs,hval]
 rw[Fq,hrun];exact⟨S,hs,rfl,rfl⟩
def F7(fr:Fr):Option Operand->Option (Option Value)
 |none=>some none
 |some x=>match Eg fr x with
  |some v=>some (some v)
  |none=>none
theorem FX{a:Act}(h:Ep n a fr){x:Option Operand}{v:Option Value}(hx:F7 fr x=some v):x.map a.eval=v:=by
 cases x with
 |none=>simpa[F7]using hx
 |some x=>
  simp only[F7]at hx;split at hx
  ·rename_i u hu;simp at hx;subst hx;simp[h.eval hu]
  ·cases hx
inductive Bd (isS:Bool) (len cap:Nat):Option Value->Option Value->Option Value->Nat->Nat->Nat->Prop
 |all:Bd isS len cap none none none 0 len cap
 |lo {k:IntKind} {z:Int} {l:Nat} (hz:z=(l:Int)) (h:l<=len):Bd isS len cap (some (.int k z)) none none l len cap
 |hi {k:IntKind} {z:Int} {m:Nat} (hz:z=(m:Int)) (h:m<=cap):Bd isS len cap none (some (.int k z)) none 0 m cap
 |UH {k k':IntKind} {z z':Int} {l m:Nat} (hz:z=(l:Int)) (hz':z'=(m:Int)) (h:l<=m) (h':m<=cap):Bd isS len cap (some (.int k z)) (some (.int k' z')) none l m cap
 |Lc {k k':IntKind} {z z':Int} {m c:Nat} (hz:z=(m:Int)) (hz':z'=(c:Int)) (h:m<=c) (h':c<=cap):Bd isS len cap none (some (.int k z)) (some (.int k' z')) 0 m c
theorem sb(k:IntKind)(l y:Nat)(code:BoundsCode)(h:l<=y)(w:World):(Instr.sliceBound (.int k (l:Int)) y code).run P w=.ok l w:=by have:=run_sliceBound (P:=P) w k (l:Int) y code I I;simpa using this
theorem Bd.run{isS:Bool}{len cap l m c:Nat}{lo hi mx:Option Value}(h:Bd isS len cap lo hi mx l m c)(w:World):(Instr.sliceBounds isS len cap lo hi mx).run P w=.ok (l,m,c) w:=by
 cases h with
 |all=>simp[Instr.sliceBounds]
 |lo hz h=>subst hz;simp[Instr.sliceBounds,sb _ _ _ _ h]
 |hi hz h=>subst hz;simp[Instr.sliceBounds,sb _ _ _ _ h]
 |UH hz hz' h h'=>subst hz;subst hz';simp[Instr.sliceBounds,sb _ _ _ _ h,sb _ _ _ _ h']
 |Lc hz hz' h h'=>subst hz;subst hz';simp[Instr.sliceBounds,sb _ _ _ _ h,sb _ _ _ _ h']
variable{x:Operand}{lo hi mx:Option Operand}{SQ SG Qi:Option Value}
theorem DL.Qj(hT:Dp P T=true){t e CU sz b off len cap l m c:Nat}(hg:lg fr g=some true)(hn:Nat.blt d n=true)(ht:T.get t=some ⟨.sl e CU,sz⟩)(hx:Eg fr x=some (.slice (some ⟨b,off,none⟩) len cap))
 (hlo:F7 fr lo=some SQ) (hhi:F7 fr hi=some SG) (hmx:F7 fr mx=some Qi) (hb:Bd true len cap SQ SG Qi l m c) (h:DL P n K Q rest ((d,.slice (some ⟨b,(if c=l then off else off+l*CU),none⟩) (m-l) (c-l))::fr) S):
 DL P n K Q (⟨i,⟨some d,.slice t x lo hi mx,ty,pos,af,gd⟩,g⟩::rest) fr S:=by
 refine DL.val J hg J hn (fun A R a w hk hs=> ?_) h;obtain⟨hu,ie,hi',hsz⟩:=Et hT ht J;simp only[execOp,hk.eval hx,FX hk hlo,FX hk hhi,FX hk hmx,Instr.sliceAt,Ag,Ac hu,Ad,Instr.slice,hb.run,sizeOf,typeInfo,run_program,hi',hsz,BA];by_cases hcl:c=l<;>simp[hcl,DD]
theorem DL.eJ(hT:Dp P T=true){t e CU sz l m c:Nat}(hg:lg fr g=some true)(hn:Nat.blt d n=true)(ht:T.get t=some ⟨.sl e CU,sz⟩)(hx:Eg fr x=some (.slice none 0 0))
 (hlo:F7 fr lo=some SQ) (hhi:F7 fr hi=some SG) (hmx:F7 fr mx=some Qi) (hb:Bd true 0 0 SQ SG Qi l m c) (h:DL P n K Q rest ((d,.slice none (m-l) (c-l))::fr) S):
 DL P n K Q (⟨i,⟨some d,.slice t x lo hi mx,ty,pos,af,gd⟩,g⟩::rest) fr S:=by
 refine DL.val J hg J hn (fun A R a w hk hs=> ?_) h;obtain⟨hu,ie,hi',hsz⟩:=Et hT ht J;simp only[execOp,hk.eval hx,FX hk hlo,FX hk hhi,FX hk hmx,Instr.sliceAt,Ag,Ac hu,Ad,Instr.slice,hb.run,sizeOf,typeInfo,run_program,hi',hsz,BA];simp
theorem DL.Ld(hT:Dp P T=true){t e CU sz N b off l m c:Nat}(hg:lg fr g=some true)(hn:Nat.blt d n=true)(ht:T.get t=some ⟨.arr N e CU,sz⟩)(hx:Eg fr x=some (.pointer (some ⟨b,off,none⟩)))
 (hlo:F7 fr lo=some SQ) (hhi:F7 fr hi=some SG) (hmx:F7 fr mx=some Qi) (hb:Bd false N N SQ SG Qi l m c) (h:DL P n K Q rest ((d,.slice (some ⟨b,(if c=l then off else off+l*CU),none⟩) (m-l) (c-l))::fr) S):
 DL P n K Q (⟨i,⟨some d,.slice t x lo hi mx,ty,pos,af,gd⟩,g⟩::rest) fr S:=by
 refine DL.val J hg J hn (fun A R a w hk hs=> ?_) h;obtain⟨hu,ie,hi',hsz⟩:=KR hT ht J;simp only[execOp,hk.eval hx,FX hk hlo,FX hk hhi,FX hk hmx,Instr.sliceAt,Ag,Ac hu,Ad,Instr.sureAddr,hb.run,sizeOf,typeInfo,run_program,hi',hsz,BA];by_cases hcl:c=l<;>simp[hcl,DD]
theorem DL.yu(hT:Dp P T=true){t N e CU sz len cap:Nat}{ad:Option Addr}(hg:lg fr g=some true)(hn:Nat.blt d n=true)(ht:T.get t=some ⟨.arr N e CU,sz⟩)(hx:Eg fr x=some (.slice ad len cap))(hl:N<=len)(h:DL P n K Q rest ((d,.pointer ad)::fr) S):
 DL P n K Q (⟨i,⟨some d,.sliceToArrayPointer t x,ty,pos,af,gd⟩,g⟩::rest) fr S:=by
 refine DL.val J hg J hn (fun A R a w hk hs=> ?_) h;obtain⟨hu,ie,hi',hsz⟩:=KR hT ht J;simp[execOp,hk.eval hx,Instr.arrayAt,Ac hu,Nat.not_lt.2 hl]
variable{j:Nat}{y:Operand}{k:IntKind}{z:Int}
theorem DL.tZ(hT:Dp P T=true){s:ByteArray}{u:UInt8}(hg:lg fr g=some true)(hn:Nat.blt d n=true)(ht:T.get t=some ⟨.str,sz⟩)(hx:Eg fr x=some (.string s))(hy:Eg fr y=some (.int k z))(hz:z=(j:Int))(hj:s[j]? =some u)
 (h:DL P n K Q rest ((d,.int .u8 u.toNat)::fr) S):DL P n K Q (⟨i,⟨some d,.index t x y,ty,pos,af,gd⟩,g⟩::rest) fr S:=by
 refine DL.val J hg J hn (fun A R a w hk hs=> ?_) h;have hu:=Hh hT ht J;subst hz;have h0:(0:Int)<=j:=I;simp[execOp,hk.eval hx,hk.eval hy,Instr.index,asIntOf,Ac hu,hj]
variable{v:Value}
theorem DL.eK(hT:Dp P T=true){N sz':Nat}{cs:List Value}{ti:TI}(hg:lg fr g=some true)(hn:Nat.blt d n=true)(ht:T.get t=some ⟨.arr N e 1,sz⟩)(hte:T.get e=some ti)(hna:ti.kd.agg=false)(hx:Eg fr x=some (.agg cs.toArray))(hy:Eg fr y=some (.int k z))(hz:z=(j:Int))(hj:j<N)(hv:cs[j]? =some v)
 (h:DL P n K Q rest ((d,v)::fr) S):DL P n K Q (⟨i,⟨some d,.index t x y,ty,pos,af,gd⟩,g⟩::rest) fr S:=by
 refine DL.val J hg J hn (fun A R a w hk hs=> ?_) h;obtain⟨hu,ie,hi',hsz⟩:=KR hT ht J;subst hz;have h1:(0:Int)<=j/\(j:Int)<N:=⟨I,I⟩
 have hag:=Jk hT hte w;rw[hna]at hag;simp[execOp,hk.eval hx,hk.eval hy,Instr.index,asIntOf,Ac hu,h1,sizeOf,typeInfo,hi',hsz,part,hag,hv,Nat.not_le.2 hj]
variable{S':A2}
theorem DL.copy(hT:Dp P T=true){dT sT e sz b off dl dc b2 off2 sl sc bt bt2:Nat}{cs cs' cs2 vs:List Value}(hg:lg fr g=some true)(hd:∀x,dd=some x->Nat.blt x n=true)(ht:T.get dT=some ⟨.sl e 1,sz⟩)(hE:JI P e 1=true)
 (ha:FP fr AA.toList=some [.slice (some ⟨b,off,none⟩) dl dc,.slice (some ⟨b2,off2,none⟩) sl sc]) (hm:In (A7 b2 cs2 bt2) S) (hu:SL (A7 b cs bt) (A7 b cs' bt) S S') (hvs:(cs2.drop off2).take (min sl dl)=vs) (hl:vs.length=min sl dl) (hc:cs.take off++vs++cs.drop (off+vs.length)=cs')
 (h1:∀u∈vs,u.oneCell'=true) (hfit:off+vs.length<=cs.length) (hK:Ge K S') (h:DL P n K Q rest (Dc dd (.int .i64 vs.length) fr) S'):
 DL P n K Q (⟨i,⟨dd,.call ⟨.builtin .copy,AA,#[dT,sT]⟩,ty,pos,af,gd⟩,g⟩::rest) fr S:=by
 refine .eff (fun v T=>v=.int .i64 vs.length/\T=S') (fun _ _=>False) (.inl J) hg (fun e he=>by simpa using hd e he) ?_ (fun _ _ h=>h.elim) (by rintro v T ⟨rfl,rfl⟩;exact hK) (by rintro v T ⟨rfl,rfl⟩;exact h);intro A R a w hk hs;obtain⟨U,p1,p2⟩:=hu.perm;have hs1:=hs.perm (p1.append_right R);have hb:w.heap[b]? =some (.cells cs.toArray bt (0,0)):=hs1.has (b,_) (by simp[A7]);have hc2:=I1 (hs.mem hm.mem)
 obtain⟨hu',_⟩:=Et hT ht J;obtain⟨ie,hi,hsz⟩:=Gi hE;have hargs:AA.map a.eval= #[.slice (some ⟨b,off,none⟩) dl dc,.slice (some ⟨b2,off2,none⟩) sl sc]:=Bl.1 (by simpa using EV hk ha);have hr:=run_copy_row (P:=P) w dT sT ty e b off dl dc ⟨b2,off2,none⟩ sl sc cs.toArray bt vs hu' (by rw[hi];simp[hsz]) hb hl (fun j u hj=>by
  rw[DD,hc2];rw[<-hvs,Bf]at hj;split at hj
  ·rw[CG]at hj;exact hj
  ·cases hj) (by simpa using hfit) h1
 simp only at hr;rw[hc]at hr;have hrun:(execOp a.eval ⟨dd,.call ⟨.builtin .copy,AA,#[dT,sT]⟩,ty,pos,af,gd⟩).run P w=.ok (.value (.int .i64 vs.length)) (w.setRow b cs'.toArray):=by simp only[execOp,resolve,invoke,builtin,Ag,BA,Ad,hargs,hr];rfl
 rw[Fq,hrun];exact⟨S',Ds.perm (Ds.put (S:=U++R) (b:=b) (o:=.cells cs.toArray bt (0,0)) hs1 J J J (by simp[World.setRow]) (setRow_heap w b _ _ _ _ hb) (fun k hk hne=>setRow_other w b k _ hne)) (p2.symm.append_right R),rfl,rfl⟩
theorem DL.panic{tt:Nat}(hg:lg fr g=some true)(hx:Eg fr x=some (.iface tt v))(h:Q.Eu [{v:=.iface tt v,recovered:=false}] S):DL P n K Q (⟨i,⟨none,.panic x,ty,pos,af,gd⟩,g⟩::rest) fr S:=by
 refine .eff (fun _ _=>False) (fun c S'=>c=[{v:=.iface tt v,recovered:=false}]/\S'=S) (.inl J) hg (fun e he=>by cases he) ?_ ?_ (fun _ _ h=>h.elim) (fun _ _ h=>h.elim)
 ·intro A R a w hk hs;have:(execOp a.eval ⟨none,.panic x,ty,pos,af,gd⟩).run P w=.halt (.panic (.iface tt v)) w:=by simp[execOp,hk.eval hx,Instr.panic]
  rw[Fq,this];exact⟨S,hs,rfl,rfl⟩
 ·rintro c S' ⟨rfl,rfl⟩;exact h
end
structure NQ (P:Program) (kt:TypeId) {α:Type} [DecidableEq α] (enc:α->Value):Prop where
 und:∃kd,P.underlying kt=some kd/\∀a b,Instr.sameNow kd (enc a) (enc b)=none\/Instr.sameNow kd (enc a) (enc b)=some (decide (a=b))
 eq:∀(w:World) a b,(Op.equal kt (enc a) (enc b)).run P w=.ok (decide (a=b)) w
 chk:∀(w:World) (em:Bool) a,(Instr.checkKey em 10000 kt (enc a)).run P w=.ok () w
 same:∀a,Instr.sameBits 10000 (enc a) (enc a)=true
section
variable{α:Type} [DecidableEq α] (enc:α->Value)
def GZ(L:List (α×Value×Nat)):List MapEntry:=L.map fun p=>{key:=enc p.1,val:=p.2.1,born:=p.2.2}
def DX(b:Nat)(L:List (α×Value×Nat))(clk:Nat):List CH:=[(b,.map (GZ enc L).toArray clk)]
def E9(L:List (α×Value×Nat))(a:α):Option Value:=match L with
 |[]=>none
 |p::r=>if a=p.1 then some p.2.1 else E9 r a
def F8(L:List (α×Value×Nat))(a:α)(v:Value)(clk:Nat):List (α×Value×Nat):=match L with
 |[]=>[(a,v,clk)]
 |p::r=>if a=p.1 then(a,v,p.2.2)::r else p::F8 r a v clk
def Jg(L:List (α×Value×Nat))(a:α):List (α×Value×Nat):=match L with
 |[]=>[]
 |p::r=>if a=p.1 then r else p::Jg r a
def J7(L:List (α×Value×Nat))(a:α):Nat->Option (Nat×Value):=fun i=>match L with
 |[]=>none
 |p::r=>if a=p.1 then some (i,p.2.1)else J7 r a (i+1)
end
section
variable{P:Program} {α:Type} [DecidableEq α] {enc:α->Value} {kt:TypeId}
theorem Ql(H:NQ P kt enc)(w:World)(a:α):∀(L:List (α×Value×Nat)) (i:Nat),(Instr.findAsking kt (enc a) (GZ enc L) i).run P w=.ok (J7 L a i) w
 |[],i=>by simp[GZ,Instr.findAsking,J7]
 |p::r,i=>by
  have ih:=Ql H w a r (i+1);simp only[GZ,Ap,Instr.findAsking,Ag,H.eq,Ad];by_cases hq:a=p.1
  ·simp[hq,J7]
  ·simp only[hq,decide_false,Ce,Cc,J7];exact ih
theorem Qm{kd:TypeDesc}(h:∀a b,Instr.sameNow kd (enc a) (enc b)=none\/Instr.sameNow kd (enc a) (enc b)=some (decide (a=b)))(a:α):∀(L:List (α×Value×Nat)) (i:Nat),Instr.findNow kd (enc a) (GZ enc L) i=none\/Instr.findNow kd (enc a) (GZ enc L) i=some (J7 L a i)
 |[],i=>.inr J
 |p::r,i=>by
  have ih:=Qm h a r (i+1);simp only[GZ,Ap,Instr.findNow];rcases h a p.1 with h1|h1
  ·rw[h1];exact .inl J
  ·rw[h1];by_cases hq:a=p.1
   ·simp[hq,J7]
   ·simp only[hq,decide_false,J7,Cc];exact ih
theorem run_findKey(H:NQ P kt enc)(w:World)(a:α)(L:List (α×Value×Nat)):(Instr.findKey kt (enc a) (GZ enc L)).run P w=.ok (J7 L a 0) w:=by
 obtain⟨kd,hu,hn⟩:=H.und;simp only[Instr.findKey,Ag,Ac hu,Ad];rcases Qm hn a L 0 with h|h
 ·rw[h];exact Ql H w a L 0
 ·rw[h];rfl
theorem N2(a:α):∀(L:List (α×Value×Nat)) (i:Nat),(J7 L a i).map (·.2)=E9 L a
 |[],i=>rfl
 |p::r,i=>by simp only[J7,E9];by_cases hq:a=p.1<;>simp[hq,N2 a r]
theorem Ou{a:α}:∀{L:List (α×Value×Nat)} {i j:Nat} {v:Value},J7 L a i=some (j,v)->i<=j/\∃m,L[j-i]? =some (a,v,m)/\(∀u c,F8 L a u c=L.set (j-i) (a,u,m))/\Jg L a=L.eraseIdx (j-i)
 |[],i,j,v,h=>by simp[J7]at h
 |p::r,i,j,v,h=>by
  simp only[J7]at h;by_cases hq:a=p.1
  ·rw[BE hq]at h;simp only[AH,Af]at h;obtain⟨rfl,rfl⟩:=h;refine⟨Ao _,p.2.2,by simp[hq],fun u c=> ?_,?_⟩
   ·simp[F8,hq]
   ·simp[Jg,hq]
  ·rw[Ah hq]at h;obtain⟨h1,m,h2,h3,h4⟩:=Ou h;have e:j-i=(j-(i+1))+1:=I;refine⟨I,m,by rw[e,DR];exact h2,fun u c=> ?_,?_⟩
   ·rw[e,Cf,F8,Ah hq,h3]
   ·rw[e,List.eraseIdx_cons_succ,Jg,Ah hq,h4]
theorem MK{a:α}:∀{L:List (α×Value×Nat)} {i:Nat},J7 L a i=none->(∀u c,F8 L a u c=L++[(a,u,c)])/\Jg L a=L
 |[],i,_=>⟨fun u c=>rfl,rfl⟩
 |p::r,i,h=>by
  simp only[J7]at h;by_cases hq:a=p.1
  ·rw[BE hq]at h;cases h
  ·rw[Ah hq]at h;obtain⟨h1,h2⟩:=MK h;exact⟨fun u c=>by rw[F8,Ah hq,h1];rfl,by rw[Jg,Ah hq,h2]⟩
def J8(L:List (α×Value×Nat))(a:α)(clk:Nat):Nat:=if(E9 L a).isSome then clk else clk+1
end
section
variable{P:Program} {T:Tr} {n:Nat} {K:Option A2} {Q:EX} {fr:Fr} {S K0:A2} {rest:List FO}
variable{i ty:Nat} {pos:String} {af:Array Edge} {gd g:Option (Nat×Bool)} {d:Nat}
variable{α:Type} [DecidableEq α] {enc:α->Value} {kt:TypeId}
variable{w:World}{b clk:Nat}{L:List (α×Value×Nat)}
theorem Qn{A:Om}{S R:A2}(h:Ds A w (S++R))(hm:DX enc b L clk∈S):w.heap[b]? =some (.map (GZ enc L).toArray clk):=h.has (b,_) (List.mem_flatten.2 ⟨_,A3 _ hm,by simp[DX]⟩)
theorem NR{E:Array MapEntry}(h:w.heap[b]? =some (.map E clk)):(getObj b).run P w=.ok (.map E clk) w:=by simp[getObj,Sem.run,h]
variable{t:Nat}
theorem Qo(H:NQ P kt enc)(hu:P.underlying t=some (.map kt e)){z:Value}(hz:(P.info? e).bind (·.zero)=some z)(hb:w.heap[b]? =some (.map (GZ enc L).toArray clk))(a:α)(ok:Bool):
 (Instr.lookup t (.map (some b)) (enc a) ok).run P w=.ok (if ok then .tuple #[(E9 L a).getD z,.bool (E9 L a).isSome]else(E9 L a).getD z) w:=by
 obtain⟨ti,hi,hzz⟩:=Option.bind_eq_some_iff.1 hz;have hf:=run_findKey H w a L;have hv:=N2 a L 0;simp only[Instr.lookup,Ag,Ac hu,Ad,NR hb,BA,H.chk,hf];cases hq:J7 L a 0 with
 |none=>rw[hq]at hv;simp only[Option.map_none]at hv;rw[<-hv];simp[zeroValue,typeInfo,hi,hzz]
 |some p=>rw[hq]at hv;simp only[CZ]at hv;rw[<-hv];simp
variable{sz:Nat}{m x:Operand}{kv:Value}
theorem DL.look(H:NQ P kt enc)(hT:Dp P T=true){zero:Nat->Option Value}(hz:∀t v,zero t=some v->(P.info? t).bind (·.zero)=some v){z:Value}{a:α}(hg:lg fr g=some true)(hn:Nat.blt d n=true)
 (ht:T.get t=some ⟨.mp kt e,sz⟩) (hze:zero e=some z) (hm:Eg fr m=some (.map (some b))) (hx:Eg fr x=some kv) (hkv:kv=enc a) (hin:In (DX enc b L clk) (K.getD S)) (h:DL P n K Q rest ((d,(E9 L a).getD z)::fr) S):DL P n K Q (⟨i,⟨some d,.lookup t m x false,ty,pos,af,gd⟩,g⟩::rest) fr S:=by
 subst hkv;refine DL.val J hg J hn (fun A R a' w hk hs=> ?_) h;have:=Qo H (NL hT ht J) (hz e z hze) (Qn hs hin.mem) a false;simp[execOp,hk.eval hm,hk.eval hx,this]
theorem DL.I0(H:NQ P kt enc)(hT:Dp P T=true){zero:Nat->Option Value}(hz:∀t v,zero t=some v->(P.info? t).bind (·.zero)=some v){z:Value}{a:α}(hg:lg fr g=some true)(hn:Nat.blt d n=true)
 (ht:T.get t=some ⟨.mp kt e,sz⟩) (hze:zero e=some z) (hm:Eg fr m=some (.map (some b))) (hx:Eg fr x=some kv) (hkv:kv=enc a) (hin:In (DX enc b L clk) (K.getD S)) (h:DL P n K Q rest ((d,.tuple #[(E9 L a).getD z,.bool (E9 L a).isSome])::fr) S):DL P n K Q (⟨i,⟨some d,.lookup t m x true,ty,pos,af,gd⟩,g⟩::rest) fr S:=by
 subst hkv;refine DL.val J hg J hn (fun A R a' w hk hs=> ?_) h;have:=Qo H (NL hT ht J) (hz e z hze) (Qn hs hin.mem) a true;simp[execOp,hk.eval hm,hk.eval hx,this]
theorem eO(L:List (α×Value×Nat))(j:Nat)(a:α)(v u:Value)(m:Nat)(h:L[j]? =some (a,v,m)):(GZ enc L).toArray.modify j (fun e=>{e with key:=enc a,val:=u})=(GZ enc (L.set j (a,u,m))).toArray:=by
 apply Array.ext';simp only[GZ,Array.toList_modify,List.map_set];apply List.ext_getElem?;intro k;rw[List.getElem?_modify,List.getElem?_set];have hlt:=(Ae.1 h).1;by_cases hk:j=k
 ·subst hk;have h2:=AZ hlt;rw[h]at h2;injection h2 with h2
  simp[hlt,<-h2]
 ·simp[hk]
theorem SR(H:NQ P kt enc)(hu:P.underlying t=some (.map kt e))(hb:w.heap[b]? =some (.map (GZ enc L).toArray clk))(a:α)(v:Value):
 (Instr.mapUpdate t (.map (some b)) (enc a) v).run P w=.ok () {w with heap:=w.heap.setIfInBounds b (.map (GZ enc (F8 L a v clk)).toArray (J8 L a clk))}:=by
 have hf:=run_findKey H w a L;have hv:=N2 a L 0;simp only[Instr.mapUpdate,Ag,Ac hu,Ad,NR hb,H.chk,hf];cases hq:J7 L a 0 with
 |none=>
  rw[hq]at hv;simp only[Option.map_none]at hv;obtain⟨h1,_⟩:=MK hq;have he:(GZ enc L).toArray.push {key:=enc a,val:=v,born:=clk}=(GZ enc (F8 L a v clk)).toArray:=by rw[h1];simp[GZ]
  simp[setObj,Sem.run,hb,J8,<-hv,he]
 |some p=>
  obtain⟨j,u⟩:=p;rw[hq]at hv;simp only[CZ]at hv;obtain⟨_,m,h2,h3,_⟩:=Ou hq;simp only[Df]at h2 h3;have hk:(Option.map (fun x=>x.key) ((GZ enc L).toArray[j]?)).getD (enc a)=enc a:=by simp[GZ,h2]
  have he:=eO (enc:=enc) L j a u v m h2;simp only[Ag];rw[hk];simp only[Instr.keyThatStays,H.same,C9,BA,Ad];simp only[setObj,Sem.run,hb];rw[h3,<-he];simp[J8,<-hv]
variable{o:Oper}{y:Operand}{v:Value}{S':A2}
theorem KX(H:NQ P kt enc)(hT:Dp P T=true){a:α}(ho:o.op=.mapUpdate t m x y\/o.op=.insert t m x y)(ht:T.get t=some ⟨.mp kt e,sz⟩)(hm:Eg fr m=some (.map (some b)))(hx:Eg fr x=some kv)(hkv:kv=enc a)(hy:Eg fr y=some v)
 (hu:SL (DX enc b L clk) (DX enc b (F8 L a v clk) (J8 L a clk)) S S'):Eff P n o fr S (fun _ T=>T=S') (fun _ _=>False):=by
 subst hkv;intro A R a' w hk hs;obtain⟨U,p1,p2⟩:=hu.perm;have hs1:=hs.perm (p1.append_right R);have hb:w.heap[b]? =some (.map (GZ enc L).toArray clk):=hs1.has (b,_) (by simp[DX]);have hlt:=(A1.1 hb).1;have hr:=SR H (NL hT ht J) hb a v;have hrun:(execOp a'.eval o).run P w=.ok .skip {w with heap:=w.heap.setIfInBounds b (.map (GZ enc (F8 L a v clk)).toArray (J8 L a clk))}:=by rcases ho with ho|ho<;>simp[execOp,ho,hk.eval hm,hk.eval hx,hk.eval hy,hr]
 rw[Fq,hrun];refine⟨S',Ds.perm (Ds.put (S:=U++R) (b:=b) (o:=.map (GZ enc L).toArray clk) hs1 J J J DI (by simp[hlt]) (fun k hk hne=> ?_)) (p2.symm.append_right R),rfl⟩;show(w.heap.setIfInBounds b _)[k]? =_;rw[CN (Ne.symm hne)]
theorem DL.Ju(H:NQ P kt enc)(hT:Dp P T=true){a:α}(hg:lg fr g=some true)(ht:T.get t=some ⟨.mp kt e,sz⟩)(hm:Eg fr m=some (.map (some b)))(hx:Eg fr x=some kv)(hkv:kv=enc a)(hy:Eg fr y=some v)
 (hu:SL (DX enc b L clk) (DX enc b (F8 L a v clk) (J8 L a clk)) S S') (hK:Ge K S') (h:DL P n K Q rest fr S'):DL P n K Q (⟨i,⟨none,.mapUpdate t m x y,ty,pos,af,gd⟩,g⟩::rest) fr S:=
 .eff _ _ (.inl J) hg (fun e he=>by cases he) (KX H hT (.inl rfl) ht hm hx hkv hy hu) (fun _ _ h=>h.elim) (fun v T hT=>by subst hT;exact hK) (fun v T hT=>by subst hT;exact h)
theorem DL.insert(H:NQ P kt enc)(hT:Dp P T=true){a:α}(hg:lg fr g=some true)(ht:T.get t=some ⟨.mp kt e,sz⟩)(hm:Eg fr m=some (.map (some b)))(hx:Eg fr x=some kv)(hkv:kv=enc a)(hy:Eg fr y=some v)
 (hu:SL (DX enc b L clk) (DX enc b (F8 L a v clk) (J8 L a clk)) S S') (hK:Ge K S') (h:DL P n K Q rest fr S'):DL P n K Q (⟨i,⟨none,.insert t m x y,ty,pos,af,gd⟩,g⟩::rest) fr S:=
 .eff _ _ (.inl J) hg (fun e he=>by cases he) (KX H hT (.inr rfl) ht hm hx hkv hy hu) (fun _ _ h=>h.elim) (fun v T hT=>by subst hT;exact hK) (fun v T hT=>by subst hT;exact h)
theorem DL.makeMap(hg:g=none)(hn:Nat.blt d n=true)(h:∀b,DL P n K Q rest ((d,.map (some b))::fr) (DX enc b [] 0::S)):DL P n K Q (⟨i,⟨some d,.makeMap t none,ty,pos,af,gd⟩,g⟩::rest) fr S:=.IP (by simp[B5]) hg J (by simpa using hn) (G6 J) h
variable{AA:Array Operand}
theorem DL.delete(H:NQ P kt enc)(hT:Dp P T=true){tk:Nat}{a:α}{dd:Option Nat}(hg:lg fr g=some true)(hd:∀x,dd=some x->Nat.blt x n=true)(ht:T.get t=some ⟨.mp kt e,sz⟩)(ha:FP fr AA.toList=some [.map (some b),kv])(hkv:kv=enc a)
 (hu:SL (DX enc b L clk) (DX enc b (Jg L a) clk) S S') (hK:Ge K S') (h:DL P n K Q rest (Dc dd (.tuple #[]) fr) S'):DL P n K Q (⟨i,⟨dd,.call ⟨.builtin .delete,AA,#[t,tk]⟩,ty,pos,af,gd⟩,g⟩::rest) fr S:=by
 subst hkv;refine .eff (fun v T=>v=.tuple #[]/\T=S') (fun _ _=>False) (.inl J) hg (fun e he=>by simpa using hd e he) ?_ (fun _ _ h=>h.elim) (by rintro v T ⟨rfl,rfl⟩;exact hK) (by rintro v T ⟨rfl,rfl⟩;exact h);intro A R a' w hk hs;obtain⟨U,p1,p2⟩:=hu.perm;have hs1:=hs.perm (p1.append_right R);have hb:w.heap[b]? =some (.map (GZ enc L).toArray clk):=hs1.has (b,_) (by simp[DX]);have hlt:=(A1.1 hb).1;have hargs:AA.map a'.eval= #[.map (some b),enc a]:=Bl.1 (by simpa using EV hk ha);have hf:=run_findKey H w a L;have hr:(Builtin.delete_ #[t,tk] ty #[.map (some b),enc a]).run P w=.ok (.tuple #[]) {w with heap:=w.heap.setIfInBounds b (.map (GZ enc (Jg L a)).toArray clk)}:=by
  simp only[Builtin.delete_,Ag];simp only[Dx,Ci,DR,Ag,Ac (NL hT ht J),Ad,NR hb,H.chk,hf];cases hq:J7 L a 0 with
  |none=>obtain⟨_,h1⟩:=MK hq;rw[h1];simp[setObj,Sem.run,hb]
  |some p=>
   obtain⟨j,u⟩:=p;obtain⟨_,m,h2,_,h4⟩:=Ou hq;simp only[Df]at h2 h4;rw[h4];have he:(GZ enc L).toArray.eraseIdxIfInBounds j=(GZ enc (L.eraseIdx j)).toArray:=by
    apply Array.ext';have:∀(l:List (α×Value×Nat)) (k:Nat),(l.map fun p=>({key:=enc p.1,val:=p.2.1,born:=p.2.2}:MapEntry)).eraseIdx k=(l.eraseIdx k).map fun p=>{key:=enc p.1,val:=p.2.1,born:=p.2.2}:=fun l=>by
     induction l with
     |nil=>intro k;rfl
     |cons x r ih=>intro k;cases k with
      |zero=>rfl
      |succ k=>simp[ih]
    simp[GZ,this]
   simp[setObj,Sem.run,hb,he]
 have hrun:(execOp a'.eval ⟨dd,.call ⟨.builtin .delete,AA,#[t,tk]⟩,ty,pos,af,gd⟩).run P w=.ok (.value (.tuple #[])) {w with heap:=w.heap.setIfInBounds b (.map (GZ enc (Jg L a)).toArray clk)}:=by simp only[execOp,resolve,invoke,builtin,Ag,BA,Ad,hargs,hr]
 rw[Fq,hrun];refine⟨S',Ds.perm (Ds.put (S:=U++R) (b:=b) (o:=.map (GZ enc L).toArray clk) hs1 J J J DI (by simp[hlt]) (fun k hk hne=> ?_)) (p2.symm.append_right R),rfl,rfl⟩;show(w.heap.setIfInBounds b _)[k]? =_;rw[CN (Ne.symm hne)]
end
variable{z:Int}
theorem w64(h: -9223372036854775808<=z/\z<=9223372036854775807):IntKind.i64.wrap z=z:=IntWalk.i64_in z I
theorem wu64(h:0<=z/\z<=18446744073709551615):IntKind.u64.wrap z=z:=by rw[IntKind.wrap_u64];omega
theorem wu8(z:Int):IntKind.u8.wrap z=z%256:=by simp[IntKind.wrap,IntKind.bits,IntKind.signed]
section
variable{P:Program} {T:Tr} {n:Nat} {K:Option A2} {Q:EX} {fr:Fr} {S:A2} {rest:List FO}
variable{i ty:Nat} {pos:String} {af:Array Edge} {gd g:Option (Nat×Bool)} {d:Nat}
variable{op:Op}{v:Value}
theorem DL.pv(hT:Dp P T=true){v':Value}(ho:B5 ⟨some d,op,ty,pos,af,gd⟩=.Ia)(hg:lg fr g=some true)(hn:Nat.blt d n=true)(hv:EW T fr op=some v)(he:v=v')(h:DL P n K Q rest ((d,v')::fr) S):
 DL P n K Q (⟨i,⟨some d,op,ty,pos,af,gd⟩,g⟩::rest) fr S:=DL.p hT ho hg hn (by rw[hv,he]) h
variable{bo:BinOp}{t t':Nat}{x y:Operand}
theorem DL.nw(hT:Dp P T=true)(hg:lg fr g=some true)(hn:Nat.blt d n=true)(hv:EW T fr (.binOp bo t x y t')=some (.int .i64 (IntKind.i64.wrap z)))(hb: -9223372036854775808<=z/\z<=9223372036854775807)(h:DL P n K Q rest ((d,.int .i64 z)::fr) S):
 DL P n K Q (⟨i,⟨some d,.binOp bo t x y t',ty,pos,af,gd⟩,g⟩::rest) fr S:=DL.pv hT J hg hn hv (by rw[w64 hb]) h
theorem DL.nwu(hT:Dp P T=true)(hg:lg fr g=some true)(hn:Nat.blt d n=true)(hv:EW T fr (.binOp bo t x y t')=some (.int .u64 (IntKind.u64.wrap z)))(hb:0<=z/\z<=18446744073709551615)(h:DL P n K Q rest ((d,.int .u64 z)::fr) S):
 DL P n K Q (⟨i,⟨some d,.binOp bo t x y t',ty,pos,af,gd⟩,g⟩::rest) fr S:=DL.pv hT J hg hn hv (by rw[wu64 hb]) h
variable{s:Nat}
theorem DL.cv(hT:Dp P T=true)(hg:lg fr g=some true)(hn:Nat.blt d n=true)(hv:EW T fr (.convert s t x)=some (.int .i64 (IntKind.i64.wrap z)))(hb: -9223372036854775808<=z/\z<=9223372036854775807)(h:DL P n K Q rest ((d,.int .i64 z)::fr) S):
 DL P n K Q (⟨i,⟨some d,.convert s t x,ty,pos,af,gd⟩,g⟩::rest) fr S:=DL.pv hT (XH hv) hg hn hv (by rw[w64 hb]) h
theorem DL.cvu(hT:Dp P T=true)(hg:lg fr g=some true)(hn:Nat.blt d n=true)(hv:EW T fr (.convert s t x)=some (.int .u64 (IntKind.u64.wrap z)))(hb:0<=z/\z<=18446744073709551615)(h:DL P n K Q rest ((d,.int .u64 z)::fr) S):
 DL P n K Q (⟨i,⟨some d,.convert s t x,ty,pos,af,gd⟩,g⟩::rest) fr S:=DL.pv hT (XH hv) hg hn hv (by rw[wu64 hb]) h
theorem DL.cv8(hT:Dp P T=true)(hg:lg fr g=some true)(hn:Nat.blt d n=true)(hv:EW T fr (.convert s t x)=some (.int .u8 (IntKind.u8.wrap z)))(h:DL P n K Q rest ((d,.int .u8 (z%256))::fr) S):
 DL P n K Q (⟨i,⟨some d,.convert s t x,ty,pos,af,gd⟩,g⟩::rest) fr S:=DL.pv hT (XH hv) hg hn hv (by rw[wu8]) h
variable{k k':IntKind}{a:Int}
theorem DL.shr{s:Int}(j:Nat)(hg:lg fr g=some true)(hn:Nat.blt d n=true)(hx:Eg fr x=some (.int k a))(hy:Eg fr y=some (.int k' s))(hs:s=(j:Int))(hj:j<=k.bits)(h:DL P n K Q rest ((d,.int k (a/2^j))::fr) S):
 DL P n K Q (⟨i,⟨some d,.binOp .shr t x y t',ty,pos,af,gd⟩,g⟩::rest) fr S:=by
 refine DL.val J hg J hn (fun A R a' w hk hs'=> ?_) h;subst hs;have h0:¬(j:Int)<0:=I;have hm:min j k.bits=j:=Nat.min_eq_left hj;have hf:a.fdiv (2^j)=a/2^j:=Int.fdiv_eq_ediv_of_nonneg a (by exact Int.le_of_lt (Int.pow_pos I));simp[execOp,hk.eval hx,hk.eval hy,eqGuard,binOp,Op.shift,h0,hm,hf]
theorem DL.shl{s:Int}(j:Nat)(hg:lg fr g=some true)(hn:Nat.blt d n=true)(hx:Eg fr x=some (.int k a))(hy:Eg fr y=some (.int k' s))(hs:s=(j:Int))(hj:j<=k.bits)(h:DL P n K Q rest ((d,.int k (k.wrap (a*2^j)))::fr) S):
 DL P n K Q (⟨i,⟨some d,.binOp .shl t x y t',ty,pos,af,gd⟩,g⟩::rest) fr S:=by
 refine DL.val J hg J hn (fun A R a' w hk hs'=> ?_) h;subst hs;have h0:¬(j:Int)<0:=I;have hm:min j k.bits=j:=Nat.min_eq_left hj;simp[execOp,hk.eval hx,hk.eval hy,eqGuard,binOp,Op.shift,h0,hm]
theorem DL.quo(hT:Dp P T=true){b:Int}(hg:lg fr g=some true)(hn:Nat.blt d n=true)(hv:EW T fr (.binOp .quo t x y t')=some (.int k (k.wrap (a.tdiv b))))(h0:0<=a)(hw:k.wrap (a/b)=a/b)(h:DL P n K Q rest ((d,.int k (a/b))::fr) S):
 DL P n K Q (⟨i,⟨some d,.binOp .quo t x y t',ty,pos,af,gd⟩,g⟩::rest) fr S:=DL.pv hT J hg hn hv (by rw[Di h0,hw]) h
theorem DL.rem(hT:Dp P T=true){b:Int}(hg:lg fr g=some true)(hn:Nat.blt d n=true)(hv:EW T fr (.binOp .rem t x y t')=some (.int k (a.tmod b)))(h0:0<=a)(h:DL P n K Q rest ((d,.int k (a%b))::fr) S):
 DL P n K Q (⟨i,⟨some d,.binOp .rem t x y t',ty,pos,af,gd⟩,g⟩::rest) fr S:=DL.pv hT J hg hn hv (by rw[DJ h0]) h
variable{parts:List (Nat×Operand)}
theorem DL.bs(hT:Dp P T=true){t len e CU GN sz:Nat}{ps:List (Nat×List Value)}{cs:List Value}(hg:lg fr g=some true)(hn:Nat.blt d n=true)(ht:T.get t=some ⟨.sl e CU,sz⟩)(hE:Ew P e CU GN=true)
 (hp:Ic fr parts=some ps) (he:Nz 0 (ps.map (·.2))=ps) (hlen:ps.length=len) (hl:∀p∈ps,p.2.length=CU) (hc:(ps.map (·.2)).flatten=cs) (hs:len*CU<=16777216) (hK:Ge K S) (h:∀b,DL P n K Q rest ((d,.slice (some ⟨b,0,none⟩) len len)::fr) (A7 b cs e::S)):
 DL P n K Q (⟨i,⟨some d,.buildSlice t len parts.toArray,ty,pos,af,gd⟩,g⟩::rest) fr S:=
 DL.tY hT hg hn ht hE (NP:=ps.map (·.2)) (by rw[he];exact hp) (by simpa using hlen) (by rintro v hv;obtain⟨p,hp,rfl⟩:=A8.1 hv;exact hl p hp) hc hs hK h
theorem DL.mv(hT:Dp P T=true)(hg:lg fr g=some true)(hn:Nat.blt d n=true)(hv:Eg fr x=some v)(h:DL P n K Q rest ((d,v)::fr) S):DL P n K Q (⟨i,⟨some d,.move x,ty,pos,af,gd⟩,g⟩::rest) fr S:=DL.p hT J hg hn hv h
theorem DL.zV(hT:Dp P T=true)(hg:lg fr g=some true)(hn:Nat.blt d n=true)(hv:Eg fr x=some v)(h:DL P n K Q rest ((d,v)::fr) S):DL P n K Q (⟨i,⟨some d,.assign x,ty,pos,af,gd⟩,g⟩::rest) fr S:=DL.p hT J hg hn hv h
theorem DL.XJ(hT:Dp P T=true){b:Int}(hg:lg fr g=some true)(hn:Nat.blt d n=true)(hx:Eg fr x=some (.int .i64 a))(hy:Eg fr y=some (.int .i64 b))(hb: -9223372036854775808<=a+b/\a+b<=9223372036854775807)(h:DL P n K Q rest ((d,.int .i64 (a+b))::fr) S):
 DL P n K Q (⟨i,⟨some d,.binOp .add t x y t',ty,pos,af,gd⟩,g⟩::rest) fr S:=DL.nw hT hg hn (by simp only[EW,hx,hy];rfl) hb h
theorem DL.XK(hT:Dp P T=true){b:Int}(hg:lg fr g=some true)(hn:Nat.blt d n=true)(hx:Eg fr x=some (.int .i64 a))(hy:Eg fr y=some (.int .i64 b))(hb: -9223372036854775808<=a-b/\a-b<=9223372036854775807)(h:DL P n K Q rest ((d,.int .i64 (a-b))::fr) S):
 DL P n K Q (⟨i,⟨some d,.binOp .sub t x y t',ty,pos,af,gd⟩,g⟩::rest) fr S:=DL.nw hT hg hn (by simp only[EW,hx,hy];rfl) hb h
theorem DL.XL(hT:Dp P T=true){b:Int}(hg:lg fr g=some true)(hn:Nat.blt d n=true)(hx:Eg fr x=some (.int .i64 a))(hy:Eg fr y=some (.int .i64 b))(hb: -9223372036854775808<=a*b/\a*b<=9223372036854775807)(h:DL P n K Q rest ((d,.int .i64 (a*b))::fr) S):
 DL P n K Q (⟨i,⟨some d,.binOp .mul t x y t',ty,pos,af,gd⟩,g⟩::rest) fr S:=DL.nw hT hg hn (by simp only[EW,hx,hy];rfl) hb h
theorem DL.nY(hT:Dp P T=true){b:Int}(hg:lg fr g=some true)(hn:Nat.blt d n=true)(hx:Eg fr x=some (.int .u64 a))(hy:Eg fr y=some (.int .u64 b))(hb:0<=a+b/\a+b<=18446744073709551615)(h:DL P n K Q rest ((d,.int .u64 (a+b))::fr) S):
 DL P n K Q (⟨i,⟨some d,.binOp .add t x y t',ty,pos,af,gd⟩,g⟩::rest) fr S:=DL.nwu hT hg hn (by simp only[EW,hx,hy];rfl) hb h
theorem DL.nZ(hT:Dp P T=true){b:Int}(hg:lg fr g=some true)(hn:Nat.blt d n=true)(hx:Eg fr x=some (.int .u64 a))(hy:Eg fr y=some (.int .u64 b))(hb:0<=a-b/\a-b<=18446744073709551615)(h:DL P n K Q rest ((d,.int .u64 (a-b))::fr) S):
 DL P n K Q (⟨i,⟨some d,.binOp .sub t x y t',ty,pos,af,gd⟩,g⟩::rest) fr S:=DL.nwu hT hg hn (by simp only[EW,hx,hy];rfl) hb h
theorem DL.na(hT:Dp P T=true){b:Int}(hg:lg fr g=some true)(hn:Nat.blt d n=true)(hx:Eg fr x=some (.int .u64 a))(hy:Eg fr y=some (.int .u64 b))(hb:0<=a*b/\a*b<=18446744073709551615)(h:DL P n K Q rest ((d,.int .u64 (a*b))::fr) S):
 DL P n K Q (⟨i,⟨some d,.binOp .mul t x y t',ty,pos,af,gd⟩,g⟩::rest) fr S:=DL.nwu hT hg hn (by simp only[EW,hx,hy];rfl) hb h
variable{id:Nat}{l:List FO}
theorem CW.rg{An:List Oper}(hgd:I2 An=true)(hl:He An An 0=l)(h:DL P n none Q l fr S):CW P n (.region id An.toArray false) Q fr S:=CW.reg hgd (hl▸h)
variable{U:A2}
theorem CW.dw{An:List Oper}{zero:Nat->Option Value}(order:List Nat)(K:A2)(hm:P.follows .mixedOrders=true)(hz:∀t v,zero t=some v->(P.info? t).bind (·.zero)=some v)
 (hc:(HN An.toArray order&&FT An.toArray&&HO zero n An.toArray)=true) (hp:DV S K U) (hl:E2 An order=l) (h:DL P n (some K) Q l fr S):CW P n (.region id An.toArray true) Q fr S:=CW.dr order K hm hz hc hp (hl▸h)
theorem CW.rN{c:Code}{ι:Type}(M:Nat)(m:ι->Nat)(hyp:ι->Prop)(F:ι->Fr)(H:ι->A2)
 (round0:CW P n c (IL (fun fr' S'=>∃j U,m j<M/\hyp j/\Eo (F j) fr'/\DV S' (H j) U) Q) fr S)
 (round:∀i,hyp i->CW P n c (IL (fun fr' S'=>∃j U,m j<m i/\hyp j/\Eo (F j) fr'/\DV S' (H j) U) Q) (F i) (H i)):CW P n (.loop c) Q fr S:=by
 have hall:∀S:A2,∃U,DV S S U:=fun S=>by
  induction S with
  |nil=>exact⟨[],.nil⟩
  |cons c S ih=>obtain⟨U,hU⟩:=ih;exact⟨U,.cons .here hU⟩
 obtain⟨U0,hU0⟩:=hall S;have up:∀{c:Code} {fr:Fr} {S:A2} {N N':Fr->A2->Prop},(∀f s,N f s->N' f s)->CW P n c (IL N Q) fr S->CW P n c (IL N' Q) fr S:=fun hN h A R a w hd hk hs=>
  wp_mono (h A R a w hd hk hs) (fun e a' w' hq=>by
   obtain⟨hd',hh⟩:=hq;refine⟨hd',?_⟩;cases e with
   |normal=>obtain⟨f,s,h1,h2,h3⟩:=hh;exact⟨f,s,h1,h2,hN f s h3⟩
   |_=>exact hh)
 refine CW.loop (ι:=Option ι) (fun o=>match o with|none=>M|some i=>m i) (fun o=>match o with|none=>True|some i=>hyp i) (fun o=>match o with|none=>fr|some i=>F i) (fun o=>match o with|none=>S|some i=>H i) none trivial (Eo.refl _) hU0 ?_;intro o ho;cases o with
 |none=>exact up (fun f s ⟨j,U,h1,h2,h3,h4⟩=>⟨some j,U,h1,h2,h3,h4⟩) round0
 |some i=>exact up (fun f s ⟨j,U,h1,h2,h3,h4⟩=>⟨some j,U,h1,h2,h3,h4⟩) (round i ho)
theorem DL.dd(hg:lg fr g=some false)(hn:Nat.blt d n=true)(h:DL P n K Q rest ((d,undef)::fr) S):DL P n K Q (⟨i,⟨some d,op,ty,pos,af,gd⟩,g⟩::rest) fr S:=DL.dead hg hn h
end
end
end Go.Proofs.YtfekkjbdcdnhlaaGreatDoor.Sep
