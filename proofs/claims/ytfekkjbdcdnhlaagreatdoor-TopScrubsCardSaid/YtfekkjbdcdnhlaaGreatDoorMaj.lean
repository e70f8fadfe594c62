/- Lemmas for TopScrubs. No condition but those that each states. -/
import Derived.Laws.BytesString
import Derived.Test.YtfekkjbdcdnhlaaGreatDoorMag
import Derived.Test.YtfekkjbdcdnhlaaGreatDoorMai
set_option linter.all false
set_option maxHeartbeats 8000000
set_option maxRecDepth 100000
namespace Go.Proofs.YtfekkjbdcdnhlaaGreatDoor.Sep
noncomputable section
section
variable{P:Program} {T:Tr} {n:Nat} {K:Option A2} {Q:EX} {fr:Fr} {S:A2} {rest:List FO}
variable{i ty:Nat} {pos:String} {af:Array Edge} {gd g:Option (Nat×Bool)} {d:Nat}
variable{t e sz m:Nat}
theorem DL.aCx(hT:Dp P T=true){ax:Array Operand}{tn CU GN:Nat}{k kn:IntKind}{zf:Nat}(hg:lg fr g=some true)(hn:Nat.blt d n=true)(ht:T.get t=some ⟨.sl e CU,sz⟩)(htn:T.get tn=some ⟨.int kn,zf⟩)(hE:Ew P e CU GN=true)(aE3:0<CU)
 (ha:FP fr ax.toList=some [.slice none 0 0,.int k (m:Int)]) (hm:0<m) (hbd:m*GN<=140737488355328) (hbd2:m<=9223372036854775807)
 (hK:∀b' cs,Ge K (A7 b' cs e::S)) (h:∀b' cap' cs,cs.length=cap'*CU->m<=cap'->DL P n K Q rest ((d,.slice (some ⟨b',0,none⟩) m cap')::fr) (A7 b' cs e::S)):
 DL P n K Q (⟨i,⟨some d,.call ⟨.builtin .append,ax,#[t,tn]⟩,ty,pos,af,gd⟩,g⟩::rest) fr S:=by
 refine .eff (fun v S'=>∃b' cap' cs,v=.slice (some ⟨b',0,none⟩) m cap'/\cs.length=cap'*CU/\m<=cap'/\S'=A7 b' cs e::S) (fun _ _=>False) (.inl J) hg (fun e he=>by cases he;simpa using hn) ?_ (fun _ _ h=>h.elim) ?_ ?_
 ·intro A V a w hk hs;obtain⟨ie,z,hi,h1,h2,hz,h3⟩:=Gy hE;obtain⟨hu,_⟩:=Et hT ht J;have hun:=HF hT htn J;have hargs:ax.map a.eval= #[.slice none 0 0,.int k (m:Int)]:=Bl.1 (by simpa using EV hk ha);have hval:=Lib.run_append_nil_zeros w t tn ty e ie z k kn hu hun hi hz m hm I I (by rw[h2];omega);have hrun:(execOp a.eval ⟨some d,.call ⟨.builtin .append,ax,#[t,tn]⟩,ty,pos,af,gd⟩).run P w=((Builtin.append_ #[t,tn] ty #[.slice none 0 0,.int k (m:Int)]).run P w).andThen fun v w'=>.ok (.value v) w':=by simp only[execOp,resolve,invoke,builtin,Ag,BA,Ad,hargs]
  rw[Fq,hrun,hval];have hcap:m<=grownCap w m 0 e:=by unfold grownCap;simp only[Question.cut];omega
  have hsz:(Builtin.zeroCells z.cells m++Builtin.zeroCells z.cells (grownCap w m 0 e-m)).size=grownCap w m 0 e*CU:=by
   rw[Array.size_append,Hf,Hf,h3,<-D2];congr 1
   omega
  generalize(Builtin.zeroCells z.cells m++Builtin.zeroCells z.cells (grownCap w m 0 e-m))=X at hsz⊢;refine⟨A7 w.heap.size X.toList e::S,?_,w.heap.size,_,_,rfl,by rw[Dt];exact hsz,hcap,rfl⟩;have hs2:Ds A w.drew (S++V):=hs.drawn _;have h5:A7 w.heap.size X.toList e=[(w.heap.size,.cells X e (0,0))]:=by simp[A7]
  rw[h5];exact hs2.new _
 ·rintro v S' ⟨b',cap',cs,rfl,h1,h2,rfl⟩;exact hK _ _
 ·rintro v S' ⟨b',cap',cs,rfl,h1,h2,rfl⟩;exact h b' cap' cs h1 h2
end
variable{m:Nat}
theorem grow(hm:0<m)(hbd:m<=1048576):Fn Tryz.prog 315 [.slice none 0 0,.int .i64 m] [] (Dv (ι:=Nat×Nat×List Value) (fun i=>m<=i.2.1/\i.2.2.length=i.2.1) (fun i=>.slice (some ⟨i.1,0,none⟩) 0 i.2.1) (fun i=>[A7 i.1 i.2.2 5])):=by refine Fn.of Tryz.func315 J J [_] J ?_;refine wW ?_;refine DL.eJ tt (l:=0) (m:=0) (c:=0) J J J J J J J (.hi J I) ?_;refine wW ?_;refine DL.aCx tt (m:=m) J J J J W5 I J hm I I kC ?_;intro b cap cs h1 h2;refine wW ?_;refine DL.Qj tt (l:=0) (m:=0) (c:=cap) J J J J J J J (.hi J I) ?_;rw[show(if cap=0 then 0 else 0+0*1)=0 by split<;>rfl];refine vR ?_;exact BD (b,cap,cs) ⟨h2,by simpa using h1⟩ (DC (RV.tmp J)) pK
theorem zg:Fn Tryz.prog 315 [.slice none 0 0,.int .i64 ((0:Nat):Int)] [] (E4 (.slice none 0 0) []):=by refine Fn.of Tryz.func315 J J [_] J ?_;exact wW trivial
abbrev Qk:={q:Int×List Int×Int×List UInt8//q.2.1.length=32}
def Oy(l:List UInt8):ByteArray:=⟨l.toArray⟩
def P0(q:Qk):List Value:=.int .i64 q.1.1::(q.1.2.1.map (Value.int .u8)++[.int .i64 q.1.2.2.1,.string (Oy q.1.2.2.2)])
def Gq(q:Qk):Value:=.agg (P0 q).toArray
theorem Oz:Tryz.prog.fieldsOf 177= #[{name:= "kind",type:=156,offset:=0,embedded:=false,tag:= "",pkgPath:= "anchorite/oracle",byteOffset:=0},{name:= "key",type:=23,offset:=1,embedded:=false,tag:= "",pkgPath:= "anchorite/oracle",byteOffset:=8},{name:= "domain",type:=157,offset:=33,embedded:=false,tag:= "",pkgPath:= "anchorite/oracle",byteOffset:=40},{name:= "data",type:=9,offset:=34,embedded:=false,tag:= "",pkgPath:= "anchorite/oracle",byteOffset:=48}]:=kR
theorem nl(a b:List UInt8):((Oy a).toList==(Oy b).toList)=decide (a=b):=by rw[A5,A5];rw[Bool.eq_iff_iff];simp[Oy]
theorem XS:Tryz.prog.underlying 177=some (.struct (Tryz.prog.fieldsOf 177)):=by rw[Tryz.underlying177,Oz]
section
variable(w:World) (q:Qk)
theorem O0:(part 156 (P0 q).toArray 0).run Tryz.prog w=.ok (.int .i64 q.1.1) w:=by simp[part,isAgg,Ac Tryz.underlying156,P0]
theorem Qs:(part 157 (P0 q).toArray 33).run Tryz.prog w=.ok (.int .i64 q.1.2.2.1) w:=by have h:=q.2;simp[part,isAgg,Ac Tryz.underlying157,P0,CX,h]
theorem O1:(part 9 (P0 q).toArray 34).run Tryz.prog w=.ok (.string (Oy q.1.2.2.2)) w:=by have h:=q.2;simp[part,isAgg,Ac Tryz.underlying9,P0,CX,h]
theorem Qu:(part 23 (P0 q).toArray 1).run Tryz.prog w=.ok (.agg (q.1.2.1.map (Value.int .u8)).toArray) w:=by have h:=q.2;obtain⟨i,hi,hs⟩:=Gi (P:=Tryz.prog) (t:=23) (n:=32) kR;simp[part,isAgg,Ac Tryz.underlying23,sizeOf,typeInfo,hi,hs,P0];rw[Ar (by simp[h])];rw[AX (by simp[h])]
end
theorem np(w:World)(a b:Qk):(Op.equal 177 (Gq a) (Gq b)).run Tryz.prog w=.ok (decide (a=b)) w:=by obtain⟨i,hi,hs⟩:=Gi (P:=Tryz.prog) (t:=5) (n:=1) kR;have hk:=Ir (P:=Tryz.prog) w 9997 Tryz.underlying23 hi kR Tryz.underlying5 a.1.2.1 b.1.2.1 a.2 b.2;have e:Op.equal 177 (Gq a) (Gq b)=Op.equalIn (9999+1) 177 (.agg (P0 a).toArray) (.agg (P0 b).toArray):=rfl;rw[e,run_equalIn_struct w 9999 177 _ _ XS kR,Oz];have h1:=D4 (P:=Tryz.prog) w 9998 156 .i64 .i64 a.1.1 b.1.1 Tryz.underlying156;have h2:=D4 (P:=Tryz.prog) w 9998 157 .i64 .i64 a.1.2.2.1 b.1.2.2.1 Tryz.underlying157;have h3:=run_equalIn_string (P:=Tryz.prog) w 9998 9 (Oy a.1.2.2.2) (Oy b.1.2.2.2) Tryz.underlying9;rw[nl]at h3;simp only[Op.eqFields,Sem.run_ite,Ag,O0,Qs,O1,Qu,Ad,h1,h2,h3,hk,BA];obtain⟨⟨k1,l1,d1,s1⟩,p1⟩:=a;obtain⟨⟨k2,l2,d2,s2⟩,p2⟩:=b;simp only[Subtype.mk.injEq,Af];by_cases c1:k1=k2<;>by_cases c2:l1=l2<;>by_cases c3:d1=d2<;>by_cases c4:s1=s2<;>simp[c1,c2,c3,c4]
theorem ea(w:World)(em:Bool)(a:Qk):(Instr.checkKey em 10000 177 (Gq a)).run Tryz.prog w=.ok () w:=by
 show(Instr.checkKey em (9999+1) 177 (Gq a)).run Tryz.prog w=.ok () w;have hk:=Vg (P:=Tryz.prog) w em 9997 Tryz.underlying23 kR Tryz.underlying5 a.1.2.1 a.2;have h1:∀k z,(Instr.checkKey em 9999 156 (.int k z)).run Tryz.prog w=.ok () w:=fun k z=>by show(Instr.checkKey em (9998+1) 156 _).run Tryz.prog w=_;rw[Instr.checkKey];simp only[Ag,Ac Tryz.underlying156,Ad];rfl
 have h2:∀k z,(Instr.checkKey em 9999 157 (.int k z)).run Tryz.prog w=.ok () w:=fun k z=>by show(Instr.checkKey em (9998+1) 157 _).run Tryz.prog w=_;rw[Instr.checkKey];simp only[Ag,Ac Tryz.underlying157,Ad];rfl
 have h3:∀z,(Instr.checkKey em 9999 9 (.string z)).run Tryz.prog w=.ok () w:=fun z=>by show(Instr.checkKey em (9998+1) 9 _).run Tryz.prog w=_;rw[Instr.checkKey];simp only[Ag,Ac Tryz.underlying9,Ad];rfl
 have hk:(Instr.checkKey em 9999 23 (.agg (a.1.2.1.map (Value.int .u8)).toArray)).run Tryz.prog w=.ok () w:=hk;rw[Instr.checkKey];simp only[Gq,Ag,Ac XS,Ad,Oz];rw[<-Array.forIn_toList];simp only[List.forIn_cons,List.forIn_nil,Ag,Sem.run_ite,O0,Qs,O1,Qu,Ad,h1,h2,h3,hk,BA];simp[O0,Qs,O1,Qu,h1,h2,h3,hk]
theorem NE(n:Nat)(k:IntKind):∀l:List Int,((l.map (Value.int k)).zip (l.map (Value.int k))).all (fun p=>Instr.sameBits n p.1 p.2)=true
 |[]=>rfl
 |x::l=>by have ih:=NE n k l;simp only[Ap,List.zip_cons_cons,List.all_cons,ih,Bool.and_true];simp[Instr.sameBits]
theorem Z7(a:Qk):Instr.sameBits 10000 (Gq a) (Gq a)=true:=by
 show Instr.sameBits (9999+1) _ _=true;have h:=NE 9999 .u8 a.1.2.1;have e:∀l:List Value,(l.zip l).all (fun p=>Instr.sameBits 9999 p.1 p.2)=l.all (fun v=>Instr.sameBits 9999 v v):=fun l=>by
  induction l with
  |nil=>rfl
  |cons x l ih=>simp[ih]
 rw[e]at h;simp only[Gq,Instr.sameBits,beq_self_eq_true,Bool.true_and,e];simp only[P0,List.all_cons,List.all_append,h,List.all_nil,Bool.and_true,Bool.true_and];simp only[Instr.sameBits,beq_self_eq_true,Bool.and_self,Bool.true_and];rw[beq_toListBytes];simp
theorem Qv:NQ Tryz.prog 177 Gq where
 und:=⟨_,XS,fun a b=>.inl J⟩
 eq:=np
 chk:=ea
 same:=Z7
def Vh(X:List Int):List UInt8:=X.map fun n=>UInt8.ofNat n.toNat
theorem foldl_push:∀(X:List Int) (s:ByteArray),X.foldl (fun r n=>r.push (UInt8.ofNat n.toNat)) s=⟨(s.data.toList++Vh X).toArray⟩
 |[],s=>by simp[Vh]
 |x::X,s=>by
  rw[List.foldl_cons,foldl_push X];congr 1
  simp[Vh,ByteArray.push]
section
variable{P:Program} {T:Tr} {n:Nat} {K:Option A2} {Q:EX} {fr:Fr} {S:A2} {rest:List FO}
variable{i ty:Nat} {pos:String} {af:Array Edge} {gd g:Option (Nat×Bool)} {d:Nat}
variable{t e sz:Nat}{x:Operand}
theorem Qw{s sz' ez:Nat}{dst:Option Nat}(hs:T.get s=some ⟨.sl e ez,sz⟩)(ht:T.get t=some ⟨.str,sz'⟩):B5 ⟨dst,.convert s t x,ty,pos,af,gd⟩=.Ia:=by
 cases hst:Nat.beq s t
 ·simp only[B5,hst,AO]
 ·obtain rfl:=AK hst;rw[hs]at ht;cases ht
variable{X:List Int}
theorem DL.toStr(hT:Dp P T=true){s t e sz sz' t7 b off len cap bt:Nat}{cs:List Value}(hg:lg fr g=some true)(hn:Nat.blt d n=true)(hs:T.get s=some ⟨.sl e 1,sz⟩)(he:T.get e=some ⟨.int .u8,t7⟩)(ht:T.get t=some ⟨.str,sz'⟩)
 (hx:Eg fr x=some (.slice (some ⟨b,off,none⟩) len cap)) (hm:In (A7 b cs bt) (K.getD S)) (hX:(cs.drop off).take len=Sep.bs X) (hl:X.length=len) (h:DL P n K Q rest ((d,.string (Oy (Vh X)))::fr) S):
 DL P n K Q (⟨i,⟨some d,.convert s t x,ty,pos,af,gd⟩,g⟩::rest) fr S:=by
 refine DL.val (Qw hs ht) hg J hn ?_ h;intro A R a w hk hs';have hc:=I1 (hs'.mem hm.mem)
 have hu:=(Et hT hs J).1;have hue:=HF hT he J;have hut:=Hh hT ht J;have hr:=run_loadCells_list (P:=P) (w:=w) ⟨b,off,none⟩ (Sep.bs X) (fun j v hj=>by
  rw[DD,hc];rw[<-hX]at hj;rw[Bf]at hj;split at hj
  ·rw[CG]at hj;exact hj
  ·cases hj)
 rw[Aa,hl]at hr;have hb:=run_bytesToString (P:=P) w ⟨b,off,none⟩ len cap X (by simpa[Sep.bs]using hr);have e2:X.foldl (fun r n=>r.push (UInt8.ofNat n.toNat)) ByteArray.empty=Oy (Vh X):=by rw[foldl_push];rfl
 simp only[execOp,hk.eval hx,Ag,run_convert_bytes_string w s t e (some ⟨b,off,none⟩) len cap hu hue hut,hb,e2];rfl
theorem DL.UM(hT:Dp P T=true){s t e sz sz' t7 len cap:Nat}(hg:lg fr g=some true)(hn:Nat.blt d n=true)(hs:T.get s=some ⟨.sl e 1,sz⟩)(he:T.get e=some ⟨.int .u8,t7⟩)(ht:T.get t=some ⟨.str,sz'⟩)
 (hx:Eg fr x=some (.slice none len cap)) (h:DL P n K Q rest ((d,.string (Oy []))::fr) S):
 DL P n K Q (⟨i,⟨some d,.convert s t x,ty,pos,af,gd⟩,g⟩::rest) fr S:=by
 refine DL.val (Qw hs ht) hg J hn ?_ h;intro A R a w hk hs';have hu:=(Et hT hs J).1;have hue:=HF hT he J;have hut:=Hh hT ht J;simp only[execOp,hk.eval hx,Ag,run_convert_bytes_string w s t e none len cap hu hue hut,Conv.bytesToString,BA];rfl
end
abbrev Z8:=Nat×Nat×List Value
theorem Qx{b off m cap bt:Nat}{cs news:List Value}(hv:(cs.drop off).take m=news)(hl:news.length=m)(h1:∀u∈news,u.oneCell'=true)(hbd:m<=1099511627776):Fn Tryz.prog 161 [.slice (some ⟨b,off,none⟩) m cap] [A7 b cs bt] (Dv (ι:=Z8) (fun i=>m<=i.2.1/\i.2.2.length=i.2.1-m) (fun i=>.slice (some ⟨i.1,0,none⟩) m i.2.1) (fun i=>[A7 i.1 (news++i.2.2) 5,A7 b cs bt])):=by
 refine Fn.of Tryz.func161 J J [_] J ?_
 (refine wW ?_;intro b;refine wW ?_)
 refine DL.append (xs:=[]) (ex:=[]) (news:=news) tt J J J W5 J .here (DO.slice tt J iN (by simpa using hv) (by simpa using hl) h1) J J I I I kC ?_;intro b' cap' ex' h2 h3;rw[show 0+m=m from BM m]at h2 h3⊢;rw[AS];refine vR ?_;exact BD (b',cap',ex') ⟨h3,by simpa using h2⟩ (DC (RV.tmp J)) pK
theorem KZ:Fn Tryz.prog 161 [.slice none 0 0] [] (E4 (.slice none 0 0) []):=by refine Fn.of Tryz.func161 J J [_] J ?_;exact wW trivial
theorem UN{x:Int}(hx:0<=x/\x<=18446744073709551615):Fn Tryz.prog 247 [.int .u64 x] [] (Dv (ι:=Z8) (fun i=>8<=i.2.1/\i.2.2.length=i.2.1-8) (fun i=>.slice (some ⟨i.1,0,none⟩) 8 i.2.1) (fun i=>[II i.1 (Ek x 8) i.2.2])):=by refine Fn.of Tryz.func247 J J [_] J ?_;refine wW ?_;refine DL.call J J J (.nil) (eY hx.1 hx.2) kR (fun ch S1 hc=>by obtain⟨_,_,_,_,_,hc,_⟩:=hc;cases hc) ?_;rintro v S1 ⟨b,cap,ex,h1,h2,hv,rfl⟩;cases hv;refine⟨D9,?_⟩;simp only[AQ,AS,Dc];refine vR ?_;exact BD (b,cap,ex) ⟨h1,h2⟩ (DC (RV.tmp J)) pK
def oL(M:List Int)(ds:Value)(u:Nat)(kb:Nat)(ls:Value):List Value:=.bool true::(bs M++[ds,.int .i64 u,.map (some kb),ls])
section
variable{M:List Int} {ds ls:Value} {u kb:Nat} (hM:M.length=32)
include hM
theorem Kv:(oL M ds u kb ls).length=37:=by simp[oL,Aa,hM]
theorem Vp:E1 (oL M ds u kb ls) 33=some ds:=by rw[D5];simp[oL,CX,Aa,hM]
theorem Q5:E1 (oL M ds u kb ls) 34=some (.int .i64 u):=by rw[D5];simp[oL,CX,Aa,hM]
theorem LN:E1 (oL M ds u kb ls) 35=some (.map (some kb)):=by rw[D5];simp[oL,CX,Aa,hM]
theorem LO:E1 (oL M ds u kb ls) 36=some ls:=by rw[D5];simp[oL,CX,Aa,hM]
theorem N8(u':Nat):(oL M ds u kb ls).set 34 (.int .i64 u')=oL M ds u' kb ls:=by simp only[oL,Cf];rw[DN _ _ (by simp[Aa,hM])];simp[Aa,hM]
theorem Ll(ls':Value):(oL M ds u kb ls).set 36 ls'=oL M ds u kb ls':=by simp only[oL,Cf];rw[DN _ _ (by simp[Aa,hM])];simp[Aa,hM]
end
abbrev oB(b:Nat)(M:List Int)(ds:Value)(u kb:Nat)(ls:Value):List CH:=A7 b (oL M ds u kb ls) 132
def Ed(D:List (List Int))(u:Nat):List Int:=D.getD u (Ek u 8++BQ 23++[1])
def SX(D:List (List Int))(ds:Value)(dC:List CH):Prop:=(∀x∈D,x.length=32)/\((D=[]/\ds=.slice none 0 0/\dC=[])\/∃db cap ex,ds=.slice (some ⟨db,0,none⟩) D.length cap/\D.length<=cap/\dC=A7 db (bs D.flatten++ex) 23)
theorem Yx:∀{D:List (List Int)} {u:Nat} (hD:∀x∈D,x.length=32) (hu:u<D.length),(D.flatten.drop (u*32)).take 32=D[u]
 |x::D,0,hD,_=>by have:=hD x DI;simp[Ar,this,AX]
 |x::D,u+1,hD,h=>by
  have h0:=hD x DI;have ih:=Yx (D:=D) (u:=u) (fun y hy=>hD y (by simp[hy])) (by simpa using h)
  simp only[AW,List.getElem_cons_succ];rw[show(u+1)*32=x.length+u*32 by omega,<-EU,List.drop_left' J];exact ih
theorem uV(x:Int):(Ek x 8++BQ 23++[1]).length=32:=by simp[Ey,Bn]
variable{D:List (List Int)}
theorem IT(hD:∀x∈D,x.length=32)(u:Nat):(Ed D u).length=32:=by
 unfold Ed;rw[BR];cases h:D[u]? with
 |none=>exact uV u
 |some x=>exact hD x (EQ h)
variable{b:Nat}{M:List Int}{u kb:Nat}{dC:List CH}
theorem QK{ds ls:Value}(hM:M.length=32)(hd:SX D ds dC)(hu:u<1099511627776)(hDl:D.length<1099511627776):Fn Tryz.prog 160 [Au b] [oB b M ds u kb ls,dC] (E4 (.agg (bs (Ed D u)).toArray) [oB b M ds (u+1) kb ls,dC]):=by
 obtain⟨hD,hd⟩:=hd;rcases hd with⟨rfl,rfl,rfl⟩|⟨db,cap,ex,rfl,hle,rfl⟩
 ·have hdf:Ed [] u=Ek u 8++BQ 23++[1]:=rfl;rw[hdf];refine Fn.of Tryz.func160 J J [_] J ?_
  (refine W ?_;intro b;refine W ?_)
  refine DL.ld1 tt J J J J J (.there .here) (Q5 hM) ?_;refine W ?_;refine DL.ld1 tt J J J J J (.there .here) (Q5 hM) ?_;refine W ?_;rw[show(u:Int)+1=((u+1:Nat):Int) by omega];refine DL.Br (cs':=oL M _ (u+1) kb ls) tt J J J J J (.there .here) (by simpa using N8 hM (u+1)) J J (by rw[Kv hM];omega) kO ?_;refine W ?_;refine DL.ld1 tt J J J J J (.there .here) (Vp hM) ?_
  (refine W ?_;intro b;refine W ?_)
  have e0:=IT hD u;have hlow:=Ey (u:Int) 8;refine CW.dw [0,1,2,3,4] [] mixed hz kR .nil nD ?_;skip
  refine DL.Ld tt (l:=0) (m:=32) (c:=32) J J J J J J J .all ?_;refine W ?_;refine DL.B7 J J J pK (UN ⟨I,I⟩) kR (fun _=>aP) (fun _=>kO) ?_;rintro⟨wb,ED,IU⟩ ⟨w1,w2⟩;dsimp only;refine DL.copy (vs:=bs (Ek u 8)) (cs':=bs (Ek u 8++BQ 24)) tt J (fun _ h=>by cases h;rfl) J J J .here (.there .here) ?_ ?_ ?_ (BV _) ?_ kO ?_
  ·simp[Aa,hlow]
  ·simp[Aa,hlow]
  ·simp[Aa,hlow,bs,BQ]
  ·simp[Aa,hlow,Bn]
  simp only[Dc];refine W ?_;refine DL.Fg tt 31 J J J J J J Ba ?_;refine DL.Br (cs':=bs (Ek u 8++BQ 23++[1])) tt J J J J J (.there .here) (by rfl) J J (by simp[Aa,hlow,Bn]) kO ?_;have h32:=uV (u:Int);refine W ?_;refine DL.LJ tt J J J J J (.there .here) (by rw[Aa,h32]) ?_;refine DL.Bj tt J J J J (.there (.there .here)) lN (BV _) lN kO ?_;exact W trivial
 ·by_cases hlt:u<D.length
  ·have hdf:Ed D u=D[u]:=by unfold Ed;rw[BR,AZ hlt];rfl
   have hfl:=Yx hD hlt;have h32:=hD D[u] (B1 hlt);have aCy:((bs D.flatten++ex).drop (u*32)).take 32=bs D[u]:=by
    have e1:((bs D.flatten).drop (u*32)).take 32=bs D[u]:=by rw[<-hfl];simp only[bs,List.map_take,List.map_drop]
    rw[Gk (l:=bs D.flatten) (by rw[e1,Aa,h32]),e1]
   rw[hdf];refine Fn.of Tryz.func160 J J [_] J ?_
   (refine W ?_;intro b;refine W ?_)
   refine DL.ld1 tt J J J J J (.there .here) (Q5 hM) ?_;refine W ?_;refine DL.ld1 tt J J J J J (.there .here) (Q5 hM) ?_;refine W ?_;rw[show(u:Int)+1=((u+1:Nat):Int) by omega];refine DL.Br (cs':=oL M _ (u+1) kb ls) tt J J J J J (.there .here) (by simpa using N8 hM (u+1)) J J (by rw[Kv hM];omega) kO ?_;refine W ?_;refine DL.ld1 tt J J J J J (.there .here) (Vp hM) ?_;refine W ?_;refine DL.ld1 tt J J J J J (.there .here) (Vp hM) ?_;refine W ?_;refine DL.C3 tt u J J J J J J hlt ?_;refine DL.df (vs:=bs D[u]) tt J J J J J (.there (.there .here)) (by simpa using aCy) (by rw[Aa,h32]) ?_;refine DL.Bj tt J J J J .here lN (BV _) lN kO ?_;exact W trivial
  ·have hdf:Ed D u=Ek u 8++BQ 23++[1]:=by unfold Ed;rw[BR,List.getElem?_eq_none I];rfl
   rw[hdf];refine Fn.of Tryz.func160 J J [_] J ?_
   (refine W ?_;intro b;refine W ?_)
   refine DL.ld1 tt J J J J J (.there .here) (Q5 hM) ?_;refine W ?_;refine DL.ld1 tt J J J J J (.there .here) (Q5 hM) ?_;refine W ?_;rw[show(u:Int)+1=((u+1:Nat):Int) by omega];refine DL.Br (cs':=oL M _ (u+1) kb ls) tt J J J J J (.there .here) (by simpa using N8 hM (u+1)) J J (by rw[Kv hM];omega) kO ?_;refine W ?_;refine DL.ld1 tt J J J J J (.there .here) (Vp hM) ?_
   (refine W ?_;intro b;refine W ?_)
   have e0:=IT hD u;have hlow:=Ey (u:Int) 8;refine CW.dw [0,1,2,3,4] [] mixed hz kR .nil nD ?_;skip
   refine DL.Ld tt (l:=0) (m:=32) (c:=32) J J J J J J J .all ?_;refine W ?_;refine DL.B7 J J J pK (UN ⟨I,I⟩) kR (fun _=>aP) (fun _=>kO) ?_;rintro⟨wb,ED,IU⟩ ⟨w1,w2⟩;dsimp only;refine DL.copy (vs:=bs (Ek u 8)) (cs':=bs (Ek u 8++BQ 24)) tt J (fun _ h=>by cases h;rfl) J J J .here (.there .here) ?_ ?_ ?_ (BV _) ?_ kO ?_
   ·simp[Aa,hlow]
   ·simp[Aa,hlow]
   ·simp[Aa,hlow,bs,BQ]
   ·simp[Aa,hlow,Bn]
   simp only[Dc];refine W ?_;refine DL.Fg tt 31 J J J J J J Ba ?_;refine DL.Br (cs':=bs (Ek u 8++BQ 23++[1])) tt J J J J J (.there .here) (by rfl) J J (by simp[Aa,hlow,Bn]) kO ?_;have h32:=uV (u:Int);refine W ?_;refine DL.LJ tt J J J J J (.there .here) (by rw[Aa,h32]) ?_;refine DL.Bj tt J J J J (.there (.there .here)) lN (BV _) lN kO ?_;exact W trivial
def qL(k:Int)(key:List Int)(dm:Int)(dv:Value):List Value:=.int .i64 k::(bs key++[.int .i64 dm,dv])
section
variable{k dm:Int} {key:List Int} {dv:Value} (hk:key.length=32)
include hk
theorem Ee:(qL k key dm dv).length=35:=by simp[qL,Aa,hk]
theorem Na:((qL k key dm dv).drop 1).take 32=bs key:=by simp only[qL,List.drop_succ_cons,BL];rw[Ar (by rw[Aa,hk];exact Ao _),AX (by rw[Aa,hk];exact Ao _)]
theorem Q6:E1 (qL k key dm dv) 33=some (.int .i64 dm):=by rw[D5];simp[qL,CX,Aa,hk]
theorem KB:E1 (qL k key dm dv) 34=some dv:=by rw[D5];simp[qL,CX,Aa,hk]
theorem KC(dv':Value):(qL k key dm dv).set 34 dv'=qL k key dm dv':=by simp only[qL,Cf];rw[DN _ _ (by simp[Aa,hk])];simp[Aa,hk]
theorem Q7{a c d z0 zc zd:Value}{Z:List Int}(hZ:Z.length=32):F6 (Kd.st [(0,1),(1,32),(33,1),(34,1)]).place (z0::(bs Z++[zc,zd])) [(0,[a]),(1,bs key),(2,[c]),(3,[d])]=some (a::(bs key++[c,d])):=by simp[F6,Kd.place,E1,Aa,hk,hZ,C4,CM,AX,BJ];rfl
end
def G9(X:List Int)(dv:Value)(dC:List CH):Prop:=(X=[]/\dv=.slice none 0 0/\dC=[])\/∃b off cap cs t,dv=.slice (some ⟨b,off,none⟩) X.length cap/\X.length<=cap/\dC=A7 b cs t/\(cs.drop off).take X.length=bs X
abbrev qk(k:Int)(key:List Int)(dm:Int)(X:List Int)(hk:key.length=32):Qk:=⟨(k,key,dm,Vh X),hk⟩
variable{k dm:Int}{key:List Int}
theorem MO{s:ByteArray}:∀u∈(Value.int .i64 k::(bs key++[.int .i64 dm,.string s])),u.oneCell'=true:=by
 intro u hu;simp only[Ab,Aj,List.mem_nil_iff,BX]at hu;rcases hu with rfl|hu|rfl|rfl
 ·rfl
 ·exact BV _ u hu
 ·rfl
 ·rfl
variable{n clk:Nat}{X:List Int}{L:List (Qk×Value×Nat)}{SH:List Value}
theorem UR{lb M4 i:Nat}{ans:List Int}{ds dv cv:Value}(hM:M.length=32)(hk:key.length=32)(hd:G9 X dv dC)(hL:E9 L (qk k key dm X hk)=some (.int .i64 i))(hi:i<n)(hans:ans.length=32)(hl:(SH.drop (i*67+35)).take 32=bs ans):
 Fn Tryz.prog 94 [Au b,.agg (qL k key dm dv).toArray,cv] [oB b M ds u kb (.slice (some ⟨lb,0,none⟩) n M4),DX Gq kb L clk,A7 lb SH 175,dC] (E4 (.agg (bs ans).toArray) [oB b M ds u kb (.slice (some ⟨lb,0,none⟩) n M4),DX Gq kb L clk,A7 lb SH 175,dC]):=by
 rcases hd with⟨rfl,rfl,rfl⟩|⟨db,off,cap,cs,t,rfl,hcap,rfl,hX⟩
 ·refine Fn.of Tryz.func94 J J [_] J ?_;have SI:=Ee (k:=k) (dm:=dm) (dv:=.slice none 0 0) hk
  (refine W ?_;intro b;refine W ?_;intro b;refine W ?_)
  refine DL.df (vs:=bs key) tt J J J J J (.there .here) (Na hk) (by rw[Aa,hk]) ?_;refine W ?_;refine DL.ld1 tt J J J J J (.there .here) (Q6 hk) ?_;refine W ?_;refine DL.ld1 tt J J J J J (.there .here) (KB hk) ?_;skip
  refine DL.UM tt J J J J J J ?_;refine DL.build hz tt J J J J J J (Q7 (Z:=BQ 32) hk J) ?_
  (refine W ?_;intro b)
  refine DL.Bj tt J J J J .here (by simp[Aa,hk]) MO HS kO ?_;refine W ?_;refine CW.dA (id:=2) [0,1,2,3,4,5,6,7,8,9,10] mixed hz kR nD ?_;refine W ?_;refine DL.G8 tt J J J J J (.there (.there (.there .here))) (LN hM) ?_;skip
  refine DL.GG tt J J J J J .here (by simp[Aa,hk]) ?_;refine DL.I0 (a:=qk k key dm [] hk) (L:=L) (clk:=clk) Qv tt hz J J J J J J J (.there (.there (.there (.there .here)))) ?_;simp only[hL,B0,Option.isSome_some];refine W ?_;refine DL.ld1 tt J J J J J (.there (.there (.there .here))) (LO hM) ?_;refine W ?_;refine DL.C3 tt i J J J J J J hi ?_;refine W ?_;refine DL.df (vs:=bs ans) tt J J J J J (.there (.there (.there (.there (.there .here))))) (by simpa using hl) (by rw[Aa,hans]) ?_;refine DL.Bj tt J J J J (.there .here) (by rw[Aa,hans]) (BV _) (by rw[Aa,Bn]) kO ?_;exact W trivial
 ·refine Fn.of Tryz.func94 J J [_] J ?_;have SI:=Ee (k:=k) (dm:=dm) (dv:=.slice (some ⟨db,off,none⟩) X.length cap) hk
  (refine W ?_;intro b;refine W ?_;intro b;refine W ?_)
  refine DL.df (vs:=bs key) tt J J J J J (.there .here) (Na hk) (by rw[Aa,hk]) ?_;refine W ?_;refine DL.ld1 tt J J J J J (.there .here) (Q6 hk) ?_;refine W ?_;refine DL.ld1 tt J J J J J (.there .here) (KB hk) ?_;skip
  refine DL.toStr tt J J J J J J (.there (.there (.there (.there (.there .here))))) hX J ?_;refine DL.build hz tt J J J J J J (Q7 (Z:=BQ 32) hk J) ?_
  (refine W ?_;intro b)
  refine DL.Bj tt J J J J .here (by simp[Aa,hk]) MO HS kO ?_;refine W ?_;refine CW.dA (id:=2) [0,1,2,3,4,5,6,7,8,9,10] mixed hz kR nD ?_;refine W ?_;refine DL.G8 tt J J J J J (.there (.there (.there .here))) (LN hM) ?_;skip
  refine DL.GG tt J J J J J .here (by simp[Aa,hk]) ?_;refine DL.I0 (a:=qk k key dm X hk) (L:=L) (clk:=clk) Qv tt hz J J J J J J J (.there (.there (.there (.there .here)))) ?_;simp only[hL,B0,Option.isSome_some];refine W ?_;refine DL.ld1 tt J J J J J (.there (.there (.there .here))) (LO hM) ?_;refine W ?_;refine DL.C3 tt i J J J J J J hi ?_;refine W ?_;refine DL.df (vs:=bs ans) tt J J J J J (.there (.there (.there (.there (.there .here))))) (by simpa using hl) (by rw[Aa,hans]) ?_;refine DL.Bj tt J J J J (.there .here) (by rw[Aa,hans]) (BV _) (by rw[Aa,Bn]) kO ?_;exact W trivial
section
variable{P:Program} {n:Nat} {Q:EX} {fr:Fr} {S:A2}
theorem QL{x:FO}(h:DL P n none Q [x] fr S):(Vd P n Q x).go .normal fr S:=h
theorem CW.dl{id:Nat}{An:List Oper}{l:List FO}{x:FO}{U:A2}{zero:Nat->Option Value}(pre:List Nat)(z:Nat)(K:A2)(hm:P.follows .mixedOrders=true)(hz:∀t v,zero t=some v->(P.info? t).bind (·.zero)=some v)
 (hc:(HN An.toArray (pre++[z])&&FT An.toArray&&HO zero n An.toArray&&lastB An.toArray z)=true) (hp:DV S K U) (hl:E2 An pre=l) (hx:Jf An z=x) (h:DL P n (some K) (Vd P n Q x) l fr S):CW P n (.region id An.toArray true) Q fr S:=by
 refine CW.eU pre z hm hz hc hp ?_;have e:DF An.toArray=Jf An:=funext fun i=>by rw[Jm]
 rw[e,<-G7,hl,hx];exact h
end
def TL(n:Nat)(SH:List Value)(ls:Value)(lC:List CH):Prop:=(n=0/\SH=[]/\ls=.slice none 0 0/\lC=[])\/∃lb M4 ex,ls=.slice (some ⟨lb,0,none⟩) n M4/\n<=M4/\lC=A7 lb (SH++ex) 175/\SH.length=n*67/\ex.length=(M4-n)*67
theorem Yy{A B:List Value}{zs:List Value}(hA:A.length=35)(hB:B.length=32)(hz:zs.length=67):F6 (Kd.st [(0,35),(35,32)]).place zs [(0,A),(1,B)]=some (A++B):=by simp[F6,Kd.place,E1,hA,hB,hz,C4,CM,AX,BJ];rfl
theorem MP:(([Value.int .i64 0]++bs (BQ 32)++[Value.int .i64 0,Value.slice none 0 0]++bs (BQ 32)):List Value).length=67:=by simp[Aa,Bn]
theorem N9{d:List Int}{dv:Value}(hdv:dv.oneCell'=true):∀u∈qL k key dm dv++bs d,u.oneCell'=true:=by
 intro u hu;simp only[qL,Ab,Aj,List.mem_nil_iff,BX]at hu;rcases hu with(rfl|hu|rfl|rfl)|hu
 ·rfl
 ·exact BV _ u hu
 ·rfl
 ·exact hdv
 ·exact BV _ u hu
abbrev AnI:=Value×A2×Value×List CH
def XY(X:List Int)(dv:Value)(dH:A2):Prop:=(X=[]/\dv=.slice none 0 0/\dH=[])\/∃b cap ex,dv=.slice (some ⟨b,0,none⟩) X.length cap/\X.length<=cap/\dH=[A7 b (bs X++ex) 5]
def uW(X:List Int)(n:Nat)(SH:List Value)(k:Int)(key:List Int)(dm:Int)(d:List Int)(i:AnI):Prop:=XY X i.1 i.2.1/\TL (n+1) (SH++(qL k key dm i.1++bs d)) i.2.2.1 i.2.2.2
theorem XZ{b0:Nat}{ds dv cv ls:Value}{lC Hv:List CH}(hM:M.length=32)(hk:key.length=32)(hdr:SX D ds Hv)(hu:u<1099511627776)(hDl:D.length<1099511627776)(hd:G9 X dv dC)(Hw:X.length<1048576)(M5:TL n SH ls lC)(hn:n<4294967296)(hL:E9 L (qk k key dm X hk)=none):
 Fn Tryz.prog 94 [Au b0,.agg (qL k key dm dv).toArray,cv] [oB b0 M ds u kb ls,DX Gq kb L clk,lC,Hv,dC] (Dv (ι:=AnI) (uW X n SH k key dm (Ed D u)) (fun _=>.agg (bs (Ed D u)).toArray) (fun i=>[oB b0 M ds (u+1) kb i.2.2.1,DX Gq kb (F8 L (qk k key dm X hk) (.int .i64 n) clk) (J8 L (qk k key dm X hk) clk),i.2.2.2,Hv,dC]++i.2.1)):=by
 have hdl:=IT hdr.1 u;rcases hd with⟨rfl,rfl,rfl⟩|⟨db,off,cap,cs,t,rfl,hcap,rfl,hX⟩<;>rcases M5 with⟨rfl,rfl,rfl,rfl⟩|⟨lb,M4,lex,rfl,hnl,rfl,hll,hle⟩
 ·refine Fn.of Tryz.func94 J J [_] J ?_
  (refine W ?_;intro b;refine W ?_;intro b;refine W ?_)
  refine DL.df (vs:=bs key) tt J J J J J (.there .here) (Na hk) (by rw[Aa,hk]) ?_;refine W ?_;refine DL.ld1 tt J J J J J (.there .here) (Q6 hk) ?_;refine W ?_;refine DL.ld1 tt J J J J J (.there .here) (KB hk) ?_;skip
  refine DL.UM tt J J J J J J ?_;refine DL.build hz tt J J J J J J (Q7 (Z:=BQ 32) hk J) ?_
  (refine W ?_;intro b)
  refine DL.Bj tt J J J J .here (by simp[Aa,hk]) MO HS kO ?_;refine W ?_;refine CW.dA (id:=2) [0,1,2,3,4,5,6,7,8,9,10] mixed hz kR nD ?_;refine W ?_;refine DL.G8 tt J J J J J (.there (.there (.there .here))) (LN hM) ?_;skip
  refine DL.GG tt J J J J J .here (by simp[Aa,hk]) ?_;refine DL.I0 (a:=qk k key dm [] hk) (L:=L) (clk:=clk) Qv tt hz J J J J J J J (.there (.there (.there (.there .here)))) ?_;simp only[hL,EN,Option.isSome_none]
  (refine W ?_;intro b;refine W ?_)
  refine DL.BS J J J (F:=[oB b0 M ds u kb _,Hv]) (.cons (.there (.there (.there (.there .here)))) (.cons (.there (.there (.there (.there (.there (.there .here)))))) .nil)) (QK hM hdr hu hDl) kR aP D9 ?_;refine DL.Bj tt J J J J (.there (.there .here)) (by rw[Aa,hdl]) (BV _) (by rw[Aa,Bn]) kO ?_;refine W ?_;refine DL.ld1 tt J J J J J (.there (.there (.there (.there (.there .here))))) (KB hk) ?_;refine DL.BS J J J .nil KZ kR .nil D9 ?_;refine W ?_;refine DL.Br (cs':=qL k key dm (.slice none 0 0)) tt J J J J J (.there (.there (.there (.there (.there .here))))) (by simpa using KC hk _) J J (by rw[Ee hk];omega) kO ?_;refine W ?_;refine CW.dw [0,1,2,3,4,5,6,7,8,9,10] [_,_] mixed hz kR (.cons .here (.cons (.there (.there .here)) .nil)) nD ?_;refine W ?_;refine DL.G8 tt J J J J J .here (LN hM) ?_;refine DL.GG tt J J J J J (.there .here) (by simp[Aa,hk]) ?_;refine W ?_;refine DL.G8 tt J J J J J .here (LO hM) ?_;refine W ?_;refine DL.Ju (a:=qk k key dm [] hk) (L:=L) (clk:=clk) Qv tt J J J J J J (.there (.there (.there (.there (.there (.there .here)))))) (Du (.cons .here (.cons (.there (.there .here)) .nil))) ?_;refine W ?_;refine CW.dl [0,1,2,3,4,5,6,7,8,9,10,11] 12 [_,_,_] mixed hz kR (.cons .here (.cons (.there .here) (.cons (.there (.there (.there .here))) .nil))) nD (by simp only[Jf,JK,E1];rfl) ?_;refine W ?_;refine DL.G8 tt J J J J J .here (LO hM) ?_;refine DL.GG tt J J J J J (.there (.there .here)) (Ee hk) ?_;refine DL.GG tt J J J J J (.there .here) (by rw[Aa,hdl]) ?_;refine DL.build hz tt J J J J J J (Yy (A:=qL k key dm (.slice none 0 0)) (B:=bs (Ed D u)) (Ee hk) (by rw[Aa,hdl]) MP) ?_;refine DL.bs tt J J J ND J J J (by simp[Value.cells,Ee hk,Aa,hdl]) (cs:=qL k key dm (.slice none 0 0)++bs (Ed D u)) (by simp[Value.cells]) I (Du (.cons .here (.cons (.there .here) (.cons (.there (.there (.there .here))) .nil)))) ?_;intro nbk;have hnews:(qL k key dm (.slice none 0 0)++bs (Ed D u)).length=67:=by rw[Aq,Ee hk,Aa,hdl]
  refine DL.N1 tt (m:=1) (news:=qL k key dm (.slice none 0 0)++bs (Ed D u)) J J J ND J (DO.slice tt J .here (by rw[BL,AX (by rw[hnews];decide)]) hnews (N9 J)) I I I (fun _ _=>Du (.cons (.there (.there .here)) (.cons (.there (.there (.there .here))) (.cons (.there (.there (.there (.there (.there .here))))) .nil)))) ?_;intro lb' JO lex' g1 g2;refine W ?_;refine QL ?_;refine DL.Br (cs':=oL M ds (u+1) kb (.slice (some ⟨lb',0,none⟩) 1 JO)) tt J J J J J (.there (.there .here)) (by simpa using Ll hM _) J J (by rw[Kv hM];omega) D9 ?_;refine W ?_;refine DL.LJ tt J J J J J (.there (.there (.there (.there .here)))) (by rw[Aa,hdl]) ?_;refine DL.Bj tt J J J J (.there (.there (.there (.there (.there (.there .here)))))) (by rw[Aa,hdl]) (BV _) (by rw[Aa,Bn]) D9 ?_;refine W ?_;exact BD ((.slice none 0 0),[],(.slice (some ⟨lb',0,none⟩) 1 JO),A7 lb' ((qL k key dm (.slice none 0 0)++bs (Ed D u))++lex') 175) ⟨.inl ⟨rfl,rfl,rfl⟩,.inr ⟨lb',JO,lex',rfl,g2,rfl,by simpa using hnews,by simpa using g1⟩⟩ (DC (RV.D8 tt J J J (In.mem (.there (.there (.there (.there (.there (.there .here))))))) (by rw[Aa,hdl]))) pKd
 ·refine Fn.of Tryz.func94 J J [_] J ?_
  (refine W ?_;intro b;refine W ?_;intro b;refine W ?_)
  refine DL.df (vs:=bs key) tt J J J J J (.there .here) (Na hk) (by rw[Aa,hk]) ?_;refine W ?_;refine DL.ld1 tt J J J J J (.there .here) (Q6 hk) ?_;refine W ?_;refine DL.ld1 tt J J J J J (.there .here) (KB hk) ?_;skip
  refine DL.UM tt J J J J J J ?_;refine DL.build hz tt J J J J J J (Q7 (Z:=BQ 32) hk J) ?_
  (refine W ?_;intro b)
  refine DL.Bj tt J J J J .here (by simp[Aa,hk]) MO HS kO ?_;refine W ?_;refine CW.dA (id:=2) [0,1,2,3,4,5,6,7,8,9,10] mixed hz kR nD ?_;refine W ?_;refine DL.G8 tt J J J J J (.there (.there (.there .here))) (LN hM) ?_;skip
  refine DL.GG tt J J J J J .here (by simp[Aa,hk]) ?_;refine DL.I0 (a:=qk k key dm [] hk) (L:=L) (clk:=clk) Qv tt hz J J J J J J J (.there (.there (.there (.there .here)))) ?_;simp only[hL,EN,Option.isSome_none]
  (refine W ?_;intro b;refine W ?_)
  refine DL.BS J J J (F:=[oB b0 M ds u kb _,Hv]) (.cons (.there (.there (.there (.there .here)))) (.cons (.there (.there (.there (.there (.there (.there .here)))))) .nil)) (QK hM hdr hu hDl) kR aP D9 ?_;refine DL.Bj tt J J J J (.there (.there .here)) (by rw[Aa,hdl]) (BV _) (by rw[Aa,Bn]) kO ?_;refine W ?_;refine DL.ld1 tt J J J J J (.there (.there (.there (.there (.there .here))))) (KB hk) ?_;refine DL.BS J J J .nil KZ kR .nil D9 ?_;refine W ?_;refine DL.Br (cs':=qL k key dm (.slice none 0 0)) tt J J J J J (.there (.there (.there (.there (.there .here))))) (by simpa using KC hk _) J J (by rw[Ee hk];omega) kO ?_;refine W ?_;refine CW.dw [0,1,2,3,4,5,6,7,8,9,10] [_,_] mixed hz kR (.cons .here (.cons (.there (.there .here)) .nil)) nD ?_;refine W ?_;refine DL.G8 tt J J J J J .here (LN hM) ?_;refine DL.GG tt J J J J J (.there .here) (by simp[Aa,hk]) ?_;refine W ?_;refine DL.G8 tt J J J J J .here (LO hM) ?_;refine W ?_;refine DL.Ju (a:=qk k key dm [] hk) (L:=L) (clk:=clk) Qv tt J J J J J J (.there (.there (.there (.there (.there (.there .here)))))) (Du (.cons .here (.cons (.there (.there .here)) .nil))) ?_;refine W ?_;refine CW.dl [0,1,2,3,4,5,6,7,8,9,10,11] 12 [_,_,_] mixed hz kR (.cons .here (.cons (.there .here) (.cons (.there (.there (.there .here))) .nil))) nD (by simp only[Jf,JK,E1];rfl) ?_;refine W ?_;refine DL.G8 tt J J J J J .here (LO hM) ?_;refine DL.GG tt J J J J J (.there (.there .here)) (Ee hk) ?_;refine DL.GG tt J J J J J (.there .here) (by rw[Aa,hdl]) ?_;refine DL.build hz tt J J J J J J (Yy (A:=qL k key dm (.slice none 0 0)) (B:=bs (Ed D u)) (Ee hk) (by rw[Aa,hdl]) MP) ?_;refine DL.bs tt J J J ND J J J (by simp[Value.cells,Ee hk,Aa,hdl]) (cs:=qL k key dm (.slice none 0 0)++bs (Ed D u)) (by simp[Value.cells]) I (Du (.cons .here (.cons (.there .here) (.cons (.there (.there (.there .here))) .nil)))) ?_;intro nbk;have hnews:(qL k key dm (.slice none 0 0)++bs (Ed D u)).length=67:=by rw[Aq,Ee hk,Aa,hdl]
  refine DL.append tt (xs:=SH) (ex:=lex) (m:=1) (news:=qL k key dm (.slice none 0 0)++bs (Ed D u)) J J J ND J (.there (.there (.there (.there (.there (.there (.there (.there .here)))))))) (DO.slice tt J .here (by rw[BL,AX (by rw[hnews];decide)]) hnews (N9 J)) hll hle hnl I I (fun _ _=>Du (.cons (.there (.there .here)) (.cons (.there (.there (.there .here))) (.cons (.there (.there (.there (.there (.there .here))))) .nil)))) ?_;intro lb' JO lex' g1 g2;refine W ?_;refine QL ?_;refine DL.Br (cs':=oL M ds (u+1) kb (.slice (some ⟨lb',0,none⟩) (n+1) JO)) tt J J J J J (.there (.there .here)) (by simpa using Ll hM _) J J (by rw[Kv hM];omega) D9 ?_;refine W ?_;refine DL.LJ tt J J J J J (.there (.there (.there (.there .here)))) (by rw[Aa,hdl]) ?_;refine DL.Bj tt J J J J (.there (.there (.there (.there (.there (.there .here)))))) (by rw[Aa,hdl]) (BV _) (by rw[Aa,Bn]) D9 ?_;refine W ?_;exact BD ((.slice none 0 0),[],(.slice (some ⟨lb',0,none⟩) (n+1) JO),A7 lb' (SH++(qL k key dm (.slice none 0 0)++bs (Ed D u))++lex') 175) ⟨.inl ⟨rfl,rfl,rfl⟩,.inr ⟨lb',JO,lex',rfl,g2,rfl,by rw[Aq,hll,hnews];omega,by simpa using g1⟩⟩ (DC (RV.D8 tt J J J (In.mem (.there (.there (.there (.there (.there (.there .here))))))) (by rw[Aa,hdl]))) pKd
 ·refine Fn.of Tryz.func94 J J [_] J ?_
  (refine W ?_;intro b;refine W ?_;intro b;refine W ?_)
  refine DL.df (vs:=bs key) tt J J J J J (.there .here) (Na hk) (by rw[Aa,hk]) ?_;refine W ?_;refine DL.ld1 tt J J J J J (.there .here) (Q6 hk) ?_;refine W ?_;refine DL.ld1 tt J J J J J (.there .here) (KB hk) ?_;skip
  refine DL.toStr tt J J J J J J (.there (.there (.there (.there (.there (.there .here)))))) hX J ?_;refine DL.build hz tt J J J J J J (Q7 (Z:=BQ 32) hk J) ?_
  (refine W ?_;intro b)
  refine DL.Bj tt J J J J .here (by simp[Aa,hk]) MO HS kO ?_;refine W ?_;refine CW.dA (id:=2) [0,1,2,3,4,5,6,7,8,9,10] mixed hz kR nD ?_;refine W ?_;refine DL.G8 tt J J J J J (.there (.there (.there .here))) (LN hM) ?_;skip
  refine DL.GG tt J J J J J .here (by simp[Aa,hk]) ?_;refine DL.I0 (a:=qk k key dm X hk) (L:=L) (clk:=clk) Qv tt hz J J J J J J J (.there (.there (.there (.there .here)))) ?_;simp only[hL,EN,Option.isSome_none]
  (refine W ?_;intro b;refine W ?_)
  refine DL.BS J J J (F:=[oB b0 M ds u kb _,Hv]) (.cons (.there (.there (.there (.there .here)))) (.cons (.there (.there (.there (.there (.there (.there .here)))))) .nil)) (QK hM hdr hu hDl) kR aP D9 ?_;refine DL.Bj tt J J J J (.there (.there .here)) (by rw[Aa,hdl]) (BV _) (by rw[Aa,Bn]) kO ?_;refine W ?_;refine DL.ld1 tt J J J J J (.there (.there (.there (.there (.there .here))))) (KB hk) ?_;refine DL.B7 J J J (.cons (.there (.there (.there (.there (.there (.there (.there (.there .here)))))))) .nil) (Qx hX (by rw[Aa]) (BV _) I) kR (fun _=>aP) (fun _=>D9) ?_;rintro⟨nb,Lm,nex⟩ ⟨n1,n2⟩;dsimp only at n1 n2⊢;refine W ?_;refine DL.Br (cs':=qL k key dm (.slice (some ⟨nb,0,none⟩) X.length Lm)) tt J J J J J (.there (.there (.there (.there (.there (.there (.there .here))))))) (by simpa using KC hk _) J J (by rw[Ee hk];omega) kO ?_;refine W ?_;refine CW.dw [0,1,2,3,4,5,6,7,8,9,10] [_,_] mixed hz kR (.cons (.there (.there .here)) (.cons (.there (.there (.there (.there .here)))) .nil)) nD ?_;refine W ?_;refine DL.G8 tt J J J J J .here (LN hM) ?_;refine DL.GG tt J J J J J (.there .here) (by simp[Aa,hk]) ?_;refine W ?_;refine DL.G8 tt J J J J J .here (LO hM) ?_;refine W ?_;refine DL.Ju (a:=qk k key dm X hk) (L:=L) (clk:=clk) Qv tt J J J J J J (.there (.there (.there (.there (.there (.there (.there (.there .here)))))))) (Du (.cons (.there (.there .here)) (.cons (.there (.there (.there (.there .here)))) .nil))) ?_;refine W ?_;refine CW.dl [0,1,2,3,4,5,6,7,8,9,10,11] 12 [_,_,_] mixed hz kR (.cons (.there (.there .here)) (.cons (.there (.there (.there .here))) (.cons (.there (.there (.there (.there (.there .here))))) .nil))) nD (by simp only[Jf,JK,E1];rfl) ?_;refine W ?_;refine DL.G8 tt J J J J J .here (LO hM) ?_;refine DL.GG tt J J J J J (.there (.there .here)) (Ee hk) ?_;refine DL.GG tt J J J J J (.there .here) (by rw[Aa,hdl]) ?_;refine DL.build hz tt J J J J J J (Yy (A:=qL k key dm (.slice (some ⟨nb,0,none⟩) X.length Lm)) (B:=bs (Ed D u)) (Ee hk) (by rw[Aa,hdl]) MP) ?_;refine DL.bs tt J J J ND J J J (by simp[Value.cells,Ee hk,Aa,hdl]) (cs:=qL k key dm (.slice (some ⟨nb,0,none⟩) X.length Lm)++bs (Ed D u)) (by simp[Value.cells]) I (Du (.cons (.there (.there .here)) (.cons (.there (.there (.there .here))) (.cons (.there (.there (.there (.there (.there .here))))) .nil)))) ?_;intro nbk;have hnews:(qL k key dm (.slice (some ⟨nb,0,none⟩) X.length Lm)++bs (Ed D u)).length=67:=by rw[Aq,Ee hk,Aa,hdl]
  refine DL.N1 tt (m:=1) (news:=qL k key dm (.slice (some ⟨nb,0,none⟩) X.length Lm)++bs (Ed D u)) J J J ND J (DO.slice tt J .here (by rw[BL,AX (by rw[hnews];decide)]) hnews (N9 J)) I I I (fun _ _=>Du (.cons (.there (.there (.there (.there .here)))) (.cons (.there (.there (.there (.there (.there .here))))) (.cons (.there (.there (.there (.there (.there (.there (.there .here))))))) .nil)))) ?_;intro lb' JO lex' g1 g2;refine W ?_;refine QL ?_;refine DL.Br (cs':=oL M ds (u+1) kb (.slice (some ⟨lb',0,none⟩) 1 JO)) tt J J J J J (.there (.there (.there (.there .here)))) (by simpa using Ll hM _) J J (by rw[Kv hM];omega) D9 ?_;refine W ?_;refine DL.LJ tt J J J J J (.there (.there (.there (.there (.there (.there .here)))))) (by rw[Aa,hdl]) ?_;refine DL.Bj tt J J J J (.there (.there (.there (.there (.there (.there (.there (.there .here)))))))) (by rw[Aa,hdl]) (BV _) (by rw[Aa,Bn]) D9 ?_;refine W ?_;exact BD ((.slice (some ⟨nb,0,none⟩) X.length Lm),[A7 nb (bs X++nex) 5],(.slice (some ⟨lb',0,none⟩) 1 JO),A7 lb' ((qL k key dm (.slice (some ⟨nb,0,none⟩) X.length Lm)++bs (Ed D u))++lex') 175) ⟨.inr ⟨nb,Lm,nex,rfl,n1,rfl⟩,.inr ⟨lb',JO,lex',rfl,g2,rfl,by simpa using hnews,by simpa using g1⟩⟩ (DC (RV.D8 tt J J J (In.mem (.there (.there (.there (.there (.there (.there (.there (.there .here))))))))) (by rw[Aa,hdl]))) pKd
 ·refine Fn.of Tryz.func94 J J [_] J ?_
  (refine W ?_;intro b;refine W ?_;intro b;refine W ?_)
  refine DL.df (vs:=bs key) tt J J J J J (.there .here) (Na hk) (by rw[Aa,hk]) ?_;refine W ?_;refine DL.ld1 tt J J J J J (.there .here) (Q6 hk) ?_;refine W ?_;refine DL.ld1 tt J J J J J (.there .here) (KB hk) ?_;skip
  refine DL.toStr tt J J J J J J (.there (.there (.there (.there (.there (.there .here)))))) hX J ?_;refine DL.build hz tt J J J J J J (Q7 (Z:=BQ 32) hk J) ?_
  (refine W ?_;intro b)
  refine DL.Bj tt J J J J .here (by simp[Aa,hk]) MO HS kO ?_;refine W ?_;refine CW.dA (id:=2) [0,1,2,3,4,5,6,7,8,9,10] mixed hz kR nD ?_;refine W ?_;refine DL.G8 tt J J J J J (.there (.there (.there .here))) (LN hM) ?_;skip
  refine DL.GG tt J J J J J .here (by simp[Aa,hk]) ?_;refine DL.I0 (a:=qk k key dm X hk) (L:=L) (clk:=clk) Qv tt hz J J J J J J J (.there (.there (.there (.there .here)))) ?_;simp only[hL,EN,Option.isSome_none]
  (refine W ?_;intro b;refine W ?_)
  refine DL.BS J J J (F:=[oB b0 M ds u kb _,Hv]) (.cons (.there (.there (.there (.there .here)))) (.cons (.there (.there (.there (.there (.there (.there .here)))))) .nil)) (QK hM hdr hu hDl) kR aP D9 ?_;refine DL.Bj tt J J J J (.there (.there .here)) (by rw[Aa,hdl]) (BV _) (by rw[Aa,Bn]) kO ?_;refine W ?_;refine DL.ld1 tt J J J J J (.there (.there (.there (.there (.there .here))))) (KB hk) ?_;refine DL.B7 J J J (.cons (.there (.there (.there (.there (.there (.there (.there (.there .here)))))))) .nil) (Qx hX (by rw[Aa]) (BV _) I) kR (fun _=>aP) (fun _=>D9) ?_;rintro⟨nb,Lm,nex⟩ ⟨n1,n2⟩;dsimp only at n1 n2⊢;refine W ?_;refine DL.Br (cs':=qL k key dm (.slice (some ⟨nb,0,none⟩) X.length Lm)) tt J J J J J (.there (.there (.there (.there (.there (.there (.there .here))))))) (by simpa using KC hk _) J J (by rw[Ee hk];omega) kO ?_;refine W ?_;refine CW.dw [0,1,2,3,4,5,6,7,8,9,10] [_,_] mixed hz kR (.cons (.there (.there .here)) (.cons (.there (.there (.there (.there .here)))) .nil)) nD ?_;refine W ?_;refine DL.G8 tt J J J J J .here (LN hM) ?_;refine DL.GG tt J J J J J (.there .here) (by simp[Aa,hk]) ?_;refine W ?_;refine DL.G8 tt J J J J J .here (LO hM) ?_;refine W ?_;refine DL.Ju (a:=qk k key dm X hk) (L:=L) (clk:=clk) Qv tt J J J J J J (.there (.there (.there (.there (.there (.there (.there (.there .here)))))))) (Du (.cons (.there (.there .here)) (.cons (.there (.there (.there (.there .here)))) .nil))) ?_;refine W ?_;refine CW.dl [0,1,2,3,4,5,6,7,8,9,10,11] 12 [_,_,_] mixed hz kR (.cons (.there (.there .here)) (.cons (.there (.there (.there .here))) (.cons (.there (.there (.there (.there (.there .here))))) .nil))) nD (by simp only[Jf,JK,E1];rfl) ?_;refine W ?_;refine DL.G8 tt J J J J J .here (LO hM) ?_;refine DL.GG tt J J J J J (.there (.there .here)) (Ee hk) ?_;refine DL.GG tt J J J J J (.there .here) (by rw[Aa,hdl]) ?_;refine DL.build hz tt J J J J J J (Yy (A:=qL k key dm (.slice (some ⟨nb,0,none⟩) X.length Lm)) (B:=bs (Ed D u)) (Ee hk) (by rw[Aa,hdl]) MP) ?_;refine DL.bs tt J J J ND J J J (by simp[Value.cells,Ee hk,Aa,hdl]) (cs:=qL k key dm (.slice (some ⟨nb,0,none⟩) X.length Lm)++bs (Ed D u)) (by simp[Value.cells]) I (Du (.cons (.there (.there .here)) (.cons (.there (.there (.there .here))) (.cons (.there (.there (.there (.there (.there .here))))) .nil)))) ?_;intro nbk;have hnews:(qL k key dm (.slice (some ⟨nb,0,none⟩) X.length Lm)++bs (Ed D u)).length=67:=by rw[Aq,Ee hk,Aa,hdl]
  refine DL.append tt (xs:=SH) (ex:=lex) (m:=1) (news:=qL k key dm (.slice (some ⟨nb,0,none⟩) X.length Lm)++bs (Ed D u)) J J J ND J (.there (.there (.there (.there (.there (.there (.there (.there (.there (.there .here)))))))))) (DO.slice tt J .here (by rw[BL,AX (by rw[hnews];decide)]) hnews (N9 J)) hll hle hnl I I (fun _ _=>Du (.cons (.there (.there (.there (.there .here)))) (.cons (.there (.there (.there (.there (.there .here))))) (.cons (.there (.there (.there (.there (.there (.there (.there .here))))))) .nil)))) ?_;intro lb' JO lex' g1 g2;refine W ?_;refine QL ?_;refine DL.Br (cs':=oL M ds (u+1) kb (.slice (some ⟨lb',0,none⟩) (n+1) JO)) tt J J J J J (.there (.there (.there (.there .here)))) (by simpa using Ll hM _) J J (by rw[Kv hM];omega) D9 ?_;refine W ?_;refine DL.LJ tt J J J J J (.there (.there (.there (.there (.there (.there .here)))))) (by rw[Aa,hdl]) ?_;refine DL.Bj tt J J J J (.there (.there (.there (.there (.there (.there (.there (.there .here)))))))) (by rw[Aa,hdl]) (BV _) (by rw[Aa,Bn]) D9 ?_;refine W ?_;exact BD ((.slice (some ⟨nb,0,none⟩) X.length Lm),[A7 nb (bs X++nex) 5],(.slice (some ⟨lb',0,none⟩) (n+1) JO),A7 lb' (SH++(qL k key dm (.slice (some ⟨nb,0,none⟩) X.length Lm)++bs (Ed D u))++lex') 175) ⟨.inr ⟨nb,Lm,nex,rfl,n1,rfl⟩,.inr ⟨lb',JO,lex',rfl,g2,rfl,by rw[Aq,hll,hnews];omega,by simpa using g1⟩⟩ (DC (RV.D8 tt J J J (In.mem (.there (.there (.there (.there (.there (.there (.there (.there .here))))))))) (by rw[Aa,hdl]))) pKd
end
end Go.Proofs.YtfekkjbdcdnhlaaGreatDoor.Sep
