/- Lemmas for TopScrubs. No condition but those that each states. -/
import Derived.Laws.IdiomRangeMap
import Derived.Test.YtfekkjbdcdnhlaaGreatDoorMbh
set_option linter.all false
set_option maxHeartbeats 8000000
set_option maxRecDepth 100000
namespace Go.Proofs.YtfekkjbdcdnhlaaGreatDoor.Sep
noncomputable section
section
variable{P:Program} {T:Tr} {n:Nat} {K:Option A2} {Q:EX} {fr:Fr} {S:A2} {rest:List FO}
variable{i ty d:Nat} {pos:String} {af:Array Edge} {gd g:Option (Nat×Bool)}
variable{x:Operand}{v:Value}
theorem xl(hT:Dp P T=true){t b off bt sz:Nat}{fz:Nat×Nat}{cs:List Value}{kd:Kd}(hg:lg fr g=some true)(hn:Nat.blt d n=true)(ht:T.get t=some ⟨kd,sz⟩)(ha:kd.agg=false)
 (hx:Eg fr x=some (.pointer (some ⟨b,off,none⟩))) (hm:(b,Obj.cells cs.toArray bt fz)∈(K.getD S).flatten) (hv:E1 cs off=some v) (h:DL P n K Q rest ((d,v)::fr) S):DL P n K Q (⟨i,⟨some d,.load t x,ty,pos,af,gd⟩,g⟩::rest) fr S:=by
 refine .Ia (.inl J) hg J (by simpa using hn) (fun A R a w hk hs=> ?_) h;have hb:w.heap[b]? =some (.cells cs.toArray bt fz):=hs.has (b,.cells cs.toArray bt fz) (by rw[A6];exact A3 _ hm);have hc:=MF hb off;rw[D5]at hv;rw[hv]at hc;simp[execOp,hk.eval hx,Instr.loadAt,Instr.sureAddr,loadVar,Jk hT ht,ha,hc]
end
variable{u:UInt8}{k:Nat}
theorem f262(hu:u.toNat=48+k)(h:k<10):Fn Tryz.prog 262 [.string ⟨#[u]⟩,.int .i64 10,.int .i64 32] [] (E4 (.tuple #[.int .u64 (k:Int),.nilIface]) []):=by
 have hne:(((⟨#[u]⟩:ByteArray)).toList==((⟨#[]⟩:ByteArray)).toList)=false:=by rw[A5,A5];rfl
 refine Fn.of Tryz.func262 J J [_,_] J ?_;refine W ?_;rw[hne];refine W ?_;refine DL.shl 32 J J J J Ba (by simp[IntKind.bits]) ?_;rw[show(IntKind.u64.wrap (1*2^32):Int)=4294967296 from rfl];refine W ?_;refine .eff _ _ (.inr J) J (fun e he=>by cases he;decide) (Px tt J J J J J) (fun _ _ h=>h.elim) (fun _ _ _=>D9) ?_;rintro v S' ⟨b,cap,ex,rfl,g1,g2,rfl⟩;simp only[Dc];refine W ?_;refine CW.loop (ι:=Nat) (fun i=>1-i) (fun i=>i<=1) (fun i=>[(99,.slice (some ⟨b,0,none⟩) 1 cap),(100,.int .i64 1),(101,.int .i64 (i:Int)),(1,.int .i64 10),(7,.nilIface),(8,.bool false),(10,.int .u64 1844674407370955162),(11,.int .u64 4294967295),(13,.int .u64 ((k*i:Nat):Int)),(12,.bool false)]) (fun i=>[[(b,Obj.cells (bs (NC ⟨#[u]⟩)++ex).toArray 5 (cap,cap+1))]]) 0 I sF pK ?_;intro i hi;have hcase:i=0\/i=1:=I;rcases hcase with rfl|rfl
 ·simp only[Nat.mul_zero];refine W ?_;refine DL.C3 tt 0 J J J J J J Ba ?_;refine xl (bt:=5) (fz:=(cap,cap+1)) (cs:=bs (NC ⟨#[u]⟩)++ex) (v:=.int .u8 (u.toNat:Int)) tt J J J J J DI J ?_;have hw:∀j:Nat,j<10->IntKind.u8.wrap (j:Int)=(j:Int):=Ba;have hw8:IntKind.u8.wrap (((48+k:Nat):Int)-48)=(k:Int):=by rw[show(((48+k:Nat):Int)-48)=(k:Int) by omega];exact hw k h
  rw[hu];refine W ?_;rw[hw8,show(10:Int)%256=10 from rfl];skip
  rw[show((0:Nat):Int)*10+(k:Int)=((k*1:Nat):Int) by omega];exact⟨1,_,I,I,sF,pK⟩
 ·simp only[Dk];exact W trivial
def li(r m since:Nat)(seen:List Nat)(clk:Nat):List CH:=[(r,.mapIter (some m) since seen.toArray clk)]
def s7(r:Nat)(s:ByteArray)(pos:Nat):List CH:=[(r,.stringIter s pos)]
section
variable{P:Program} {T:Tr} {n:Nat} {fr:Fr} {S U:A2}
def itO:Obj->Bool
 | .mapIter .. =>true
 | .stringIter .. =>true
 | .map .. =>true
 |_=>false
variable{w:World}{r:Nat}{o':Obj}
theorem Wp{o:Obj}(h:w.heap[r]? =some o)(hi:itO o=true):(setObj r o').run P w=.ok () {w with heap:=w.heap.setIfInBounds r o'}:=by simp only[setObj,Sem.run,h];cases o<;>first|rfl|cases hi
theorem KO{o:Obj}(h:w.heap[r]? =some o)(hi:itO o=true):(getObj r).run P w=.ok o w:=by simp only[getObj,Sem.run,h];cases o<;>first|rfl|cases hi
variable{b:Nat}
theorem Ds.aBO{A:Om}{o:Obj}{S:A2}(h:Ds A w ([(b,o)]::S)):Ds A {w with heap:=w.heap.setIfInBounds b o'} ([(b,o')]::S):=by have hb:w.heap[b]? =some o:=h.has (b,o) DI;have hlt:=(A1.1 hb).1;refine Ds.put (o':=o') h J J J DI (by simp[hlt]) (fun k hk hne=> ?_);show(w.heap.setIfInBounds b _)[k]? =_;rw[CN (Ne.symm hne)]
theorem run_next_any(w:World)(ty:TypeId)(r bm since c0:Nat)(seen:Array Nat)(es:Array MapEntry)(clock:Nat)(hr:w.heap[r]? =some (.mapIter (some bm) since seen c0))(hb:w.heap[bm]? =some (.map es clock))(hold:∀x∈es.toList,x.born<since)(hsc:since<=c0):
 ((leftOf es seen).size=0/\(Instr.next (.pointer (some ⟨r,0,none⟩)) false ty).run P w=.ok (.tuple #[.bool false]) w)\/
 ∃e∈(leftOf es seen).toList,∃k:Nat,(Instr.next (.pointer (some ⟨r,0,none⟩)) false ty).run P w=.ok (.tuple #[.bool true,e.key,e.val]) {w with drawn:=k,heap:=w.heap.setIfInBounds r (.mapIter (some bm) since (seen.push e.born) clock)}:=by
 simp only[Instr.next,Ag,KO hr J,KO hb J,Ad,next_test_false seen es since c0 hold hsc,Ce,Cc];unfold leftOf;have hmem:∀x∈(Array.filter (fun e=> !seen.contains e.born) es).toList,x.born<since:=fun x hx=>hold x (by simp at hx⊢;exact hx.1)
 generalize Array.filter (fun e=> !seen.contains e.born) es=L at hmem⊢;have e1:L.filter (fun x=>decide (x.born<since))=L:=Array.filter_eq_self.2 (fun x hx=>by simpa using hmem x (by simpa using hx));have e2:L.filter (fun x=>decide (x.born≥since))= #[]:=by rw[Array.filter_eq_empty_iff];intro x hx;have:=hmem x (by simpa using hx);simp;omega
 simp only[e1,e2,Array.append_empty];by_cases h0:L.size=0
 ·left;have:L= #[]:=Array.eq_empty_of_size_eq_zero h0;subst this;refine⟨rfl,?_⟩;simp[choose,Sem.run,Question.forced]
 ·right;have hne:L.isEmpty=false:=by simp[Array.isEmpty,h0]
  simp only[hne,Ce,Cc,Array.empty_append,Array.size_map];have hch:∃(j k:Nat),j<L.size/\(choose (Question.mapNext L.size)).run P w=.ok j {w with drawn:=k}:=by
   by_cases hf:L.size<=1
   ·exact⟨0,w.drawn,I,by simp[choose,Sem.run,Question.forced,hf]⟩
   ·exact⟨_,w.drawn+1,Nat.mod_lt _ I,by simp only[choose,Sem.run,Question.forced,decide_eq_true_eq,hf,Cc,Question.cut];rfl⟩
  obtain⟨j,k,hj,hrun⟩:=hch;have hr':({w with drawn:=k}:World).heap[r]? =some (.mapIter (some bm) since seen c0):=hr;refine⟨L[j],by simp,k,?_⟩;simp only[hrun,Array.getElem?_map,B6 hj,CZ,Ag,Wp hr' J,Ad];rfl
variable{α:Type} [DecidableEq α] {enc:α->Value} {kt:TypeId}
variable{o:Oper}{t e sz mb clk:Nat}{x:Operand}{L:List (α×Value×Nat)}
theorem YU(hT:Dp P T=true)(ho:o.op=.range t x)(ht:T.get t=some ⟨.mp kt e,sz⟩)(hx:Eg fr x=some (.map (some mb)))(hin:In (DX enc mb L clk) S):
 Eff P n o fr S (fun v S'=>∃r,v=.pointer (some ⟨r,0,none⟩)/\S'=li r mb clk [] clk::S) (fun _ _=>False):=by
 intro A R a w hk hs;have hb:=Qn hs hin.mem;have hval:(execOp a.eval o).run P w=.ok (.value (.pointer (some ⟨w.heap.size,0,none⟩))) (w.alloc (.mapIter (some mb) clk #[] clk)):=by simp[execOp,ho,hk.eval hx,run_range_map w t kt e mb _ clk (NL hT ht J) hb]
 rw[Fq,hval];exact⟨li w.heap.size mb clk [] clk::S,hs.new (.mapIter (some mb) clk #[] clk),w.heap.size,rfl,rfl⟩
variable{since:Nat}{seen:List Nat}
theorem dL{c0:Nat}(ho:o.op=.next x false)(hx:Eg fr x=some (.pointer (some ⟨r,0,none⟩)))(hp:Gg (li r mb since seen c0) S U)(hin:In (DX enc mb L clk) U)
 (hold:∀p∈L,p.2.2<since) (hsc:since<=c0):
 Eff P n o fr S (fun v S'=>(v=.tuple #[.bool false]/\(∀p∈L,p.2.2∈seen)/\S'=li r mb since seen c0::U)\/∃p∈L,p.2.2∉seen/\v=.tuple #[.bool true,enc p.1,p.2.1]/\S'=li r mb since (seen++[p.2.2]) clk::U) (fun _ _=>False):=by
 intro A R a w hk hs;have hs1:Ds A w (([(r,.mapIter (some mb) since seen.toArray c0)]::U)++R):=hs.perm (hp.perm.append_right R);have hr:w.heap[r]? =some (.mapIter (some mb) since seen.toArray c0):=hs1.has (r,_) DI;have hb:w.heap[mb]? =some (.map (GZ enc L).toArray clk):=Qn (S:=U) (R:=R) (Ds.drop hs1) hin.mem;have hold':∀y∈(GZ enc L).toArray.toList,y.born<since:=by intro y hy;simp only[GZ,A8]at hy;obtain⟨p,hp,rfl⟩:=hy;exact hold p hp
 have hev:(execOp a.eval o).run P w=((Instr.next (.pointer (some ⟨r,0,none⟩)) false o.type).run P w).andThen fun v w'=>.ok (.value v) w':=by simp only[execOp,ho,hk.eval hx,Ag];rfl
 rw[Fq,hev];rcases run_next_any (P:=P) w o.type r mb since c0 seen.toArray _ clk hr hb hold' hsc with⟨h0,hrun⟩|⟨e,he,k,hrun⟩
 ·rw[hrun];refine⟨li r mb since seen c0::U,hs1,.inl ⟨rfl,fun p hp=> ?_,rfl⟩⟩;unfold leftOf at h0;have h1:Array.filter (fun e=> !seen.toArray.contains e.born) (GZ enc L).toArray= #[]:=Array.eq_empty_of_size_eq_zero h0;rw[Array.filter_eq_empty_iff]at h1;have:=h1 {key:=enc p.1,val:=p.2.1,born:=p.2.2} (by simp[GZ];exact⟨p.1,p.2.1,p.2.2,hp,rfl,rfl,rfl⟩);simpa using this
 ·rw[hrun];simp only[leftOf,Array.toList_filter,Bh]at he;obtain⟨he1,he2⟩:=he;simp only[GZ,A8]at he1;obtain⟨p,hp,rfl⟩:=he1;refine⟨li r mb since (seen++[p.2.2]) clk::U,?_,.inr ⟨p,hp,by simpa using he2,rfl,rfl⟩⟩;have h3:=Ds.aBO (o':=.mapIter (some mb) since (seen.toArray.push p.2.2) clk) (Ds.drawn hs1 k);have e3:seen.toArray.push p.2.2=(seen++[p.2.2]).toArray:=by simp
  rw[e3]at h3;simp only[li];rw[<-e3];rw[<-e3]at h3;exact h3
theorem YV{p:α×Value×Nat}(ho:o.op=.entry x)(hx:Eg fr x=some (.pointer (some ⟨r,0,none⟩)))(hi:In (li r mb since (seen++[p.2.2]) clk) S)(hin:In (DX enc mb L clk) S)(hp:p∈L)(hn:(L.map (·.2.2)).Nodup):
 Eff P n o fr S (fun v S'=>v=.tuple #[enc p.1,p.2.1]/\S'=S) (fun _ _=>False):=by
 intro A R a w hk hs;have hr:w.heap[r]? =some (.mapIter (some mb) since (seen++[p.2.2]).toArray clk):=hs.has (r,_) (List.mem_flatten.2 ⟨_,A3 _ hi.mem,by simp[li]⟩);have hb:w.heap[mb]? =some (.map (GZ enc L).toArray clk):=Qn hs hin.mem;have hbk:(seen++[p.2.2]).toArray.back? =some p.2.2:=by simp
 have hf:(GZ enc L).toArray.find? (·.born==p.2.2)=some {key:=enc p.1,val:=p.2.1,born:=p.2.2}:=by rw[<-Array.find?_toList];exact find_born {key:=enc p.1,val:=p.2.1,born:=p.2.2} (GZ enc L) (by simpa[GZ,Function.comp_def]using hn) (A8.2 ⟨p,hp,rfl⟩)
 have hval:(execOp a.eval o).run P w=.ok (.value (.tuple #[enc p.1,p.2.1])) w:=by simp only[execOp,ho,hk.eval hx,Ag,Instr.entry,KO hr J,KO hb J,Ad,hbk,bne_self_eq_false,Ce,Cc,hf];rfl
 rw[Fq,hval];exact⟨_,hs,rfl,rfl⟩
variable{s:ByteArray}
theorem R9(hT:Dp P T=true)(ho:o.op=.range t x)(ht:T.get t=some ⟨.str,sz⟩)(hx:Eg fr x=some (.string s)):
 Eff P n o fr S (fun v S'=>∃r,v=.pointer (some ⟨r,0,none⟩)/\S'=s7 r s 0::S) (fun _ _=>False):=by
 intro A R a w hk hs;have hval:(execOp a.eval o).run P w=.ok (.value (.pointer (some ⟨w.heap.size,0,none⟩))) (w.alloc (.stringIter s 0)):=by simp[execOp,ho,hk.eval hx,Instr.range,Ac (Hh hT ht J)]
 rw[Fq,hval];exact⟨s7 w.heap.size s 0::S,hs.new (.stringIter s 0),w.heap.size,rfl,rfl⟩
theorem T8{r pos c wd:Nat}(ho:o.op=.next x true)(hx:Eg fr x=some (.pointer (some ⟨r,0,none⟩)))(hp:Gg (s7 r s pos) S U)(hlt:pos<s.size)(hd:Utf8.decode s pos=(c,wd)):
 Eff P n o fr S (fun v S'=>v=.tuple #[.bool true,.int .i64 (pos:Int),.int .i32 (c:Int)]/\S'=s7 r s (pos+wd)::U) (fun _ _=>False):=by
 intro A R a w hk hs;have hs1:Ds A w (([(r,.stringIter s pos)]::U)++R):=hs.perm (hp.perm.append_right R);have hr:w.heap[r]? =some (.stringIter s pos):=hs1.has (r,_) DI;have hval:(execOp a.eval o).run P w=.ok (.value (.tuple #[.bool true,.int .i64 (pos:Int),.int .i32 (c:Int)])) {w with heap:=w.heap.setIfInBounds r (.stringIter s (pos+wd))}:=by simp only[execOp,ho,hk.eval hx,Ag,Instr.next,KO hr J,Ad,BE hlt,hd,Wp hr J];rfl
 rw[Fq,hval];exact⟨_,Ds.aBO hs1,rfl,rfl⟩
theorem SA{pos:Nat}(ho:o.op=.next x true)(hx:Eg fr x=some (.pointer (some ⟨r,0,none⟩)))(hp:Gg (s7 r s pos) S U)(hlt:¬pos<s.size):
 Eff P n o fr S (fun v S'=>v=.tuple #[.bool false]/\S'=s7 r s pos::U) (fun _ _=>False):=by
 intro A R a w hk hs;have hs1:Ds A w (([(r,.stringIter s pos)]::U)++R):=hs.perm (hp.perm.append_right R);have hr:w.heap[r]? =some (.stringIter s pos):=hs1.has (r,_) DI;have hval:(execOp a.eval o).run P w=.ok (.value (.tuple #[.bool false])) w:=by simp only[execOp,ho,hk.eval hx,Ag,Instr.next,KO hr J,Ad,Ah hlt];rfl
 rw[Fq,hval];exact⟨_,hs1,rfl,rfl⟩
end
theorem aBP(w:World):(Op.equal 198 .nilIface .nilIface).run Tryz.prog w=.ok true w:=by show(Op.equalIn (9999+1) 198 .nilIface .nilIface).run Tryz.prog w=.ok true w;rw[Op.equalIn];simp only[Ag,Ac Tryz.underlying198,Ad];rfl
section
variable{n:Nat} {K:Option A2} {Q:EX} {fr:Fr} {S:A2} {rest:List FO}
variable{i ty d:Nat} {pos:String} {af:Array Edge} {gd g:Option (Nat×Bool)}
theorem YW(hg:lg fr g=some true)(hn:Nat.blt d n=true)(hx:Eg fr (.tmp k)=some .nilIface)(h:DL Tryz.prog n K Q rest ((d,.bool false)::fr) S):
 DL Tryz.prog n K Q (⟨i,⟨some d,.binOp .neq 198 (.tmp k) (.const .nilIface) 198,ty,pos,af,gd⟩,g⟩::rest) fr S:=by
 refine DL.val J hg J hn (fun A R a w hk hs=> ?_) h;have h2:a.eval (.const .nilIface)=.nilIface:=rfl;simp only[execOp,hk.eval hx,h2];have e1:eqGuard .neq 198 (.tmp k) (.const .nilIface) .nilIface .nilIface=pure ():=rfl;have e2:binOp .neq 198 .nilIface .nilIface=(do pure (.bool (!(<-Op.equal 198 .nilIface .nilIface)))):=rfl;simp only[e1,e2,Ag,BA,Ad,aBP];rfl
end
theorem f174(hu:u.toNat=48+k)(h:k<10):Fn Tryz.prog 174 [.string ⟨#[u]⟩,.int .i64 10,.int .i64 32] [] (E4 (.tuple #[.int .i64 (k:Int),.nilIface]) []):=by
 have hne:(((⟨#[u]⟩:ByteArray)).toList==((⟨#[]⟩:ByteArray)).toList)=false:=by rw[A5,A5];rfl
 refine Fn.of Tryz.func174 J J [_,_] J ?_;refine W ?_;rw[hne];refine W ?_;refine DL.val (v:=.int .u8 (u.toNat:Int)) J J J J (fun A R a w hk hs=> ?_) ?_
 ·have e2:a.eval (.tmp 15)=_:=hk.eval J;have e3:a.eval (.const (.int .i64 0))=.int .i64 0:=rfl;simp only[execOp,e2,e3,Ag];rw[run_index_string _ _ _ _ _ Tryz.underlying9];simp;rfl
 rw[hu];refine W ?_;refine DL.BS J J J .nil (f262 hu h) kR .nil kO ?_;refine W ?_;refine YW J J J ?_;refine W ?_;refine DL.shl 31 J J J J Ba (by simp[IntKind.bits]) ?_;rw[show(IntKind.u64.wrap (1*2^31):Int)=2147483648 from rfl];exact W trivial
theorem f107(hu:u.toNat=48+k)(h:k<10):Fn Tryz.prog 107 [.string ⟨#[u]⟩,.int .i64 10,.int .i64 32] [] (E4 (.tuple #[.int .i64 (k:Int),.nilIface]) []):=by refine Fn.of Tryz.func107 J J [_,_] J ?_;refine W ?_;refine DL.BS J J J .nil (f174 hu h) kR .nil kO ?_;refine W ?_;refine YW J J J ?_;exact W trivial
theorem f58(hu:u.toNat=48+k)(h:k<10):Fn Tryz.prog 58 [.string ⟨#[u]⟩] [] (E4 (.int .i64 (k:Int)) []):=by refine Fn.of Tryz.func58 J J [_] J ?_;refine W ?_;refine DL.BS J J J .nil (f107 hu h) kR .nil kO ?_;refine W ?_;refine YW J J J ?_;exact W trivial
theorem f178(h:k<10):Fn Tryz.prog 178 [.int .i64 (k:Int),.int .i64 10] [] (E4 (.string ⟨#[UInt8.ofNat (48+k)]⟩) []):=by refine Fn.of Tryz.func178 J J [_] J ?_;refine W ?_;refine DL.BS J J J .nil (f267 h) kR .nil kO ?_;exact W trivial
theorem f112(h:k<10):Fn Tryz.prog 112 [.int .i64 (k:Int),.int .i64 10] [] (E4 (.string ⟨#[UInt8.ofNat (48+k)]⟩) []):=by refine Fn.of Tryz.func112 J J [_] J ?_;refine W ?_;refine DL.BS J J J .nil (f178 h) kR .nil kO ?_;exact W trivial
section
variable{P:Program} {T:Tr} {n:Nat} {K:Option A2} {Q:EX} {fr:Fr} {S K0:A2} {rest:List FO}
variable{i ty:Nat} {pos:String} {af:Array Edge} {gd g:Option (Nat×Bool)} {d:Nat}
variable{α:Type} [DecidableEq α] {enc:α->Value} {kt:TypeId}
variable{t e sz b clk JY:Nat}{m x y:Operand}{L L':List (α×Value×Nat)}{v kv:Value}{a:α}{S':A2}
theorem DL.Ii(H:NQ P kt enc)(hT:Dp P T=true)(hg:lg fr g=some true)(ht:T.get t=some ⟨.mp kt e,sz⟩)(hm:Eg fr m=some (.map (some b)))(hx:Eg fr x=some kv)(hkv:kv=enc a)(hy:Eg fr y=some v)
 (e1:F8 L a v clk=L') (e2:J8 L a clk=JY) (hu:SL (DX enc b L clk) (DX enc b L' JY) S S') (hK:Ge K S') (h:DL P n K Q rest fr S'):DL P n K Q (⟨i,⟨none,.insert t m x y,ty,pos,af,gd⟩,g⟩::rest) fr S:=by
 subst e1 e2;exact DL.insert H hT hg ht hm hx hkv hy hu hK h
theorem DL.qM(H:NQ P kt enc)(hT:Dp P T=true)(hg:lg fr g=some true)(ht:T.get t=some ⟨.mp kt e,sz⟩)(hm:Eg fr m=some (.map (some b)))(hx:Eg fr x=some kv)(hkv:kv=enc a)(hy:Eg fr y=some v)
 (e1:F8 L a v clk=L') (e2:J8 L a clk=JY) (hu:SL (DX enc b L clk) (DX enc b L' JY) S S') (hK:Ge K S') (h:DL P n K Q rest fr S'):DL P n K Q (⟨i,⟨none,.mapUpdate t m x y,ty,pos,af,gd⟩,g⟩::rest) fr S:=by
 subst e1 e2;exact DL.Ju H hT hg ht hm hx hkv hy hu hK h
end
abbrev du(w p:ByteArray):Value:=.agg #[.string w,.string p]
def Wq:List (Int×ByteArray×ByteArray×Nat):=[
 (1,⟨#[110,111,112]⟩,⟨#[]⟩,0),(2,⟨#[115,101,116]⟩,⟨#[100,105]⟩,1),(3,⟨#[109,111,118]⟩,⟨#[100,97]⟩,2),(11,⟨#[108,111,97,100]⟩,⟨#[100,97,105]⟩,3),
 (12,⟨#[115,116,111,114,101]⟩,⟨#[97,98,105]⟩,4),(13,⟨#[106,117,109,112]⟩,⟨#[105]⟩,5),(14,⟨#[98,114,97,110,99,104]⟩,⟨#[97,105]⟩,6),(15,⟨#[101,110,116,114,111,112,121]⟩,⟨#[100]⟩,7),
 (16,⟨#[115,101,114,118,105,99,101]⟩,⟨#[105]⟩,8),(17,⟨#[115,116,111,112]⟩,⟨#[]⟩,9),(4,⟨#[97,100,100]⟩,⟨#[100,97,98]⟩,10),(5,⟨#[115,117,98]⟩,⟨#[100,97,98]⟩,11),(6,⟨#[120,111,114]⟩,⟨#[100,97,98]⟩,12),
 (7,⟨#[97,110,100]⟩,⟨#[100,97,98]⟩,13),(8,⟨#[109,117,108]⟩,⟨#[100,97,98]⟩,14),(9,⟨#[115,104,108]⟩,⟨#[100,97,98]⟩,15),(10,⟨#[115,104,114]⟩,⟨#[100,97,98]⟩,16)]
def LR(k:Nat):List (Int×Value×Nat):=(Wq.take k).map fun p=>(p.1,du p.2.1 p.2.2.1,p.2.2.2)
abbrev sumW:List Value:=[.string ⟨#[97,100,100]⟩,.string ⟨#[115,117,98]⟩,.string ⟨#[120,111,114]⟩,.string ⟨#[97,110,100]⟩,.string ⟨#[109,117,108]⟩,.string ⟨#[115,104,108]⟩,.string ⟨#[115,104,114]⟩]
def xo(i:Nat):ByteArray:=match Wq[10+i]? with
 |some p=>p.2.1
 |none=>⟨#[]⟩
theorem qO:∀i,i<7->E1 sumW i=some (.string (xo i)):=by intro i h;have:i=0\/i=1\/i=2\/i=3\/i=4\/i=5\/i=6:=I;rcases this with rfl|rfl|rfl|rfl|rfl|rfl|rfl<;>rfl
theorem qP:∀i,i<7->F8 (LR (10+i)) (4+(i:Int)) (du (xo i) ⟨#[100,97,98]⟩) (10+i)=LR (10+(i+1))/\J8 (LR (10+i)) (4+(i:Int)) (10+i)=10+(i+1):=by intro i h;have:i=0\/i=1\/i=2\/i=3\/i=4\/i=5\/i=6:=I;rcases this with rfl|rfl|rfl|rfl|rfl|rfl|rfl<;>exact⟨rfl,rfl⟩
theorem f35:Fn Tryz.prog 35 [] [] (Dv (ι:=Nat) (fun _=>True) (fun b=>.map (some b)) (fun b=>[DX (Value.int .i64) b (LR 17) 17])):=by
 refine Fn.of Tryz.func35 J J [_] J ?_;refine W ?_;refine DL.makeMap (enc:=Value.int .i64) J J ?_;intro mb;refine W ?_;refine DL.Ii (L':=LR 1) (JY:=1) (IA tt (kt:=114) J) tt J J J J J J J J uP kO ?_;refine W ?_;refine DL.Ii (L':=LR 2) (JY:=2) (IA tt (kt:=114) J) tt J J J J J J J J uP kO ?_;refine W ?_;refine DL.Ii (L':=LR 3) (JY:=3) (IA tt (kt:=114) J) tt J J J J J J J J uP kO ?_;refine W ?_;refine DL.Ii (L':=LR 4) (JY:=4) (IA tt (kt:=114) J) tt J J J J J J J J uP kO ?_;refine W ?_;refine DL.Ii (L':=LR 5) (JY:=5) (IA tt (kt:=114) J) tt J J J J J J J J uP kO ?_;refine W ?_;refine DL.Ii (L':=LR 6) (JY:=6) (IA tt (kt:=114) J) tt J J J J J J J J uP kO ?_;refine W ?_;refine DL.Ii (L':=LR 7) (JY:=7) (IA tt (kt:=114) J) tt J J J J J J J J uP kO ?_;refine W ?_;refine DL.Ii (L':=LR 8) (JY:=8) (IA tt (kt:=114) J) tt J J J J J J J J uP kO ?_;refine W ?_;refine DL.Ii (L':=LR 9) (JY:=9) (IA tt (kt:=114) J) tt J J J J J J J J uP kO ?_;refine W ?_;refine DL.Ii (L':=LR (10+0)) (JY:=10+0) (IA tt (kt:=114) J) tt J J J J J J J J uP kO ?_
 (refine W ?_;intro b;refine W ?_)
 refine CW.loop (ι:=Nat) (fun i=>7-i) (fun i=>i<=7) (fun i=>[(1,.map (some mb)),(16,.slice (some ⟨b,0,none⟩) 7 7),(17,.int .i64 7),(18,.int .i64 (i:Int))]) (fun i=>[A7 b sumW 9,DX (Value.int .i64) mb (LR (10+i)) (10+i)]) 0 I sF pK ?_;intro i hi;refine W ?_;by_cases hlt:i<7
 ·refine CW.Gp J I ?_;refine W ?_;refine DL.C3 tt i J J J J J J I ?_;refine DL.ld1 (v:=.string (xo i)) tt J J J J J iN (by rw[BM,Dk];exact qO i hlt) ?_;refine W ?_;obtain⟨s1,s2⟩:=qP i hlt;refine DL.qM (a:=4+(i:Int)) (L':=LR (10+(i+1))) (JY:=10+(i+1)) (IA tt (kt:=114) J) tt J J J J J J s1 s2 uP kO ?_;refine W ?_;exact⟨i+1,_,I,I,sF,pK⟩
 ·obtain rfl:i=7:=I;refine CW.GM J I ?_;refine W ?_;exact BD mb trivial (DC (RV.tmp J)) pK
section
variable{n:Nat} {K:Option A2} {Q:EX} {fr:Fr} {S:A2} {rest:List FO}
variable{i ty d:Nat} {pos:String} {af:Array Edge} {gd g:Option (Nat×Bool)}
variable{t:Nat}{x y:Operand}
theorem MG{P:Program}{rt:Nat}{a b c:ByteArray}(hg:lg fr g=some true)(hn:Nat.blt d n=true)(hx:Eg fr x=some (.string a))(hy:Eg fr y=some (.string b))(hl:a.size+b.size<=9223372036854775807)(hc:a++b=c)
 (h:DL P n K Q rest ((d,.string c)::fr) S):DL P n K Q (⟨i,⟨some d,.binOp .add t x y rt,ty,pos,af,gd⟩,g⟩::rest) fr S:=by
 subst hc;refine DL.val J hg J hn (fun A R a' w hk hs=> ?_) h;simp only[execOp,hk.eval hx,hk.eval hy];have e1:eqGuard .add t x y (.string a) (.string b)=pure ():=rfl;have e2:binOp .add t (.string a) (.string b)=Op.stringOp .add a b:=rfl;have e3:¬(((a.size+b.size:Nat):Int)>IntKind.i64.max):=by simp only[IntKind.max,IntKind.signed,IntKind.bits];simp;omega
 simp only[e1,e2,Op.stringOp,Ah e3,Ag,BA,Ad]
end
abbrev qQ(k:Nat):ByteArray:=⟨#[UInt8.ofNat (48+k)]⟩
def PcT(c d a bb m:Nat)(x y:ByteArray):Prop:=(c=100/\x++(⟨#[32,114]⟩++qQ d)=y)\/(c=97/\x++(⟨#[32,114]⟩++qQ a)=y)\/(c=98/\x++(⟨#[32,114]⟩++qQ bb)=y)\/(c=105/\x++(⟨#[32]⟩++qQ m)=y)
variable{op:Int}{wd pt:ByteArray}
theorem f61{d a bb m:Nat}{c:Nat->Nat}{tx:Nat->ByteArray}(hd:d<10)(ha:a<10)(hb:bb<10)(hm:m<10)(h0:tx 0=wd)(hdec:∀i,i<pt.size->Utf8.decode pt i=(c i,1))(hlen:∀i,i<pt.size->(tx i).size<=1000)(hst:∀i,i<pt.size->PcT (c i) d a bb m (tx i) (tx (i+1))):
 Fn Tryz.prog 61 [.agg (Hg op d a bb m).toArray,du wd pt] [] (E4 (.string (tx pt.size)) []):=by
 refine Fn.of Tryz.func61 J J [_] J ?_
 (refine W ?_;intro b;refine W ?_;intro b;refine W ?_)
 rename_i q2;refine .eff _ _ (.inr J) J (fun e he=>by cases he;decide) (R9 tt J J J) (fun _ _ h=>h.elim) (fun _ _ _=>D9) ?_;rintro v S' ⟨r,rfl,rfl⟩;simp only[Dc];refine W ?_;refine CW.loop (ι:=Nat) (fun i=>pt.size-i) (fun i=>i<=pt.size) (fun i=>[(2,Au q2),(12,Au r),(5,.string (tx i))]) (fun i=>[s7 r pt i,A7 q2 (Hg op d a bb m) 116]) 0 I (by rw[h0];(repeat(first|exact Eo.nil _|refine Eo.cons J ?_))) pK ?_;intro i hi;refine W ?_;by_cases hlt:i<pt.size
 ·refine .eff _ _ (.inr J) J (fun e he=>by cases he;decide) (T8 (r:=r) (pos:=i) (s:=pt) J J Es hlt (hdec i hlt)) (fun _ _ h=>h.elim) (fun _ _ _=>D9) ?_;rintro v S' ⟨rfl,rfl⟩;simp only[Dc];rcases hst i hlt with⟨hc,ht⟩|⟨hc,ht⟩|⟨hc,ht⟩|⟨hc,ht⟩
  ·rw[hc];refine W ?_;refine DL.BS J J J .nil (f111 hd) kR .nil kO ?_;refine MG J J J J (by show 2+1<=_;omega) J ?_;refine MG J J J J (by have:=hlen i hlt;show(tx i).size+3<=_;omega) ht ?_;refine W ?_;exact⟨i+1,_,I,I,sF,pK⟩
  ·rw[hc];refine W ?_;refine DL.BS J J J .nil (f111 ha) kR .nil kO ?_;refine MG J J J J (by show 2+1<=_;omega) J ?_;refine MG J J J J (by have:=hlen i hlt;show(tx i).size+3<=_;omega) ht ?_;refine W ?_;exact⟨i+1,_,I,I,sF,pK⟩
  ·rw[hc];refine W ?_;refine DL.BS J J J .nil (f111 hb) kR .nil kO ?_;refine MG J J J J (by show 2+1<=_;omega) J ?_;refine MG J J J J (by have:=hlen i hlt;show(tx i).size+3<=_;omega) ht ?_;refine W ?_;exact⟨i+1,_,I,I,sF,pK⟩
  ·rw[hc];refine W ?_;refine DL.BS J J J .nil (f112 hm) kR .nil kO ?_;refine MG J J J J (by show 1+1<=_;omega) J ?_;refine MG J J J J (by have:=hlen i hlt;show(tx i).size+2<=_;omega) ht ?_;refine W ?_;exact⟨i+1,_,I,I,sF,pK⟩
 ·obtain rfl:i=pt.size:=I;refine .eff _ _ (.inr J) J (fun e he=>by cases he;decide) (SA (r:=r) (pos:=pt.size) (s:=pt) J J Es hlt) (fun _ _ h=>h.elim) (fun _ _ _=>D9) ?_;rintro v S' ⟨rfl,rfl⟩;simp only[Dc];exact W trivial
theorem s8:∀q∈Wq,Wq[q.2.2.2]? =some q:=by intro q hq;simp only[Wq,Ab,Az,BX]at hq;rcases hq with rfl|rfl|rfl|rfl|rfl|rfl|rfl|rfl|rfl|rfl|rfl|rfl|rfl|rfl|rfl|rfl|rfl<;>rfl
theorem qR:∀p∈LR 17,p.2.2<17:=by intro p hp;simp only[LR,Wq,EF,List.take_nil,Ap,CP,Ab,Az,BX]at hp;rcases hp with rfl|rfl|rfl|rfl|rfl|rfl|rfl|rfl|rfl|rfl|rfl|rfl|rfl|rfl|rfl|rfl|rfl<;>dsimp only<;>omega
theorem lj:((LR 17).map (·.2.2)).Nodup:=by have e:(LR 17).map (·.2.2)=[0,1,2,3,4,5,6,7,8,9,10,11,12,13,14,15,16]:=rfl;rw[e];decide
theorem xp{p:Int×Value×Nat}(h:p∈LR 17):∃q∈Wq,p=(q.1,du q.2.1 q.2.2.1,q.2.2.2):=by simp only[LR,A8]at h;obtain⟨q,hq,rfl⟩:=h;exact⟨q,Dn hq,rfl⟩
def ln(seen:List Nat):Nat:=((LR 17).filter fun p=> !(seen.contains p.2.2)).length
variable{seen:List Nat}
theorem lq{p:Int×Value×Nat}(hp:p∈LR 17)(h:p.2.2∉seen):ln (seen++[p.2.2])<ln seen:=filter_lt _ _ (fun x hx=>by simp at hx⊢;exact hx.1) p (by simpa using h) DI _ hp
structure lr (s wd pt w0:ByteArray) (op:Int) (bn:Nat) (R:Nat->ByteArray) (AE:Nat->Nat) (x:Nat->ByteArray) (u:Nat->UInt8) (k c:Nat->Nat) (D A B M:Nat->Nat):Prop where
 cut:Pq s 32 pt.size R AE
 row:(op,wd,pt,bn)∈Wq
 wd0:E1 (PQ R AE pt.size) 0=some (.string w0)
 eq0:(wd.toList==w0.toList)=true
 ne:∀q∈Wq,q.2.2.2≠bn->(q.2.1.toList==w0.toList)=false
 wds:∀i,i<pt.size->E1 (PQ R AE pt.size) (1+i)=some (.string (x i))/\1<=(x i).size/\(x i).size<=1000/\(if((x i).extract 0 1).toList==(⟨#[114]⟩:ByteArray).toList then(x i).extract 1 (x i).size else x i)=⟨#[u i]⟩/\(u i).toNat=48+k i/\k i<10
 dec:∀i,i<pt.size->Utf8.decode pt i=(c i,1)
 st:∀i,i<pt.size->(c i=100/\D (i+1)=k i/\A (i+1)=A i/\B (i+1)=B i/\M (i+1)=M i)\/(c i=97/\D (i+1)=D i/\A (i+1)=k i/\B (i+1)=B i/\M (i+1)=M i)\/
  (c i=98/\D (i+1)=D i/\A (i+1)=A i/\B (i+1)=k i/\M (i+1)=M i)\/(c i=105/\D (i+1)=D i/\A (i+1)=A i/\B (i+1)=B i/\M (i+1)=k i)
 z:D 0=0/\A 0=0/\B 0=0/\M 0=0
variable{s:ByteArray}{mb:Nat}
theorem f36{w0:ByteArray}{bn:Nat}{R:Nat->ByteArray}{AE:Nat->Nat}{x:Nat->ByteArray}{u:Nat->UInt8}{k c D A B M:Nat->Nat}(h:lr s wd pt w0 op bn R AE x u k c D A B M)
 (hmay:Fn Tryz.prog 60 [.agg (Hg op (D pt.size) (A pt.size) (B pt.size) (M pt.size)).toArray,du wd pt] [] (E4 (.bool true) []))
 (htxt:Fn Tryz.prog 61 [.agg (Hg op (D pt.size) (A pt.size) (B pt.size) (M pt.size)).toArray,du wd pt] [] (E4 (.string s) [])):
 Fn Tryz.prog 36 [.string s,.map (some mb)] [DX (Value.int .i64) mb (LR 17) 17] (E4 (.tuple #[.agg (Hg op (D pt.size) (A pt.size) (B pt.size) (M pt.size)).toArray,.bool true]) [DX (Value.int .i64) mb (LR 17) 17]):=by
 obtain⟨hW,hs⟩:=h.cut.len;obtain⟨z1,z2,z3,z4⟩:=h.z;have hrow:=s8 _ h.row;have aBQ:(op,du wd pt,bn)∈LR 17:=A8.2 ⟨(op,wd,pt,bn),h.row,rfl⟩;refine Fn.of Tryz.func36 J J [_,_] J ?_
 (refine W ?_;intro b;refine W ?_)
 obtain⟨q4,hq4⟩:∃q4,q4=b:=⟨_,rfl⟩
 subst hq4;refine DL.B7 J J J .nil (f33 h.cut) kR (fun _=>aP) (fun _=>kO) ?_;rintro wb-
 refine W ?_;refine .eff _ _ (.inr J) J (fun e he=>by cases he;decide) (YU (enc:=Value.int .i64) (L:=LR 17) (clk:=17) tt J J J iN) (fun _ _ h=>h.elim) (fun _ _ _=>D9) ?_;rintro v S' ⟨r,rfl,rfl⟩;simp only[Dc];refine W ?_;refine CW.loop (ι:=List Nat) ln (fun seen=>bn∉seen) (fun seen=>[(0,.string s),(4,Au q4),(6,.slice (some ⟨wb,0,none⟩) (pt.size+1) (pt.size+1)),(16,Au r)]) (fun seen=>[li r mb 17 seen 17,DX (Value.int .i64) mb (LR 17) 17,A7 wb (PQ R AE pt.size) 9,A7 q4 (Hg 0 0 0 0 0) 116]) [] DI sF pK ?_;intro seen s9;refine W ?_;refine .eff _ _ (.inr J) J (fun e he=>by cases he;decide) (dL (enc:=Value.int .i64) (L:=LR 17) (clk:=17) J J Es iN qR (Ao _)) (fun _ _ h=>h.elim) (fun _ _ _=>D9) ?_;rintro v S' (⟨rfl,hall,rfl⟩|⟨p,hp,hnp,rfl,rfl⟩)
 ·exact absurd (hall _ aBQ) s9
 simp only[Dc];refine W ?_;refine .eff _ _ (.inr J) J (fun e he=>by cases he;decide) (YV (enc:=Value.int .i64) (L:=LR 17) (clk:=17) J J iN iN hp lj) (fun _ _ h=>h.elim) (fun _ _ _=>D9) ?_;rintro v S' ⟨rfl,rfl⟩;simp only[Dc];obtain⟨⟨o1,w1,p1,b1⟩,hq1,rfl⟩:=xp hp;have hat:=s8 _ hq1;have hlt:=lq hp hnp;dsimp only at hat hnp hlt⊢
 (refine W ?_;intro b;refine W ?_)
 obtain⟨q8,hq8⟩:∃q8,q8=b:=⟨_,rfl⟩
 subst hq8;refine DL.Bj tt J J J J uP lN aL lN kO ?_;refine W ?_;refine CW.dw [0,1,2,3,4,5,6,7,8,9,10,11,12,13,14] [A7 q8 [.string w1,.string p1] 165,A7 wb (PQ R AE pt.size) 9] mixed hz kR pK nD ?_;refine W ?_;refine DL.C3 tt 0 J J J J J J I ?_;refine DL.G8 (v:=.string w0) tt J J J J J iN h.wd0 ?_;refine W ?_;by_cases hbn:b1=bn
 ·subst hbn;rw[hrow]at hat
  cases hat
  rw[h.eq0]
  (refine W ?_;intro b;refine W ?_)
  obtain⟨q9,hq9⟩:∃q9,q9=b:=⟨_,rfl⟩
  subst hq9;refine DL.Bj tt J J J J uP lN aL lN kO ?_;have zz:A7 q9 (Hg op (D 0) (A 0) (B 0) (M 0)) 116=A7 q9 (Hg op 0 0 0 0) 116:=by rw[z1,z2,z3,z4];rfl
  refine W ?_;refine .eff _ _ (.inr J) J (fun e he=>by cases he;decide) (R9 tt J J J) (fun _ _ h=>h.elim) (fun _ _ _=>D9) ?_;rintro v S' ⟨r2,rfl,rfl⟩;simp only[Dc];refine W ?_;refine CW.loop (ι:=Nat) (fun i=>pt.size-i) (fun i=>i<=pt.size) (fun i=>[(0,.string s),(4,Au q4),(6,.slice (some ⟨wb,0,none⟩) (pt.size+1) (pt.size+1)),(8,Au q8),(9,Au q9),(41,Au r2)]) (fun i=>[s7 r2 pt i,A7 q9 (Hg op (D i) (A i) (B i) (M i)) 116,A7 q8 [.string wd,.string pt] 165,A7 wb (PQ R AE pt.size) 9,A7 q4 (Hg 0 0 0 0 0) 116,DX (Value.int .i64) mb (LR 17) 17]) 0 I sF (by simp only[zz];(repeat(first|with_reducible exact DV.nil|with_reducible exact Gg.here|with_reducible apply Gg.there|with_reducible apply DV.cons))) ?_;intro i hi;refine W ?_;by_cases hlt2:i<pt.size
  ·obtain⟨x1,x2,x3,x4,x5,x6⟩:=h.wds i hlt2;refine .eff _ _ (.inr J) J (fun e he=>by cases he;decide) (T8 (r:=r2) (pos:=i) (s:=pt) J J Es hlt2 (h.dec i hlt2)) (fun _ _ h=>h.elim) (fun _ _ _=>D9) ?_;rintro v S' ⟨rfl,rfl⟩;simp only[Dc];refine W ?_;rw[show(1:Int)+(i:Int)=((1+i:Nat):Int) by omega];refine DL.C3 tt (1+i) J J J J J J I ?_;refine DL.ld1 (v:=.string (x i)) tt J J J J J iN (by rw[BM,Dk];exact x1) ?_;refine DL.BS J J J .nil (f59 (a:=x i) (b:=⟨#[114]⟩) x2 x3) kR .nil kO ?_;rw[show(⟨#[114]⟩:ByteArray).size=1 from rfl,x4];refine DL.BS J J J .nil (f58 x5 x6) kR .nil kO ?_;rcases h.st i hlt2 with⟨hc,y1,y2,y3,y4⟩|⟨hc,y1,y2,y3,y4⟩|⟨hc,y1,y2,y3,y4⟩|⟨hc,y1,y2,y3,y4⟩
   ·rw[hc];refine W ?_;refine DL.Br (cs':=Hg op (D (i+1)) (A (i+1)) (B (i+1)) (M (i+1))) tt J J J J J uP (by rw[y1,y2,y3,y4];rfl) J J DI kO ?_;refine W ?_;exact⟨i+1,_,I,I,sF,pK⟩
   ·rw[hc];refine W ?_;refine DL.Br (cs':=Hg op (D (i+1)) (A (i+1)) (B (i+1)) (M (i+1))) tt J J J J J uP (by rw[y1,y2,y3,y4];rfl) J J DI kO ?_;refine W ?_;exact⟨i+1,_,I,I,sF,pK⟩
   ·rw[hc];refine W ?_;refine DL.Br (cs':=Hg op (D (i+1)) (A (i+1)) (B (i+1)) (M (i+1))) tt J J J J J uP (by rw[y1,y2,y3,y4];rfl) J J DI kO ?_;refine W ?_;exact⟨i+1,_,I,I,sF,pK⟩
   ·rw[hc];refine W ?_;refine DL.Br (cs':=Hg op (D (i+1)) (A (i+1)) (B (i+1)) (M (i+1))) tt J J J J J uP (by rw[y1,y2,y3,y4];rfl) J J DI kO ?_;refine W ?_;exact⟨i+1,_,I,I,sF,pK⟩
  ·obtain rfl:i=pt.size:=I;refine .eff _ _ (.inr J) J (fun e he=>by cases he;decide) (SA (r:=r2) (pos:=pt.size) (s:=pt) J J Es hlt2) (fun _ _ h=>h.elim) (fun _ _ _=>D9) ?_;rintro v S' ⟨rfl,rfl⟩;simp only[Dc];refine W ?_;refine CW.dw [0,1,2,3,4,5,6,8,7,9,10,11,12] [A7 q9 (Hg op (D pt.size) (A pt.size) (B pt.size) (M pt.size)) 116,A7 q8 [.string wd,.string pt] 165] mixed hz kR pK nD ?_;skip
   refine DL.GG tt J J J J J iN J ?_;refine DL.GG tt J J J J J iN J ?_;refine DL.GG tt J J J J J iN J ?_;refine DL.BS J J J .nil hmay kR .nil kO ?_;refine W ?_;refine DL.GG tt J J J J J iN J ?_;refine DL.GG tt J J J J J iN J ?_;refine W ?_;refine DL.BS J J J .nil htxt kR .nil kO ?_;refine W ?_;rw[beq_self_eq_true];refine DL.Bj tt J J J J uP lN aL lN kO ?_;exact W trivial
 ·rw[h.ne _ hq1 hbn];refine W ?_;exact⟨seen++[b1],_,hlt,(by simp only[Aj,AP];rintro(g|g);exact s9 g;exact hbn g.symm),sF,pK⟩
end
end Go.Proofs.YtfekkjbdcdnhlaaGreatDoor.Sep
