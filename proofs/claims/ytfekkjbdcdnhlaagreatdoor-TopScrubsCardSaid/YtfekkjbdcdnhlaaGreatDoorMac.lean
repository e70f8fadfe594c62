/- Lemmas for TopScrubs. No condition but those that each states. -/
import Derived.Laws.Slices
import Derived.Laws.Small
import Derived.Laws.Pointers
import Derived.Laws.MakeOwn
import Derived.Deep.WholeRow
import Derived.Laws.Tables
import Derived.Test.YtfekkjbdcdnhlaaGreatDoorMab
set_option linter.all false
set_option maxHeartbeats 8000000
set_option maxRecDepth 100000
namespace Go.Proofs.YtfekkjbdcdnhlaaGreatDoor.Sep
noncomputable section
inductive Kd
 |int (k:IntKind)|bool|str|Au|fn|LU
 |mp (k e:Nat)
 |sl (e CU:Nat)
 |arr (n e CU:Nat)
 |st (fs:List (Nat×Nat))
structure TI where
 kd:Kd
 size:Nat
inductive Tr
 |lf
 |nd (l:Tr) (k:Nat) (v:TI) (r:Tr)
def Tr.get:Tr->Nat->Option TI
 | .lf,_=>none
 | .nd l k v r,t=>bif Nat.beq t k then some v else bif Nat.blt t k then l.get t else r.get t
def Tr.all(p:Nat->TI->Bool):Tr->Bool
 | .lf=>true
 | .nd l k v r=>p k v&&l.all p&&r.all p
theorem Tr.QE{p:Nat->TI->Bool}:∀{T:Tr} {t:Nat} {i:TI},T.all p=true->T.get t=some i->p t i=true
 | .lf,t,i,_,h=>by simp[Tr.get]at h
 | .nd l k v r,t,i,ha,h=>by
  simp only[Tr.all,AI]at ha;simp only[Tr.get]at h;cases hq:Nat.beq t k with
  |true=>obtain rfl:=AK hq;rw[hq]at h;simp at h;subst h;exact ha.1.1
  |false=>
   rw[hq]at h;simp only[AO]at h;cases hb:Nat.blt t k with
   |true=>rw[hb]at h;exact Tr.QE ha.1.2 h
   |false=>rw[hb]at h;exact Tr.QE ha.2 h
def JI(P:Program)(t:Nat)(n:Nat):Bool:=match P.info? t with|some i=>i.size==n|none=>false
def Zu(P:Program)(t:Nat):Kd->Bool
 | .int k=>(match P.underlying t with|some (.int k')=>k==k'|_=>false)
 | .bool=>(match P.underlying t with|some .bool=>true|_=>false)
 | .str=>(match P.underlying t with|some .string=>true|_=>false)
 | .Au=>(match P.underlying t with|some (.pointer _)=>true|_=>false)
 | .fn=>(match P.underlying t with|some (.func ..)=>true|_=>false)
 | .LU=>(match P.underlying t with|some (.interface _)=>true|_=>false)
 | .mp k e=>(match P.underlying t with|some (.map k' e')=>k==k'&&e==e'|_=>false)
 | .sl e s=>(match P.underlying t with|some (.slice e')=>e==e'&&JI P e s|_=>false)
 | .arr n e s=>(match P.underlying t with|some (.array n' e')=>n==n'&&e==e'&&JI P e s|_=>false)
 | .st fs=>(match P.underlying t with|some (.struct fs')=>fs'.toList.map (·.offset)==fs.map (·.1)&&(fs'.toList.zip fs).all (fun p=>JI P p.1.type p.2.2)|_=>false)
def tiB(P:Program)(t:Nat)(i:TI):Bool:=JI P t i.size&&Zu P t i.kd
def Dp(P:Program)(T:Tr):Bool:=T.all (tiB P)
variable{P:Program}{t n:Nat}
theorem Gi(h:JI P t n=true):∃i,P.info? t=some i/\i.size=n:=by
 unfold JI at h;cases hi:P.info? t with
 |none=>rw[hi]at h;cases h
 |some i=>rw[hi]at h;exact⟨i,rfl,by simpa using h⟩
section
variable{P:Program} {T:Tr} (hT:Dp P T=true) {t:Nat} {i:TI} (h:T.get t=some i)
include hT h
theorem Ny:∃x,P.info? t=some x/\x.size=i.size:=by have:=Tr.QE hT h;unfold tiB at this;simp only[AI]at this;exact Gi this.1
theorem JJ:Zu P t i.kd=true:=by have:=Tr.QE hT h;unfold tiB at this;simp only[AI]at this;exact this.2
theorem nV:∃d,P.underlying t=some d:=by
 have:=JJ hT h;unfold Zu at this;cases hd:P.underlying t with
 |none=>rw[hd]at this;cases hk:i.kd<;>rw[hk]at this<;>simp at this
 |some d=>exact⟨d,rfl⟩
variable{k:IntKind}
theorem HF(hk:i.kd=.int k):P.underlying t=some (.int k):=by
 have:=JJ hT h;rw[hk]at this;simp only[Zu]at this;split at this
 ·rename_i k' hu;rw[hu];simpa using(by simpa using this:k=k').symm▸rfl
 ·cases this
theorem VX(hk:i.kd=.bool):P.underlying t=some .bool:=by
 have:=JJ hT h;rw[hk]at this;simp only[Zu]at this;split at this
 ·rename_i hu;exact hu
 ·cases this
theorem Hh(hk:i.kd=.str):P.underlying t=some .string:=by
 have:=JJ hT h;rw[hk]at this;simp only[Zu]at this;split at this
 ·rename_i hu;exact hu
 ·cases this
theorem UB(hk:i.kd=.Au):∃e,P.underlying t=some (.pointer e):=by
 have:=JJ hT h;rw[hk]at this;simp only[Zu]at this;split at this
 ·rename_i hu;exact⟨_,hu⟩
 ·cases this
theorem XF(hk:i.kd=.fn):∃a b c,P.underlying t=some (.func a b c):=by
 have:=JJ hT h;rw[hk]at this;simp only[Zu]at this;split at this
 ·rename_i hu;exact⟨_,_,_,hu⟩
 ·cases this
variable{e:Nat}
theorem NL{k:Nat}(hk:i.kd=.mp k e):P.underlying t=some (.map k e):=by
 have:=JJ hT h;rw[hk]at this;simp only[Zu]at this;split at this
 ·rename_i hu;simp at this;rw[hu,this.1,this.2]
 ·cases this
variable{s:Nat}
theorem Et(hk:i.kd=.sl e s):P.underlying t=some (.slice e)/\∃x,P.info? e=some x/\x.size=s:=by
 have:=JJ hT h;rw[hk]at this;simp only[Zu]at this;split at this
 ·rename_i hu;simp only[AI,beq_iff_eq]at this;obtain⟨rfl,hi⟩:=this;exact⟨hu,Gi hi⟩
 ·cases this
theorem KR(hk:i.kd=.arr n e s):P.underlying t=some (.array n e)/\∃x,P.info? e=some x/\x.size=s:=by
 have:=JJ hT h;rw[hk]at this;simp only[Zu]at this;split at this
 ·rename_i hu;simp only[AI,beq_iff_eq]at this;obtain⟨⟨rfl,rfl⟩,hi⟩:=this;exact⟨hu,Gi hi⟩
 ·cases this
theorem UC{fs:List (Nat×Nat)}(hk:i.kd=.st fs):∃fs',P.underlying t=some (.struct fs')/\fs'.toList.map (·.offset)=fs.map (·.1)/\∀p∈fs'.toList.zip fs,JI P p.1.type p.2.2=true:=by
 have:=JJ hT h;rw[hk]at this;simp only[Zu]at this;split at this
 ·rename_i hu;simp only[AI,beq_iff_eq,AY]at this;exact⟨_,hu,this.1,this.2⟩
 ·cases this
end
def E1{α:Type}:List α->Nat->Option α
 |[],_=>none
 |x::_,0=>some x
 |_::r,n+1=>E1 r n
theorem D5{α:Type}:∀(l:List α) (n:Nat),E1 l n=l[n]?
 |[],n=>by simp[E1]
 |x::r,0=>by simp[E1]
 |x::r,n+1=>by simp[E1,D5 r n]
def Tr.off(T:Tr)(s f:Nat):Option Nat:=match T.get s with
 |some ⟨.st fs,_⟩=>match E1 fs f with
  |some (o,s)=>bif Nat.beq s 0 then none else some o
  |none=>none
 |_=>none
variable{T:Tr}{s f:Nat}
theorem nW(hT:Dp P T=true){o:Nat}(h:T.off s f=some o):∃fs fd x,P.underlying s=some (.struct fs)/\fs[f]? =some fd/\fd.offset=o/\P.info? fd.type=some x/\x.size≠0:=by
 unfold Tr.off at h;split at h
 ·rename_i fs sz hg;obtain⟨fs',hu,ho,hi⟩:=UC hT hg J;split at h
  ·rename_i o' s' hn;rw[D5]at hn;cases hb:Nat.beq s' 0 with
   |true=>rw[hb]at h;simp at h
   |false=>
    rw[hb]at h;simp at h;subst h;have hlen:fs'.toList.length=fs.length:=by have:=congrArg List.length ho;simpa using this
    have hlt:=(Ae.1 hn).1;have hlt':f<fs'.toList.length:=I;have e1:fs'.toList[f].offset=o':=by have:=congrArg (fun l=>l[f]?) ho;simp only[List.getElem?_map,hn,CZ,AZ hlt']at this;simpa using this
    have hz:=hi (fs'.toList[f],(o',s')) (List.mem_iff_getElem?.2 ⟨f,by rw[List.getElem?_zip_eq_some];exact⟨AZ hlt',hn⟩⟩);obtain⟨x,hx,hxs⟩:=Gi hz;refine⟨fs',fs'.toList[f],x,hu,by simpa using AZ hlt',e1,hx,?_⟩;rw[hxs];intro e0;simp only at e0;subst e0;simp at hb
  ·cases h
 ·cases h
def Hq(kd:Option TI)(op:BinOp)(a b:Value):Option Value:=
 match op,a,b with
 | .add,.int k x,.int k' y=>bif k==k' then some (.int k (k.wrap (x+y)))else none
 | .sub,.int k x,.int k' y=>bif k==k' then some (.int k (k.wrap (x-y)))else none
 | .mul,.int k x,.int k' y=>bif k==k' then some (.int k (k.wrap (x*y)))else none
 | .quo,.int k x,.int k' y=>bif k==k'&& !decide (y=0)then some (.int k (k.wrap (x.tdiv y)))else none
 | .rem,.int k x,.int k' y=>bif k==k'&& !decide (y=0)then some (.int k (x.tmod y))else none
 | .and,.int k x,.int k' y=>bif k==k' then some (.int k (bits .and k x y))else none
 | .or,.int k x,.int k' y=>bif k==k' then some (.int k (bits .or k x y))else none
 | .xor,.int k x,.int k' y=>bif k==k' then some (.int k (bits .xor k x y))else none
 | .andNot,.int k x,.int k' y=>bif k==k' then some (.int k (bits .andNot k x y))else none
 | .shl,.int _ _,.int _ _=>none
 | .shr,.int _ _,.int _ _=>none
 | .eql,.int k x,.int k' y=>bif k==k' then some (.bool (decide (x=y)))else none
 | .neq,.int k x,.int k' y=>bif k==k' then some (.bool (decide (¬x=y)))else none
 | .lss,.int k x,.int k' y=>bif k==k' then some (.bool (decide (x<y)))else none
 | .leq,.int k x,.int k' y=>bif k==k' then some (.bool (decide (x<=y)))else none
 | .gtr,.int k x,.int k' y=>bif k==k' then some (.bool (decide (y<x)))else none
 | .geq,.int k x,.int k' y=>bif k==k' then some (.bool (decide (y<=x)))else none
 | .eql,.bool x,.bool y=>match kd with|some ⟨.bool,_⟩=>some (.bool (decide (x=y)))|_=>none
 | .neq,.bool x,.bool y=>match kd with|some ⟨.bool,_⟩=>some (.bool (decide (¬x=y)))|_=>none
 | .eql,.string x,.string y=>some (.bool (x.toList==y.toList))
 | .neq,.string x,.string y=>some (.bool (!(x.toList==y.toList)))
 | .eql,.pointer (some _),.pointer none=>match kd with|some ⟨.Au,_⟩=>some (.bool false)|_=>none
 | .eql,.pointer none,.pointer none=>match kd with|some ⟨.Au,_⟩=>some (.bool true)|_=>none
 | .neq,.pointer (some _),.pointer none=>match kd with|some ⟨.Au,_⟩=>some (.bool true)|_=>none
 | .neq,.pointer none,.pointer none=>match kd with|some ⟨.Au,_⟩=>some (.bool false)|_=>none
 | .eql,.map (some _),.map none=>match kd with|some ⟨.mp _ _,_⟩=>some (.bool false)|_=>none
 | .neq,.map (some _),.map none=>match kd with|some ⟨.mp _ _,_⟩=>some (.bool true)|_=>none
 | .eql,.slice (some _) _ _,.slice none _ _=>match kd with|some ⟨.sl _ _,_⟩=>some (.bool false)|_=>none
 | .eql,.slice none _ _,.slice none _ _=>match kd with|some ⟨.sl _ _,_⟩=>some (.bool true)|_=>none
 | .neq,.slice (some _) _ _,.slice none _ _=>match kd with|some ⟨.sl _ _,_⟩=>some (.bool true)|_=>none
 | .neq,.slice none _ _,.slice none _ _=>match kd with|some ⟨.sl _ _,_⟩=>some (.bool false)|_=>none
 | .neq,.func ..,.nilFunc=>match kd with|some ⟨.fn,_⟩=>some (.bool true)|_=>none
 | .neq,.nilFunc,.nilFunc=>match kd with|some ⟨.fn,_⟩=>some (.bool false)|_=>none
 |_,_,_=>none
section
variable{P:Program} (w:World) (d t:Nat)
variable{e:Nat}
theorem eD(hu:P.underlying t=some (.pointer e))(a:Option Addr):(Op.equalIn (d+1) t (.pointer a) (.pointer none)).run P w=.ok a.isNone w:=by cases a<;>simp[Op.equalIn,Ac hu]
theorem eE{k:Nat}(hu:P.underlying t=some (.map k e))(a:Option Nat):(Op.equalIn (d+1) t (.map a) (.map none)).run P w=.ok a.isNone w:=by cases a<;>simp[Op.equalIn,Ac hu]
theorem XG(hu:P.underlying t=some (.slice e))(a:Option Addr)(n c m q:Nat):(Op.equalIn (d+1) t (.slice a n c) (.slice none m q)).run P w=.ok a.isNone w:=by cases a<;>simp[Op.equalIn,Ac hu]
variable{a:Array Nat}
theorem Zv{b:Array Nat}{c:Bool}(hu:P.underlying t=some (.func a b c))(f:Fn)(x y:Array Value):(Op.equalIn (d+1) t (.func f x y) .nilFunc).run P w=.ok false w:=by simp[Op.equalIn,Ac hu]
theorem UD{b:Array Nat}{c:Bool}(hu:P.underlying t=some (.func a b c)):(Op.equalIn (d+1) t .nilFunc .nilFunc).run P w=.ok true w:=by simp[Op.equalIn,Ac hu]
end
variable{v:Value}
theorem eF(hT:Dp P T=true){op:BinOp}{a b:Value}(h:Hq (T.get t) op a b=some v)(x y:Operand)(w:World):
 ((do eqGuard op t x y a b;binOp op t a b:Sem Value)).run P w=.ok v w:=by
 unfold Hq at h;split at h;case h_1|h_2|h_3|h_6|h_7|h_8|h_9=>
  rename_i k x k' y;cases hk:k==k'<;>simp[hk]at h;obtain rfl:=(by simpa using hk:k=k')
  subst h;simp[eqGuard,binOp,Op.intArith,Op.intBits,bits]
 case h_4|h_5=>
  rename_i k x k' y;cases hk:k==k'<;>simp[hk]at h;obtain rfl:=(by simpa using hk:k=k')
  by_cases h0:y=0<;>simp[h0]at h;subst h;simp[eqGuard,binOp,Op.intDiv,h0]
 case h_10|h_11=>cases h
 case h_12|h_13|h_14|h_15|h_16|h_17=>
  rename_i k x k' y;cases hk:k==k'<;>simp only[hk,AO,AN,reduceCtorEq,AH]at h;obtain rfl:=(by simpa using hk:k=k')
  subst h;by_cases hxy:x=y<;>simp[eqGuard,binOp,Op.intCmp,hxy]
 case h_18|h_19=>
  split at h
  ·rename_i x y _ _ hg;have hu:=VX hT hg J;simp only[AH]at h;subst h;have:=run_equal_bool w t x y hu;cases x<;>cases y<;>simp_all [eqGuard,binOp]
  ·cases h
 case h_20|h_21=>simp at h;subst h;simp[eqGuard,binOp,Op.stringOp]
 case h_22|h_23|h_24|h_25=>
  split at h
  ·rename_i hg;obtain⟨e,hu⟩:=UB hT hg J;simp only[AH]at h;subst h;have:=fun a=>eD w 9999 t hu a
   simp only[eqGuard,binOp,Op.equal,Op.maxDepth];simp[this]
  ·cases h
 case h_26|h_27=>
  split at h
  ·rename_i hg;have hu:=NL hT hg J;simp only[AH]at h;subst h;have:=fun a=>eE w 9999 t hu a
   simp only[eqGuard,binOp,Op.equal,Op.maxDepth];simp[this]
  ·cases h
 case h_28|h_29|h_30|h_31=>
  split at h
  ·rename_i hg;have hu:=(Et hT hg J).1;simp only[AH]at h;subst h;have:=fun a n c m q=>XG w 9999 t hu a n c m q
   simp only[eqGuard,binOp,Op.equal,Op.maxDepth];simp[this]
  ·cases h
 case h_32=>
  split at h
  ·rename_i hg;obtain⟨_,_,_,hu⟩:=XF hT hg J;simp only[AH]at h;subst h;have:=fun a b c=>Zv w 9999 t hu a b c
   simp only[eqGuard,binOp,Op.equal,Op.maxDepth];simp[this]
  ·cases h
 case h_33=>
  split at h
  ·rename_i hg;obtain⟨_,_,_,hu⟩:=XF hT hg J;simp only[AH]at h;subst h;have:=UD w 9999 t hu;simp only[eqGuard,binOp,Op.equal,Op.maxDepth];simp[this]
  ·cases h
 case h_34=>cases h
def FP(fr:Fr):List Operand->Option (List Value)
 |[]=>some []
 |x::r=>match Eg fr x with
  |some v=>match FP fr r with
   |some vs=>some (v::vs)
   |none=>none
  |none=>none
theorem EV{n:Nat}{a:Act}{fr:Fr}(h:Ep n a fr):∀{l:List Operand} {vs:List Value},FP fr l=some vs->l.map a.eval=vs
 |[],vs,hl=>by simp[FP]at hl;subst hl;rfl
 |x::r,vs,hl=>by
  simp only[FP]at hl;split at hl
  ·rename_i v hv;split at hl
   ·rename_i us hu;simp at hl;subst hl;simp[h.eval hv,EV h hu]
   ·cases hl
  ·cases hl
def EW(T:Tr)(fr:Fr):Op->Option Value
 | .move x=>Eg fr x
 | .assign x=>Eg fr x
 | .pick c a b=>match Eg fr c with
  |some (.bool t)=>bif t then Eg fr a else Eg fr b
  |_=>none
 | .nilCheck x=>match Eg fr x with
  |some (.pointer (some a))=>some (.pointer (some a))
  |some (.func (.func f) a b)=>some (.func (.func f) a b)
  |_=>none
 | .binOp op t x y _=>match Eg fr x with
  |some a=>match Eg fr y with
   |some b=>Hq (T.get t) op a b
   |none=>none
  |none=>none
 | .unOp .not _ x=>match Eg fr x with
  |some (.bool b)=>some (.bool (!b))
  |_=>none
 | .unOp .neg _ x=>match Eg fr x with
  |some (.int k i)=>some (.int k (k.wrap (0-i)))
  |_=>none
 | .unOp .xor _ x=>match Eg fr x with
  |some (.int k i)=>some (.int k (bits .xor k (if k.signed then-1 else k.max) i))
  |_=>none
 | .convert s d x=>bif Nat.beq s d then none else match Eg fr x with
  |some (.int k i)=>match T.get s with
   |some _=>match T.get d with
    |some ⟨.int k',_⟩=>some (.int k' (k'.wrap i))
    |_=>none
   |none=>none
  |some (.string b)=>match T.get s with
   |some ⟨.str,_⟩=>match T.get d with
    |some ⟨.str,_⟩=>some (.string b)
    |_=>none
   |_=>none
  |_=>none
 | .fieldAddr s x f=>match Eg fr x with
  |some (.pointer (some ⟨b,o,none⟩))=>match T.off s f with
   |some k=>some (.pointer (some ⟨b,o+k,none⟩))
   |none=>none
  |_=>none
 | .extract x i=>match Eg fr x with
  |some (.tuple ⟨vs⟩)=>E1 vs i
  |_=>none
 | .makeFunc f a c=>match FP fr a.toList with
  |some x=>match FP fr c.toList with
   |some y=>some (.func f x.toArray y.toArray)
   |none=>none
  |none=>none
 | .makeInterface t x=>match Eg fr x with
  |some v=>match T.get t with
   |some ⟨.LU,_⟩=>none
   |some ⟨.st _,_⟩=>some (.iface t v)
   |some ⟨.int _,_⟩=>some (.iface t v)
   |some ⟨.Au,_⟩=>some (.iface t v)
   |_=>none
  |none=>none
 | .call ⟨.builtin .len,⟨[x]⟩,⟨[t]⟩⟩=>match Eg fr x with
  |some (.slice _ n _)=>match T.get t with
   |some ⟨.sl _ _,_⟩=>some (.int .i64 n)
   |_=>none
  |some (.string s)=>match T.get t with
   |some ⟨.str,_⟩=>some (.int .i64 s.size)
   |_=>none
  |some (.agg _)=>match T.get t with
   |some ⟨.arr n _ _,_⟩=>some (.int .i64 n)
   |_=>none
  |_=>none
 | .call ⟨.builtin .min,⟨[x,y]⟩,_⟩=>match Eg fr x with
  |some (.int k a)=>match Eg fr y with
   |some (.int _ b)=>some (.int k (if b<a then b else a))
   |_=>none
  |_=>none
 | .call ⟨.builtin .max,⟨[x,y]⟩,_⟩=>match Eg fr x with
  |some (.int k a)=>match Eg fr y with
   |some (.int _ b)=>some (.int k (if b>a then b else a))
   |_=>none
  |_=>none
 | .call ⟨.builtin .cap,⟨[x]⟩,⟨[t]⟩⟩=>match Eg fr x with
  |some (.slice _ _ c)=>match T.get t with
   |some ⟨.sl _ _,_⟩=>some (.int .i64 c)
   |_=>none
  |_=>none
 |_=>none
variable{fr:Fr}{x:Operand}
theorem XH{dst:Option Nat}{ty:Nat}{pos:String}{af:Array Edge}{gd:Option (Nat×Bool)}(h:EW T fr (.convert s t x)=some v):B5 ⟨dst,.convert s t x,ty,pos,af,gd⟩=.Ia:=by
 cases hsd:Nat.beq s t
 ·simp only[B5,hsd,AO]
 ·simp[EW,hsd]at h
variable{o:Oper}
theorem eG(hT:Dp P T=true)(h:EW T fr o.op=some v)(S:A2):FV P n o fr S v:=by
 intro A R a w hk hs;obtain⟨dst,op,type,pos,after,guard⟩:=o;simp only at h;unfold EW at h;split at h;case h_1 x|h_2 x=>simp[execOp,hk.eval h]
 case h_3 c x y=>
  split at h
  ·rename_i t hc;cases t<;>simp at h<;>simp[execOp,hk.eval hc,asBool,hk.eval h]
  ·cases h
 case h_4 x=>
  split at h
  ·rename_i b hx;cases h;simp[execOp,hk.eval hx]
  ·rename_i f b c hx;cases h;simp[execOp,hk.eval hx]
  ·cases h
 case h_5 op t x y _=>
  split at h
  ·rename_i b hx;split at h
   ·rename_i c hy;have:=eF hT h x y w;simp only[execOp,hk.eval hx,hk.eval hy,Ag,this,Ad];rfl
   ·cases h
  ·cases h
 case h_6 t x=>
  split at h
  ·rename_i b hx;simp at h;subst h;simp[execOp,hk.eval hx,Op.unary]
  ·cases h
 case h_7 t x=>
  split at h
  ·rename_i k i hx;simp at h;subst h;simp[execOp,hk.eval hx,Op.unary,Op.intArith]
  ·cases h
 case h_8 t x=>
  split at h
  ·rename_i k i hx;simp at h;subst h;simp[execOp,hk.eval hx,Op.unary,Op.intBits,bits]
  ·cases h
 case h_9 s d x=>
  cases hsd:Nat.beq s d<;>rw[hsd]at h<;>simp only[AN,AO,reduceCtorEq]at h;split at h
  ·rename_i k i hx;split at h
   ·rename_i ti hs';split at h
    ·rename_i k' sz hd;obtain⟨ds,hus⟩:=nV hT hs';have hud:=HF hT hd J;simp at h;subst h;simp[execOp,hk.eval hx,convert,Ac hus,Ac hud,Conv.intToInt]
    ·cases h
   ·cases h
  ·rename_i b hx;split at h
   ·rename_i sz hs';split at h
    ·rename_i sz' hd;have hus:=Hh hT hs' J;have hud:=Hh hT hd J;simp at h;subst h;simp[execOp,hk.eval hx,convert,Ac hus,Ac hud]
    ·cases h
   ·cases h
  ·cases h
 case h_10 s x f=>
  split at h
  ·rename_i b o hx;split at h
   ·rename_i k ho;obtain⟨fs,fd,i,hu,hf,rfl,hi,hz⟩:=nW hT ho;simp at h;subst h;simp[execOp,hk.eval hx,Instr.fieldAt,Ac hu,hf,Instr.sureAddr,fieldPlace,sizeOf,typeInfo,hi,hz,DD]
   ·cases h
  ·cases h
 case h_11 x i=>
  split at h
  ·rename_i vs hx;rw[D5]at h;simp[execOp,hk.eval hx,Instr.extract,h]
  ·cases h
 case h_12 f b c=>
  split at h
  ·rename_i xs hx;split at h
   ·rename_i ys hy;have h1:=EV hk hx;have h2:=EV hk hy;have e1:b.map a.eval=xs.toArray:=Bl.1 (by simpa using h1);have e2:c.map a.eval=ys.toArray:=Bl.1 (by simpa using h2);simp at h;subst h;simp[execOp,Instr.makeFunc,e1,e2]
   ·cases h
  ·cases h
 case h_13 t x=>
  split at h
  ·rename_i u hx;split at h
   ·cases h
   ·rename_i fs sz hg;obtain⟨fs',hu,_⟩:=UC hT hg J;simp at h;subst h;simp[execOp,hk.eval hx,Instr.makeInterface,Ac hu]
   ·rename_i k sz hg;have hu:=HF hT hg J;simp at h;subst h;simp[execOp,hk.eval hx,Instr.makeInterface,Ac hu]
   ·rename_i sz hg;obtain⟨e,hu⟩:=UB hT hg J;simp at h;subst h;simp[execOp,hk.eval hx,Instr.makeInterface,Ac hu]
   ·cases h
  ·cases h
 case h_14 x t=>
  split at h
  ·rename_i b m c hx;split at h
   ·rename_i e s sz hg;have hu:=(Et hT hg J).1;simp at h;subst h;simp[execOp,resolve,invoke,builtin,Builtin.len_,hk.eval hx,Ac hu,goInt]
   ·cases h
  ·rename_i s hx;split at h
   ·rename_i sz hg;have hu:=Hh hT hg J;simp at h;subst h;simp[execOp,resolve,invoke,builtin,Builtin.len_,hk.eval hx,Ac hu,goInt]
   ·cases h
  ·rename_i cs hx;split at h
   ·rename_i m e s sz hg;have hu:=(KR hT hg J).1;simp at h;subst h;simp[execOp,resolve,invoke,builtin,Builtin.len_,hk.eval hx,Ac hu,goInt]
   ·cases h
  ·cases h
 case h_15 x y _=>
  split at h
  ·rename_i k i hx;split at h
   ·rename_i k' j hy;simp at h;subst h;simp only[execOp,resolve,invoke,builtin,Ag,BA,Ad];simp only[List.map_toArray,Ap,CP,hk.eval hx,hk.eval hy];rw[run_min_int2 w];rfl
   ·cases h
  ·cases h
 case h_16 x y _=>
  split at h
  ·rename_i k i hx;split at h
   ·rename_i k' j hy;simp at h;subst h;simp only[execOp,resolve,invoke,builtin,Ag,BA,Ad];simp only[List.map_toArray,Ap,CP,hk.eval hx,hk.eval hy];rw[run_max_int2 w];rfl
   ·cases h
  ·cases h
 case h_17 x t=>
  split at h
  ·rename_i b l c hx;split at h
   ·rename_i e sz' sz hg;have hu:=(Et hT hg J).1;simp at h;subst h;simp[execOp,resolve,invoke,builtin,Builtin.cap_,hk.eval hx,Ac hu,goInt]
   ·cases h
  ·cases h
 case h_18=>cases h
def A7(b:Nat)(cs:List Value)(t:TypeId):List CH:=[(b,.cells cs.toArray t (0,0))]
def Au(b:Nat):Value:=.pointer (some ⟨b,0,none⟩)
inductive SL (c d:List CH):A2->A2->Prop
 |here {S:A2}:SL c d (c::S) (d::S)
 |there {x:List CH} {S T:A2} (h:SL c d S T):SL c d (x::S) (x::T)
variable{S:A2}
theorem SL.perm{c d:List CH}{T:A2}(h:SL c d S T):∃U,S.Perm (c::U)/\T.Perm (d::U):=by
 induction h with
 |here=>exact⟨_,.refl _,.refl _⟩
 |there _ ih=>obtain⟨U,h1,h2⟩:=ih;exact⟨_::U,(List.Perm.cons _ h1).trans (.swap _ _ _),(List.Perm.cons _ h2).trans (.swap _ _ _)⟩
variable{A:Om}{w:World}{b:Nat}
theorem Ds.mem{R:A2}{cs:List Value}(h:Ds A w (S++R))(hm:A7 b cs t∈S):w.heap[b]? =some (.cells cs.toArray t (0,0)):=h.has (b,.cells cs.toArray t (0,0)) (List.mem_flatten.2 ⟨_,A3 _ hm,by simp[A7]⟩)
theorem I1{cs:List Value}(h:w.heap[b]? =some (.cells cs.toArray t (0,0)))(i:Nat):w.cell? ⟨b,i,none⟩=cs[i]? :=by simp[World.cell?,h]
def Kd.agg:Kd->Bool
 | .st _| .arr .. =>true
 |_=>false
variable{i:TI}
theorem Jk(hT:Dp P T=true)(h:T.get t=some i)(w:World):(isAgg t).run P w=.ok i.kd.agg w:=by
 have hk:=JJ hT h;cases hkd:i.kd with
 |int k=>simp[isAgg,Ac (HF hT h hkd),Kd.agg]
 |bool=>simp[isAgg,Ac (VX hT h hkd),Kd.agg]
 |str=>simp[isAgg,Ac (Hh hT h hkd),Kd.agg]
 |Au=>obtain⟨e,hu⟩:=UB hT h hkd;simp[isAgg,Ac hu,Kd.agg]
 |fn=>obtain⟨a,b,c,hu⟩:=XF hT h hkd;simp[isAgg,Ac hu,Kd.agg]
 |LU=>
  rw[hkd]at hk;simp only[Zu]at hk;split at hk
  ·rename_i hu;simp[isAgg,Ac hu,Kd.agg]
  ·cases hk
 |mp k e=>simp[isAgg,Ac (NL hT h hkd),Kd.agg]
 |sl e s=>simp[isAgg,Ac (Et hT h hkd).1,Kd.agg]
 |arr m e s=>simp[isAgg,Ac (KR hT h hkd).1,Kd.agg]
 |st fs=>obtain⟨fs',hu,_⟩:=UC hT h hkd;simp[isAgg,Ac hu,Kd.agg]
section
variable{P:Program} {T:Tr} {n:Nat} {K:Option A2} {Q:EX} {fr:Fr} {S:A2} {rest:List FO}
variable{i ty:Nat} {pos:String} {af:Array Edge} {gd g:Option (Nat×Bool)} {d:Nat}
variable{kd:Kd}{sz:Nat}
theorem VY(hT:Dp P T=true){t b off bt:Nat}{cs:List Value}(ho:o.op=.load t x)(ht:T.get t=some ⟨kd,sz⟩)(ha:kd.agg=false)
 (hx:Eg fr x=some (.pointer (some ⟨b,off,none⟩))) (hm:A7 b cs bt∈S) (hv:E1 cs off=some v):FV P n o fr S v:=by
 intro A R a w hk hs;have hc:=I1 (hs.mem hm) off;rw[D5]at hv;rw[hv]at hc;simp[execOp,ho,hk.eval hx,Instr.loadAt,Instr.sureAddr,loadVar,Jk hT ht,ha,hc]
theorem eH(hT:Dp P T=true){t b off bt:Nat}{cs vs:List Value}(ho:o.op=.load t x)(ht:T.get t=some ⟨kd,sz⟩)(ha:kd.agg=true)
 (hx:Eg fr x=some (.pointer (some ⟨b,off,none⟩))) (hm:A7 b cs bt∈S) (hl:vs.length=sz) (hv:(cs.drop off).take sz=vs):FV P n o fr S (.agg vs.toArray):=by
 intro A R a w hk hs;obtain⟨ti,hi,hsz⟩:=Ny hT ht;have hc:=I1 (hs.mem hm)
 have hr:=run_loadCells_list (P:=P) (w:=w) ⟨b,off,none⟩ vs (fun j v hj=>by
  rw[DD,hc];rw[<-hv]at hj;rw[Bf]at hj;split at hj
  ·rw[CG]at hj;exact hj
  ·cases hj)
 rw[hl]at hr;simp[execOp,ho,hk.eval hx,Instr.loadAt,Instr.sureAddr,loadVar,Jk hT ht,ha,sizeOf,typeInfo,hi,hsz,hr]
theorem DL.val{o:Oper}{v:Value}(ho:B5 o=.Ia)(hg:lg fr g=some true)(hd:o.dst=some d)(hn:Nat.blt d n=true)(hv:FV P n o fr (K.getD S) v)(h:DL P n K Q rest ((d,v)::fr) S):DL P n K Q (⟨i,o,g⟩::rest) fr S:=.Ia (.inl ho) hg hd (by simpa using hn) hv h
theorem DL.p(hT:Dp P T=true){op:Op}(ho:B5 ⟨some d,op,ty,pos,af,gd⟩=.Ia)(hg:lg fr g=some true)(hn:Nat.blt d n=true)(hv:EW T fr op=some v)(h:DL P n K Q rest ((d,v)::fr) S):
 DL P n K Q (⟨i,⟨some d,op,ty,pos,af,gd⟩,g⟩::rest) fr S:=
 .Ia (.inl ho) hg J (by simpa using hn) (eG hT hv _) h
theorem DL.dead(hg:lg fr g=some false)(hn:(match o.dst with|some d=>Nat.blt d n|none=>true)=true)(h:DL P n K Q rest (Dc o.dst undef fr) S):DL P n K Q (⟨i,o,g⟩::rest) fr S:=.skip hg (fun e he=>by rw[he]at hn;simpa using hn) h
theorem DL.VZ(hT:Dp P T=true){t b off bt:Nat}{cs:List Value}(hg:lg fr g=some true)(hn:Nat.blt d n=true)(ht:T.get t=some ⟨kd,sz⟩)(ha:kd.agg=false)
 (hx:Eg fr x=some (.pointer (some ⟨b,off,none⟩))) (hm:A7 b cs bt∈K.getD S) (hv:E1 cs off=some v) (h:DL P n K Q rest ((d,v)::fr) S):DL P n K Q (⟨i,⟨some d,.load t x,ty,pos,af,gd⟩,g⟩::rest) fr S:=
 .Ia (.inl J) hg J (by simpa using hn) (VY hT J ht ha hx hm hv) h
theorem DL.HQ(hT:Dp P T=true){t b off bt:Nat}{cs vs:List Value}(hg:lg fr g=some true)(hn:Nat.blt d n=true)(ht:T.get t=some ⟨kd,sz⟩)(ha:kd.agg=true)
 (hx:Eg fr x=some (.pointer (some ⟨b,off,none⟩))) (hm:A7 b cs bt∈K.getD S) (hv:(cs.drop off).take sz=vs) (hl:vs.length=sz) (h:DL P n K Q rest ((d,.agg vs.toArray)::fr) S):DL P n K Q (⟨i,⟨some d,.load t x,ty,pos,af,gd⟩,g⟩::rest) fr S:=
 .Ia (.inl J) hg J (by simpa using hn) (eH hT J ht ha hx hm hl hv) h
variable{bt:Nat}
theorem DL.rL(hT:Dp P T=true){cs:List Value}(hg:lg fr g=some true)(hn:Nat.blt d n=true)(ht:T.get t=some ⟨kd,sz⟩)(ha:kd.agg=true)
 (hx:Eg fr x=some (.pointer (some ⟨b,0,none⟩))) (hm:A7 b cs bt∈K.getD S) (hl:cs.length=sz) (h:DL P n K Q rest ((d,.agg cs.toArray)::fr) S):DL P n K Q (⟨i,⟨some d,.load t x,ty,pos,af,gd⟩,g⟩::rest) fr S:=
 DL.HQ hT hg hn ht ha hx hm (by rw[BL,<-hl,List.take_length]) hl h
variable{zs:List Value}
theorem DL.alloc{zero:Nat->Option Value}(hz:∀t v,zero t=some v->(P.info? t).bind (·.zero)=some v)(hg:g=none)(hn:Nat.blt d n=true)(ht:zero t=some (.agg zs.toArray))(h:∀b,DL P n K Q rest ((d,Au b)::fr) (A7 b zs t::S)):
 DL P n K Q (⟨i,⟨some d,.alloc t,ty,pos,af,gd⟩,g⟩::rest) fr S:=
 .IP (by simp[B5]) hg J (by simpa using hn) (HE J (hz t _ ht)) h
theorem DL.alloc1{zero:Nat->Option Value}(hz:∀t v,zero t=some v->(P.info? t).bind (·.zero)=some v)(hg:g=none)(hn:Nat.blt d n=true)(ht:zero t=some v)(hv:v.cells= #[v])(h:∀b,DL P n K Q rest ((d,Au b)::fr) (A7 b [v] t::S)):
 DL P n K Q (⟨i,⟨some d,.alloc t,ty,pos,af,gd⟩,g⟩::rest) fr S:=
 .IP (by simp[B5]) hg J (by simpa using hn) (HE J (hz t _ ht)) (fun b=>by rw[hv];exact h b)
theorem DL.fresh{obj:Obj}{mk:Nat->Value}(ho:B5 o=.XC)(hg:lg fr g=some true)(hd:o.dst=some d)(hn:Nat.blt d n=true)(hv:FR P n o fr obj mk)(hK:∀b,Ge K ([(b,obj)]::S))(h:∀b,DL P n K Q rest ((d,mk b)::fr) ([(b,obj)]::S)):
 DL P n K Q (⟨i,o,g⟩::rest) fr S:=by
 refine .eff (fun v S'=>∃b,v=mk b/\S'=[(b,obj)]::S) (fun _ _=>False) (.inl ho) hg (fun e he=>by simp only[hd]at he;cases he;simpa using hn) ?_ (fun _ _ h=>h.elim) ?_ ?_
 ·intro A R a w hk hs;rw[Fq,hv a w hk];exact⟨_,hs.new _,_,rfl,rfl⟩
 ·rintro v S' ⟨b,rfl,rfl⟩;exact hK b
 ·rintro v S' ⟨b,rfl,rfl⟩;simp only[hd];exact h b
theorem Ge.cons{c:List CH}(h:Ge K S):Ge K (c::S):=by
 cases K with
 |none=>trivial
 |some K=>obtain⟨U,p⟩:=h;exact⟨_,(List.Perm.cons _ p).trans CY.symm⟩
theorem DL.XI{vs:List Value}(hg:lg fr g=some true)(hn:Nat.blt d n=true)(hx:Eg fr x=some (.agg vs.toArray))(hK:Ge K S)(h:∀b,DL P n K Q rest ((d,Au b)::fr) (A7 b vs t::S)):
 DL P n K Q (⟨i,⟨some d,.box t x,ty,pos,af,gd⟩,g⟩::rest) fr S:=
 .fresh J hg J hn (obj:=.cells vs.toArray t (0,0)) (mk:=Au) (fun a w hk=>by simp[execOp,hk.eval hx,Instr.box,newVar,newRow,Value.cells,Au]) (fun _=>hK.cons) h
theorem DL.box1(hg:lg fr g=some true)(hn:Nat.blt d n=true)(hx:Eg fr x=some v)(hv:v.cells= #[v])(hK:Ge K S)(h:∀b,DL P n K Q rest ((d,Au b)::fr) (A7 b [v] t::S)):
 DL P n K Q (⟨i,⟨some d,.box t x,ty,pos,af,gd⟩,g⟩::rest) fr S:=
 .fresh J hg J hn (obj:=.cells #[v] t (0,0)) (mk:=Au) (fun a w hk=>by simp[execOp,hk.eval hx,Instr.box,newVar,newRow,hv,Au]) (fun _=>hK.cons) h
variable{y:Operand}{ti:TI}{S':A2}
theorem Oo(hT:Dp P T=true){t b off bt:Nat}{cs vs:List Value}(ho:o.op=.store t x y)(ht:T.get t=some ti)(hx:Eg fr x=some (.pointer (some ⟨b,off,none⟩)))(hy:Eg fr y=some v)
 (hvs:v.cells=vs.toArray) (hl:vs.length=ti.size) (h1:∀u∈vs,u.oneCell'=true) (hfit:off+vs.length<=cs.length) (hu:SL (A7 b cs bt) (A7 b (cs.take off++vs++cs.drop (off+vs.length)) bt) S S'):
 Eff P n o fr S (fun v T=>T=S') (fun _ _=>False):=by
 intro A R a w hk hs;obtain⟨U,p1,p2⟩:=hu.perm;have hs1:=hs.perm (p1.append_right R);have hb:w.heap[b]? =some (.cells cs.toArray bt (0,0)):=hs1.has (b,_) (by simp[A7]);obtain⟨i,hi,hsz⟩:=Ny hT ht;have hr:=run_storeCells_at (P:=P) b off bt vs 0 cs.toArray w hb (by simpa using hfit) h1;simp only[CV]at hr;have hval:(execOp a.eval o).run P w=.ok .skip (w.setRow b (cs.take off++vs++cs.drop (off+vs.length)).toArray):=by simp[execOp,ho,hk.eval hx,hk.eval hy,Instr.storeAt,Instr.sureAddr,storeVar,hvs,sizeOf,typeInfo,hi,hl,hsz,hr]
 rw[Fq,hval];refine⟨S',Ds.perm (Ds.put (S:=U++R) (b:=b) (o:=.cells cs.toArray bt (0,0)) hs1 J J J (by simp[World.setRow]) (setRow_heap w b _ _ _ _ hb) (fun k hk hne=>setRow_other w b k _ hne)) (p2.symm.append_right R),rfl⟩
theorem DL.NM(hT:Dp P T=true){t b off bt:Nat}{cs vs cs':List Value}(hg:lg fr g=some true)(ht:T.get t=some ti)(hx:Eg fr x=some (.pointer (some ⟨b,off,none⟩)))(hy:Eg fr y=some (.agg vs.toArray))
 (hu:SL (A7 b cs bt) (A7 b cs' bt) S S') (hc:cs.take off++vs++cs.drop (off+vs.length)=cs') (hl:vs.length=ti.size) (h1:∀u∈vs,u.oneCell'=true) (hfit:off+vs.length<=cs.length) (hK:Ge K S') (h:DL P n K Q rest fr S'):
 DL P n K Q (⟨i,⟨none,.store t x y,ty,pos,af,gd⟩,g⟩::rest) fr S:=
 .eff _ _ (.inl J) hg (fun e he=>by cases he) (Oo hT rfl ht hx hy rfl hl h1 hfit (hc▸hu)) (fun _ _ h=>h.elim) (fun v T hT=>by subst hT;exact hK) (fun v T hT=>by subst hT;exact h)
theorem DL.Bj(hT:Dp P T=true){cs vs:List Value}(hg:lg fr g=some true)(ht:T.get t=some ti)(hx:Eg fr x=some (.pointer (some ⟨b,0,none⟩)))(hy:Eg fr y=some (.agg vs.toArray))
 (hu:SL (A7 b cs bt) (A7 b vs bt) S S') (hl:vs.length=ti.size) (h1:∀u∈vs,u.oneCell'=true) (hfit:cs.length=ti.size) (hK:Ge K S') (h:DL P n K Q rest fr S'):
 DL P n K Q (⟨i,⟨none,.store t x y,ty,pos,af,gd⟩,g⟩::rest) fr S:=
 DL.NM hT hg ht hx hy hu (by rw[List.take_zero,show cs.drop (0+vs.length)=[]from BJ I];simp) hl h1 I hK h
theorem SN(cs:List Value)(off:Nat)(v:Value)(h:off<cs.length):cs.take off++[v]++cs.drop (off+1)=cs.set off v:=by rw[List.set_eq_take_append_cons_drop,BE h,AU];rfl
theorem DL.Br(hT:Dp P T=true){t b off bt:Nat}{cs cs':List Value}(hg:lg fr g=some true)(ht:T.get t=some ti)(hx:Eg fr x=some (.pointer (some ⟨b,off,none⟩)))(hy:Eg fr y=some v)(hv:v.cells= #[v])
 (hu:SL (A7 b cs bt) (A7 b cs' bt) S S') (hc:cs.set off v=cs') (hl:1=ti.size) (h1:v.oneCell'=true) (hfit:off<cs.length) (hK:Ge K S') (h:DL P n K Q rest fr S'):
 DL P n K Q (⟨i,⟨none,.store t x y,ty,pos,af,gd⟩,g⟩::rest) fr S:=
 .eff _ _ (.inl J) hg (fun e he=>by cases he) (Oo (cs:=cs) (vs:=[v]) hT J ht hx hy hv hl (fun u hu=>by obtain rfl:=AP.1 hu;exact h1) (by simp;omega) (by rw[List.length_singleton,SN _ _ _ hfit,hc];exact hu)) (fun _ _ h=>h.elim) (fun v T hT=>by subst hT;exact hK) (fun v T hT=>by subst hT;exact h)
end
def Ending.within:Ending->Prop
 | .outgrown=>False
 |_=>True
def Fn(P:Program)(f:Nat)(args:List Value)(S:A2)(R:Ending->A2->Prop):Prop:=∀A U w,Ds A w (S++U)->Calls P f args.toArray w fun e w'=>Ending.within e/\∃S',Ds A w' (S'++U)/\R e S'
def E4(v:Value)(F:A2):Ending->A2->Prop:=fun e S'=>e=.returned v/\S'=F
variable{args:List Value}{R:Ending->A2->Prop}
theorem Fn.mono{R':Ending->A2->Prop}(h:Fn P f args S R)(k:∀e S',R e S'->R' e S'):Fn P f args S R':=fun A U w hs=>(h A U w hs).mono fun _ _ ⟨h0,S',h1,h2⟩=>⟨h0,S',h1,k _ _ h2⟩
section
variable{P:Program} {T:Tr} {n:Nat} {K:Option A2} {Q:EX} {fr:Fr} {S:A2} {rest:List FO}
variable{i ty:Nat} {pos:String} {af:Array Edge} {gd g:Option (Nat×Bool)}
def E5(P:Program)(f:Nat):Bool:=match P.funcs[f]? with
 |some fn=>fn.body.isSome&& !(fn.name== "runtime.NumGoroutine")
 |none=>false
theorem KT(h:E5 P f=true)(args:Array Value)(w:World):(callFunc f args).run P w=.ok (.enter f args) w:=by
 unfold E5 at h;split at h
 ·rename_i fn hf;simp only[AI,Bo]at h;have h2:fn.body.isNone=false:=by cases hb:fn.body<;>simp_all
  unfold callFunc;simp only[Ag,run_program,Ad,hf,h.2,h2];rfl
 ·cases h
variable{AA:Array Operand}{ts:Array TypeId}{F U:A2}
theorem Qe{fv:Operand}{first cap vals:List Value}(ho:o.op=.call ⟨.value fv,AA,ts⟩)(hf:Eg fr fv=some (.func (.func f) first.toArray cap.toArray))(hok:E5 P f=true)
 (ha:FP fr AA.toList=some vals) (hp:DV S F U) (hR:Fn P f (first++vals++cap) F R):Eff P n o fr S (fun v S'=>∃S1,S'=S1++U/\R (.returned v) S1) (fun ch S'=>∃S1,S'=S1++U/\R (.panicked ch) S1):=by
 intro A V a w hk hs;have he:=EV hk ha;have hargs:AA.map a.eval=vals.toArray:=Bl.1 (by simpa using he);have hrun:(execOp a.eval o).run P w=.ok (.enter f (first++vals++cap).toArray) w:=by simp only[execOp,ho,resolve,hk.eval hf,hargs,Deferred.ofValue,invoke,Ag,BA,Ad,KT hok];simp
 rw[Fq,hrun];have hs1:Ds A w (F++(U++V)):=by rw[<-AU];exact hs.perm (hp.perm.append_right V)
 refine Calls.mono (hR A (U++V) w hs1) ?_;rintro e w' ⟨hin,S1,h1,h2⟩;rw[<-AU]at h1;cases e with
 |returned v=>exact⟨_,h1,S1,rfl,h2⟩
 |panicked ch=>exact⟨_,h1,S1,rfl,h2⟩
 |outgrown=>exact hin
variable{d:Option Nat}{vals:List Value}
theorem DL.call(hg:lg fr g=some true)(hn:(match d with|some d=>Nat.blt d n|none=>true)=true)(ha:FP fr AA.toList=some vals)(hp:DV S F U)
 (hR:Fn P f vals F R) (hok:E5 P f=true) (tX:∀ch S1,R (.panicked ch) S1->Q.Eu ch (S1++U)) (h:∀v S1,R (.returned v) S1->Ge K (S1++U)/\DL P n K Q rest (Dc d v fr) (S1++U)):
 DL P n K Q (⟨i,⟨d,.call ⟨.value (.func f),AA,ts⟩,ty,pos,af,gd⟩,g⟩::rest) fr S:=
 .eff _ _ (.inl J) hg (fun e he=>by simp only at he;subst he;simpa using hn) (Qe (first:=[]) (cap:=[]) J J hok ha hp (by simpa using hR)) (by rintro c S' ⟨S1,rfl,h1⟩;exact tX c S1 h1)
  (by rintro v S' ⟨S1,rfl,h1⟩;exact(h v S1 h1).1) (by rintro v S' ⟨S1,rfl,h1⟩;exact(h v S1 h1).2)
theorem DL.BS{d:Nat}{F' S2:A2}(hg:lg fr g=some true)(hn:Nat.blt d n=true)(ha:FP fr AA.toList=some vals)(hp:DV S F U)
 (hR:Fn P f vals F (E4 v F')) (hok:E5 P f=true) (hq:App F' U S2) (hK:Ge K S2) (h:DL P n K Q rest ((d,v)::fr) S2):
 DL P n K Q (⟨i,⟨some d,.call ⟨.value (.func f),AA,ts⟩,ty,pos,af,gd⟩,g⟩::rest) fr S:=
 DL.call hg hn ha hp hR hok (fun ch S1 hc=>by cases hc.1) (by rintro u S1 ⟨hu,rfl⟩;cases hu;rw[hq.eq];exact⟨hK,h⟩)
theorem DL.rM{first cap vals:List Value}(hg:lg fr g=some true)(hn:(match d with|some d=>Nat.blt d n|none=>true)=true)(hf:lk fr t=some (.func (.func f) first.toArray cap.toArray))(ha:FP fr AA.toList=some vals)(hp:DV S F U)
 (hR:Fn P f (first++vals++cap) F R) (hok:E5 P f=true) (tX:∀ch S1,R (.panicked ch) S1->Q.Eu ch (S1++U)) (h:∀v S1,R (.returned v) S1->Ge K (S1++U)/\DL P n K Q rest (Dc d v fr) (S1++U)):
 DL P n K Q (⟨i,⟨d,.call ⟨.value (.tmp t),AA,ts⟩,ty,pos,af,gd⟩,g⟩::rest) fr S:=
 .eff _ _ (.inl J) hg (fun e he=>by simp only at he;subst he;simpa using hn) (Qe J hf hok ha hp hR) (by rintro c S' ⟨S1,rfl,h1⟩;exact tX c S1 h1)
  (by rintro v S' ⟨S1,rfl,h1⟩;exact(h v S1 h1).1) (by rintro v S' ⟨S1,rfl,h1⟩;exact(h v S1 h1).2)
def Oq(fr:Fr)(S:A2)(P:Program)(n:Nat)(rs:List ResultVar)(v:Value):Prop:=∀A U a w fn,fn.results=rs.toArray->Ep n a fr->Ds A w (S++U)->(results fn a.tmps).run P w=.ok v w
def Yn(P:Program)(n:Nat)(rs:List ResultVar)(R:Ending->A2->Prop):EX where
 go:=fun
  | .normal,fr,S| .ret,fr,S=>∃v S' U,Oq fr S P n rs v/\DV S S' U/\R (.returned v) S'
  |_,_,_=>False
 Eu:=fun ch S=>∃S' U,DV S S' U/\R (.panicked ch) S'
theorem Ds.picks{S T V:A2}(h:Ds A w (S++V))(p:DV S T U):Ds A w (T++V):=(h.perm ((p.perm.append_right V).trans (by rw[AU];exact List.perm_append_comm_assoc T U V))).drops
def Jl:Nat->List Value->Fr
 |_,[]=>[]
 |k,v::r=>(k,v)::Jl (k+1) r
theorem Qf:∀(l:List Value) (k t:Nat) (v:Value),lk (Jl k l) t=some v->k<=t/\l[t-k]? =some v
 |[],k,t,v,h=>by simp[Jl,lk]at h
 |u::r,k,t,v,h=>by
  simp only[Jl,lk]at h;cases hq:Nat.beq k t with
  |true=>obtain rfl:=AK hq;rw[hq]at h;simpa using h
  |false=>rw[hq]at h;obtain⟨h1,h2⟩:=Qf r (k+1) t v h;refine⟨I,?_⟩;have:t-k=(t-(k+1))+1:=I;rw[this,DR];exact h2
theorem Fn.of{fn:Func}{c:Code}(hf:P.funcs[f]? =some fn)(hb:fn.body=some c)(hn:fn.ntmps=n)(rs:List ResultVar)(hr:fn.results=rs.toArray)
 (h:CW P n c (Yn P n rs R) (Jl 0 args) S):Fn P f args S R:=by
 intro A U w hs;refine calls_of_wp hf hb (wp_mono (h {A with inv:=fun a=>a.defers=[]} U _ w ⟨rfl,fun d v a _ h=>h⟩ ⟨?_,?_⟩ (hs.tQ _)) ?_)
 ·simp[hn];omega
 ·intro t v hv;obtain⟨_,h2⟩:=Qf args 0 t v hv;simp only[Df]at h2;have hlt:=(Ae.1 h2).1;rw[Array.getElem?_append_left (by simpa using hlt)];simpa using h2
 ·rintro e a w' ⟨hd,hh⟩;cases e with
  |normal=>obtain⟨fr',S',hk,hs',v,S1,U1,h1,h2,h3⟩:=hh;exact⟨hd,v,h1 _ U a w' fn hr hk hs',trivial,S1,(hs'.picks h2).On,h3⟩
  |ret=>obtain⟨fr',S',hk,hs',v,S1,U1,h1,h2,h3⟩:=hh;exact⟨hd,v,h1 _ U a w' fn hr hk hs',trivial,S1,(hs'.picks h2).On,h3⟩
  |panic ch=>obtain⟨S',hs',S1,U1,h2,h3⟩:=hh;exact⟨hd,trivial,S1,(hs'.picks h2).On,h3⟩
  |exit id=>obtain⟨_,_,_,_,hq⟩:=hh;exact hq.elim
  |goto l=>obtain⟨_,_,_,_,hq⟩:=hh;exact hq.elim
  |outgrown=>obtain⟨_,_,_,_,hq⟩:=hh;exact hq.elim
def RV(P:Program)(n:Nat)(fr:Fr)(S:A2)(r:ResultVar)(v:Value):Prop:=∀A U a w,Ep n a fr->Ds A w (S++U)->
 match r with
 | .tmp t=>a.tmps.getD t undef=v
 | .cell x t=>∃ad,a.tmps.getD x undef=.pointer (some ad)/\(loadVar t ad).run P w=.ok v w
theorem RV.tmp(h:lk fr t=some v):RV P n fr S (.tmp t) v:=fun A U a w hk hs=>by have:=hk.has t v h;simp[Av,this]
variable{bt:Nat}{kd:Kd}{sz:Nat}
theorem RV.D8(hT:Dp P T=true){x:Nat}{cs:List Value}(hx:lk fr x=some (Au b))(ht:T.get t=some ⟨kd,sz⟩)(ha:kd.agg=true)(hm:A7 b cs bt∈S)(hl:cs.length=sz):RV P n fr S (.cell x t) (.agg cs.toArray):=fun A U a w hk hs=>by
 obtain⟨ti,hi,hsz⟩:=Ny hT ht;have hc:=I1 (hs.mem hm)
 have hr:=run_loadCells_list (P:=P) (w:=w) ⟨b,0,none⟩ cs (fun j v hj=>by rw[DD,hc];simpa using hj)
 rw[hl]at hr;have:=hk.has x _ hx;exact⟨⟨b,0,none⟩,by simp[Av,this,Au],by simp[loadVar,Jk hT ht,ha,sizeOf,typeInfo,hi,hsz,hr]⟩
theorem RV.cell1(hT:Dp P T=true){x:Nat}{cs:List Value}(hx:lk fr x=some (Au b))(ht:T.get t=some ⟨kd,sz⟩)(ha:kd.agg=false)(hm:A7 b cs bt∈S)(hv:E1 cs 0=some v):RV P n fr S (.cell x t) v:=fun A U a w hk hs=>by have hc:=I1 (hs.mem hm) 0;rw[D5]at hv;rw[hv]at hc;have:=hk.has x _ hx;exact⟨⟨b,0,none⟩,by simp[Av,this,Au],by simp[loadVar,Jk hT ht,ha,hc]⟩
theorem res0:Oq fr S P n [] (.tuple #[]):=fun A U a w fn hr hk hs=>by simp[results,hr]
variable{r:ResultVar}
theorem RV.run(h:RV P n fr S r v){a:Act}(hk:Ep n a fr)(hs:Ds A w (S++U)):
 ((match r with| .tmp t=>pure (a.tmps.getD t undef)| .cell x t=>do loadVar t (<-asAddr (a.tmps.getD x undef))):Sem Value).run P w=.ok v w:=by
 have h1:=h A U a w hk hs;cases r with
 |tmp t=>simp only at h1;simp[h1]
 |cell x t=>obtain⟨ad,h2,h3⟩:=h1;simp only[h2,asAddr,Ag,BA,Ad,h3]
theorem DC(h:RV P n fr S r v):Oq fr S P n [r] v:=fun A U a w fn hr hk hs=>by
 have h1:=h A U a w hk hs;cases r with
 |tmp t=>simp_all [results]
 |cell x t=>obtain⟨ad,h2,h3⟩:=h1;simp_all [results,asAddr]
variable{u:Value}
theorem Fb{s:ResultVar}(h:RV P n fr S r u)(k:RV P n fr S s v):Oq fr S P n [r,s] (.tuple #[u,v]):=fun A U a w fn hr hk hs=>by
 have h1:=h A U a w hk hs;have h2:=k A U a w hk hs;cases r<;>cases s<;>simp only at h1 h2
 ·simp_all [results]
 ·obtain⟨ad,h3,h4⟩:=h2;simp_all [results,asAddr]
 ·obtain⟨ad,h3,h4⟩:=h1;simp_all [results,asAddr]
 ·obtain⟨ad,h3,h4⟩:=h1;obtain⟨ad',h5,h6⟩:=h2;simp_all [results,asAddr]
theorem UE{s t:ResultVar}{x:Value}(h:RV P n fr S r u)(k:RV P n fr S s v)(l:RV P n fr S t x):Oq fr S P n [r,s,t] (.tuple #[u,v,x]):=fun A U a w fn hr hk hs=>by
 have h1:=h A U a w hk hs;have h2:=k A U a w hk hs;have h3:=l A U a w hk hs;cases r<;>cases s<;>cases t<;>simp only at h1 h2 h3
 ·simp_all [results]
 ·obtain⟨ad,h5,h6⟩:=h3;simp_all [results,asAddr]
 ·obtain⟨ad,h5,h6⟩:=h2;simp_all [results,asAddr]
 ·obtain⟨ad,h5,h6⟩:=h2;obtain⟨ad',h7,h8⟩:=h3;simp_all [results,asAddr]
 ·obtain⟨ad,h5,h6⟩:=h1;simp_all [results,asAddr]
 ·obtain⟨ad,h5,h6⟩:=h1;obtain⟨ad',h7,h8⟩:=h3;simp_all [results,asAddr]
 ·obtain⟨ad,h5,h6⟩:=h1;obtain⟨ad',h7,h8⟩:=h2;simp_all [results,asAddr]
 ·obtain⟨ad,h5,h6⟩:=h1;obtain⟨ad',h7,h8⟩:=h2;obtain⟨aE1,h9,h10⟩:=h3;simp_all [results,asAddr]
end
def JK(An:List Oper)(o:Oper):Option (Nat×Bool):=
 match o.guard with
 |none=>none
 |some (j,b)=>match E1 An j with
  |some p=>match p.dst with
   |some d=>some (d,b)
   |none=>none
  |none=>none
theorem Zw(An:Array Oper)(o:Oper):Ib An o=JK An.toList o:=by
 unfold Ib JK;cases o.guard with
 |none=>rfl
 |some p=>
  obtain⟨j,b⟩:=p;simp only[D5,Array.getElem?_toList];cases An[j]? with
  |none=>rfl
  |some q=>cases hd:q.dst<;>simp[hd]
def Jf(An:List Oper)(i:Nat):FO:=match E1 An i with
 |some o=>⟨i,o,JK An o⟩
 |none=>⟨i,default,none⟩
theorem Jm(An:Array Oper)(i:Nat):DF An i=Jf An.toList i:=by
 unfold DF Jf;rw[D5,Array.getElem?_toList];cases An[i]? with
 |none=>rfl
 |some o=>simp only[Zw]
def He(An:List Oper):List Oper->Nat->List FO
 |[],_=>[]
 |o::r,k=>⟨k,o,JK An o⟩::He An r (k+1)
theorem PS(An:List Oper):∀(l:List Oper) (k:Nat),(∀j,l[j]? =An[k+j]?)->He An l k=(List.range' k l.length).map (Jf An)
 |[],k,_=>rfl
 |o::r,k,h=>by
  have h0:=h 0;simp only[Ci,CV]at h0;simp only[He,Bz,List.range'_succ,Ap];rw[PS An r (k+1) (fun j=>by have:=h (j+1);rw[DR]at this;rw[this];congr 1;omega)];congr 1
  unfold Jf;rw[D5,<-h0]
def E2(An:List Oper):List Nat->List FO
 |[]=>[]
 |i::r=>Jf An i::E2 An r
theorem G7(An:List Oper)(l:List Nat):E2 An l=l.map (Jf An):=by
 induction l with
 |nil=>rfl
 |cons i r ih=>rw[E2,ih];rfl
section
variable{P:Program} {T:Tr} {n:Nat} {K:Option A2} {Q:EX} {fr:Fr} {S:A2} {rest:List FO}
variable{i ty:Nat} {pos:String} {af:Array Edge} {gd g:Option (Nat×Bool)} {d:Nat}
def I2(An:List Oper):Bool:=An.all fun o=>match o.guard with
 |none=>true
 |some (j,_)=>match E1 An j with
  |some p=>p.dst.isSome
  |none=>false
theorem UF{An:Array Oper}(h:I2 An.toList=true):(List.range An.size).all (fun i=>FY An (DF An i))=true:=by
 rw[AY];intro i hi;have hi:i<An.size:=by simpa using hi
 have ho:=B6 hi;simp only[I2,AY]at h;have h1:=h An[i] DI;unfold FY DF;simp only[ho];cases hg:An[i].guard with
 |none=>simp[Ib,hg]
 |some p=>
  obtain⟨j,b⟩:=p;rw[hg]at h1;simp only[D5,Array.getElem?_toList]at h1;cases hj:An[j]? with
  |none=>rw[hj]at h1;cases h1
  |some q=>
   rw[hj]at h1;simp only at h1;cases hd:q.dst with
   |none=>rw[hd]at h1;cases h1
   |some e=>simp[Ib,hg,hj,hd]
variable{id:Nat}
theorem CW.reg{An:List Oper}(hgd:I2 An=true)(h:DL P n none Q (He An An 0) fr S):CW P n (.region id An.toArray false) Q fr S:=by
 refine CW.region (UF (by simpa using hgd)) ?_;rw[PS An An 0 (fun j=>by rw[BM])]at h;have e:(fun i=>DF An.toArray i)=Jf An:=funext fun i=>by rw[Jm]
 simpa[e,List.range_eq_range']using h
variable{U:A2}
theorem CW.dr{An:List Oper}{zero:Nat->Option Value}(order:List Nat)(K:A2)(hm:P.follows .mixedOrders=true)(hz:∀t v,zero t=some v->(P.info? t).bind (·.zero)=some v)
 (hc:(HN An.toArray order&&FT An.toArray&&HO zero n An.toArray)=true) (hp:DV S K U) (h:DL P n (some K) Q (E2 An order) fr S):CW P n (.region id An.toArray true) Q fr S:=by
 refine CW.drawn order hm hz hc hp ?_;rw[G7]at h;have e:DF An.toArray=Jf An:=funext fun i=>by rw[Jm]
 rw[e];exact h
theorem DL.done(h:Q.go .normal fr S):DL P n K Q [] fr S:=.nil h (Eo.refl _) (.refl _)
variable{y:Operand}{k:IntKind}{z:Int}{sz:Nat}
theorem Zx(hT:Dp P T=true){t b off len cap e CU j:Nat}(ho:o.op=.indexAddr t x y)(ht:T.get t=some ⟨.sl e CU,sz⟩)(hx:Eg fr x=some (.slice (some ⟨b,off,none⟩) len cap))(hy:Eg fr y=some (.int k z))
 (hz:z=(j:Int)) (hj:j<len):FV P n o fr S (.pointer (some ⟨b,off+j*CU,none⟩)):=by
 intro A R a w hk hs;obtain⟨hu,i,hi,hsz⟩:=Et hT ht J;subst hz;have h1:(0:Int)<=j/\(j:Int)<len:=⟨I,I⟩
 simp only[execOp,ho,hk.eval hx,hk.eval hy,Instr.indexAt,asIntOf,Ac hu,Ag,BA,Ad,h1,and_self,C9,Sem.run_ite,sizeOf,typeInfo,run_program,hi,hsz,Int.toNat_natCast,DD]
theorem Zy(hT:Dp P T=true){t b off m e CU j:Nat}(ho:o.op=.indexAddr t x y)(ht:T.get t=some ⟨.arr m e CU,sz⟩)(hx:Eg fr x=some (.pointer (some ⟨b,off,none⟩)))(hy:Eg fr y=some (.int k z))
 (hz:z=(j:Int)) (hj:j<m):FV P n o fr S (.pointer (some ⟨b,off+j*CU,none⟩)):=by
 intro A R a w hk hs;obtain⟨hu,i,hi,hsz⟩:=KR hT ht J;subst hz;have h1:(0:Int)<=j/\(j:Int)<m:=⟨I,I⟩
 simp only[execOp,ho,hk.eval hx,hk.eval hy,Instr.indexAt,asIntOf,Ac hu,Ag,BA,Ad,h1,and_self,C9,Sem.run_ite,sizeOf,typeInfo,run_program,hi,hsz,Int.toNat_natCast,DD,Instr.sureAddr]
theorem DL.C3(hT:Dp P T=true){t b off len cap e CU:Nat}(j:Nat)(hg:lg fr g=some true)(hn:Nat.blt d n=true)(ht:T.get t=some ⟨.sl e CU,sz⟩)(hx:Eg fr x=some (.slice (some ⟨b,off,none⟩) len cap))(hy:Eg fr y=some (.int k z))
 (hz:z=(j:Int)) (hj:j<len) (h:DL P n K Q rest ((d,.pointer (some ⟨b,off+j*CU,none⟩))::fr) S):DL P n K Q (⟨i,⟨some d,.indexAddr t x y,ty,pos,af,gd⟩,g⟩::rest) fr S:=
 DL.val J hg J hn (Zx hT J ht hx hy hz hj) h
theorem DL.Fg(hT:Dp P T=true){t b off m e CU:Nat}(j:Nat)(hg:lg fr g=some true)(hn:Nat.blt d n=true)(ht:T.get t=some ⟨.arr m e CU,sz⟩)(hx:Eg fr x=some (.pointer (some ⟨b,off,none⟩)))(hy:Eg fr y=some (.int k z))
 (hz:z=(j:Int)) (hj:j<m) (h:DL P n K Q rest ((d,.pointer (some ⟨b,off+j*CU,none⟩))::fr) S):DL P n K Q (⟨i,⟨some d,.indexAddr t x y,ty,pos,af,gd⟩,g⟩::rest) fr S:=
 DL.val J hg J hn (Zy hT J ht hx hy hz hj) h
def F6(pl:Nat->Option (Nat×Nat)):List Value->List (Nat×List Value)->Option (List Value)
 |cs,[]=>some cs
 |cs,(i,vs)::r=>match pl i with
  |none=>none
  |some (off,sz)=>bif Nat.beq vs.length sz&&Nat.ble (off+sz) cs.length then F6 pl (cs.take off++vs++cs.drop (off+sz)) r else none
def Kd.place:Kd->Nat->Option (Nat×Nat)
 | .st fs,i=>E1 fs i
 | .arr _ _ s,i=>some (i*s,s)
 |_,_=>none
def Ic(fr:Fr):List (Nat×Operand)->Option (List (Nat×List Value))
 |[]=>some []
 |(i,x)::r=>match Eg fr x with
  |some v=>match Ic fr r with
   |some vs=>some ((i,v.cells.toList)::vs)
   |none=>none
  |none=>none
theorem IQ:∀(vs:List Value) (cs:Array Value) (off k:Nat),off+k+vs.length<=cs.size->(vs.zipIdx k).foldl (fun(cs:Array Value) (p:Value×Nat)=>cs.setIfInBounds (off+p.2) p.1) cs=(cs.toList.take (off+k)++vs++cs.toList.drop (off+k+vs.length)).toArray
 |[],cs,off,k,h=>by simp
 |v::vs,cs,off,k,h=>by
  simp only[List.zipIdx_cons,List.foldl_cons];simp only[Bz]at h;rw[IQ vs _ off (k+1) (by simp;omega)];apply congrArg;have hlt:off+k<cs.toList.length:=by simp;omega
  simp only[Array.toList_setIfInBounds];have:=list_seg_step cs.toList (off+k) v vs (by simp;omega);rw[show off+(k+1)=off+k+1 by omega,Bz];exact this
theorem NN(pl:Nat->Option (Nat×Nat)):∀(ps:List (Nat×Value)) (cs:List Value) (rs:List Value),F6 pl cs (ps.map fun p=>(p.1,p.2.cells.toList))=some rs->Instr.fill pl cs.toArray ps=some rs.toArray
 |[],cs,rs,h=>by simp[F6]at h;simp[Instr.fill,h]
 |(i,v)::r,cs,rs,h=>by
  simp only[Ap,F6]at h;split at h
  ·cases h
  ·rename_i off sz hpl;cases hb:Nat.beq v.cells.toList.length sz&&Nat.ble (off+sz) cs.length with
   |false=>rw[hb]at h;cases h
   |true=>
    rw[hb]at h;simp only[AN]at h;simp only[AI]at hb;have h1:=AK hb.1;have h2:=AL hb.2;simp only[Dt]at h1;simp only[Instr.fill,hpl];have:¬(v.cells.size≠sz\/off+v.cells.size>cs.toArray.size):=by simp;omega
    rw[Ah (by simpa using this)];have e:=IQ v.cells.toList cs.toArray off 0 (by simp;omega);rw[<-Array.foldl_toList];simp only[Array.toList_zipIdx];rw[e];simp only[CV,Dt,h1];exact NN pl r _ rs h
end
inductive In (c:List CH):A2->Prop
 |here {S:A2}:In c (c::S)
 |there {x:List CH} {S:A2} (h:In c S):In c (x::S)
theorem In.mem{c:List CH}(h:In c S):c∈S:=by
 induction h with
 |here=>exact BH
 |there _ ih=>exact Aw _ ih
section
variable{P:Program} {T:Tr} {n:Nat} {K:Option A2} {Q:EX} {fr:Fr} {S K0:A2} {rest:List FO} {nx:Fr->A2->Prop}
variable{i ty:Nat} {pos:String} {af:Array Edge} {gd g:Option (Nat×Bool)} {d:Nat}
theorem KU(h:nx fr S):(IL nx Q).go .normal fr S:=h
variable{id:Nat}
theorem Jn(h:Q.go (.exit id) fr S):(IL nx Q).go (.exit id) fr S:=h
theorem KV(h:Q.go .ret fr S):(IL nx Q).go .ret fr S:=h
theorem H7(h:Q.go .normal fr S):(QZ id Q).go .normal fr S:=h
theorem Jo(h:Q.go .ret fr S):(QZ id Q).go .ret fr S:=h
theorem Hr(h:Q.go .normal fr S):(QZ id Q).go (.exit id) fr S:=by show(if id=id then Q.go .normal fr S else Q.go (.exit id) fr S);rw[BE J];exact h
theorem DL.next(h:nx fr S):DL P n K (IL nx Q) [] fr S:=.nil h (Eo.refl _) (.refl _)
variable{F U:A2}
theorem Gx{rs:List ResultVar}(h:Oq fr S P n rs v)(p:DV S F U):(Yn P n rs (E4 v F)).go .ret fr S:=⟨v,F,U,h,p,rfl,rfl⟩
variable{kd:Kd}{sz:Nat}
theorem DL.ld1(hT:Dp P T=true){t b off bt:Nat}{cs:List Value}(hg:lg fr g=some true)(hn:Nat.blt d n=true)(ht:T.get t=some ⟨kd,sz⟩)(ha:kd.agg=false)
 (hx:Eg fr x=some (.pointer (some ⟨b,off,none⟩))) (hm:In (A7 b cs bt) S) (hv:E1 cs off=some v) (h:DL P n none Q rest ((d,v)::fr) S):DL P n none Q (⟨i,⟨some d,.load t x,ty,pos,af,gd⟩,g⟩::rest) fr S:=
 DL.VZ hT hg hn ht ha hx hm.mem hv h
theorem DL.G8(hT:Dp P T=true){t b off bt:Nat}{cs:List Value}(hg:lg fr g=some true)(hn:Nat.blt d n=true)(ht:T.get t=some ⟨kd,sz⟩)(ha:kd.agg=false)
 (hx:Eg fr x=some (.pointer (some ⟨b,off,none⟩))) (hm:In (A7 b cs bt) K0) (hv:E1 cs off=some v) (h:DL P n (some K0) Q rest ((d,v)::fr) S):DL P n (some K0) Q (⟨i,⟨some d,.load t x,ty,pos,af,gd⟩,g⟩::rest) fr S:=
 DL.VZ hT hg hn ht ha hx hm.mem hv h
variable{bt:Nat}
theorem DL.LJ(hT:Dp P T=true){cs:List Value}(hg:lg fr g=some true)(hn:Nat.blt d n=true)(ht:T.get t=some ⟨kd,sz⟩)(ha:kd.agg=true)
 (hx:Eg fr x=some (.pointer (some ⟨b,0,none⟩))) (hm:In (A7 b cs bt) S) (hl:cs.length=sz) (h:DL P n none Q rest ((d,.agg cs.toArray)::fr) S):DL P n none Q (⟨i,⟨some d,.load t x,ty,pos,af,gd⟩,g⟩::rest) fr S:=
 DL.rL hT hg hn ht ha hx hm.mem hl h
theorem DL.GG(hT:Dp P T=true){cs:List Value}(hg:lg fr g=some true)(hn:Nat.blt d n=true)(ht:T.get t=some ⟨kd,sz⟩)(ha:kd.agg=true)
 (hx:Eg fr x=some (.pointer (some ⟨b,0,none⟩))) (hm:In (A7 b cs bt) K0) (hl:cs.length=sz) (h:DL P n (some K0) Q rest ((d,.agg cs.toArray)::fr) S):DL P n (some K0) Q (⟨i,⟨some d,.load t x,ty,pos,af,gd⟩,g⟩::rest) fr S:=
 DL.rL hT hg hn ht ha hx hm.mem hl h
theorem DL.df(hT:Dp P T=true){t b off bt:Nat}{cs vs:List Value}(hg:lg fr g=some true)(hn:Nat.blt d n=true)(ht:T.get t=some ⟨kd,sz⟩)(ha:kd.agg=true)
 (hx:Eg fr x=some (.pointer (some ⟨b,off,none⟩))) (hm:In (A7 b cs bt) S) (hv:(cs.drop off).take sz=vs) (hl:vs.length=sz) (h:DL P n none Q rest ((d,.agg vs.toArray)::fr) S):DL P n none Q (⟨i,⟨some d,.load t x,ty,pos,af,gd⟩,g⟩::rest) fr S:=
 DL.HQ hT hg hn ht ha hx hm.mem hv hl h
theorem DL.zP(hT:Dp P T=true){t b off bt:Nat}{cs vs:List Value}(hg:lg fr g=some true)(hn:Nat.blt d n=true)(ht:T.get t=some ⟨kd,sz⟩)(ha:kd.agg=true)
 (hx:Eg fr x=some (.pointer (some ⟨b,off,none⟩))) (hm:In (A7 b cs bt) K0) (hv:(cs.drop off).take sz=vs) (hl:vs.length=sz) (h:DL P n (some K0) Q rest ((d,.agg vs.toArray)::fr) S):DL P n (some K0) Q (⟨i,⟨some d,.load t x,ty,pos,af,gd⟩,g⟩::rest) fr S:=
 DL.HQ hT hg hn ht ha hx hm.mem hv hl h
theorem D9:Ge none S:=trivial
theorem Du(h:DV S K0 U):Ge (some K0) S:=⟨U,h.perm⟩
theorem CW.Gp{p:Prop}[Decidable p]{c:Operand}{x y:Code}(hc:Eg fr c=some (.bool (decide p)))(hp:p)(h:CW P n x Q fr S):CW P n (.cond c x y) Q fr S:=CW.Qa (by rw[hc,Bq hp]) h
theorem CW.GM{p:Prop}[Decidable p]{c:Operand}{x y:Code}(hc:Eg fr c=some (.bool (decide p)))(hp:¬p)(h:CW P n y Q fr S):CW P n (.cond c x y) Q fr S:=CW.Qb (by rw[hc,BW hp]) h
variable{zs rs:List Value}
theorem Qg(hT:Dp P T=true){i:TI}{ps:List (Nat×Value)}(ht:T.get t=some i)(hz:(P.info? t).bind (·.zero)=some (.agg zs.toArray))(ha:i.kd.agg=true)(hf:F6 i.kd.place zs (ps.map fun p=>(p.1,p.2.cells.toList))=some rs):
 P.built t ps=some rs.toArray:=by
 obtain⟨it,hi,hzz⟩:=Option.bind_eq_some_iff.1 hz;cases hk:i.kd with
 |st fs=>
  obtain⟨fs',hu,ho,hin⟩:=UC hT ht hk;have hm:fs'.toList.mapM (fun f=>(P.info? f.type).map fun i=>(f.offset,i.size))=some fs:=by
   clear hu;generalize fs'.toList=l at*
   clear hk hf ha ht;induction l generalizing fs with
   |nil=>cases fs with
    |nil=>rfl
    |cons _ _=>simp at ho
   |cons f r ih=>cases fs with
    |nil=>simp at ho
    |cons q qs=>simp only[Ap,D1]at ho;have h1:=hin (f,q) DI;obtain⟨x,hx,hxs⟩:=Gi h1;have h2:=ih (fs:=qs) ho.2 (fun p hp=>hin p (by simp[hp]));simp only[List.mapM_cons,hx,CZ,h2,Option.bind_eq_bind,Option.bind_some,Option.pure_def];simp only at hxs;rw[hxs,ho.1]
  simp only[Program.built,hi,hu,hzz,hm];rw[hk]at hf;have:=NN (Kd.st fs).place ps zs rs hf;rw[<-this];congr 1
  funext j;simp[Kd.place,D5]
 |arr m e s=>obtain⟨hu,x,hx,hxs⟩:=KR hT ht hk;simp only[Program.built,hi,hu,hzz,hx];rw[hk]at hf;have:=NN (Kd.arr m e s).place ps zs rs hf;rw[<-this,hxs];rfl
 |_=>rw[hk]at ha;cases ha
theorem KW{a:Act}(h:Ep n a fr):∀{l:List (Nat×Operand)} {ps:List (Nat×List Value)},Ic fr l=some ps->(l.map fun p=>(p.1,a.eval p.2)).map (fun p=>(p.1,p.2.cells.toList))=ps
 |[],ps,hl=>by simp[Ic]at hl;subst hl;rfl
 |(i,x)::r,ps,hl=>by
  simp only[Ic]at hl;split at hl
  ·rename_i v hv;split at hl
   ·rename_i us hu;simp at hl;subst hl;simp only[Ap,h.eval hv,KW h hu]
   ·cases hl
  ·cases hl
variable{ti:TI}
theorem DL.build{zero:Nat->Option Value}(hz:∀t v,zero t=some v->(P.info? t).bind (·.zero)=some v)(hT:Dp P T=true){parts:List (Nat×Operand)}{ps:List (Nat×List Value)}(hg:lg fr g=some true)(hn:Nat.blt d n=true)(ht:T.get t=some ti)(ha:ti.kd.agg=true)(hzs:zero t=some (.agg zs.toArray))
 (hp:Ic fr parts=some ps) (hf:F6 ti.kd.place zs ps=some rs) (h:DL P n K Q rest ((d,.agg rs.toArray)::fr) S):DL P n K Q (⟨i,⟨some d,.build t parts.toArray,ty,pos,af,gd⟩,g⟩::rest) fr S:=by
 refine DL.val J hg J hn (fun A R a w hk hs=> ?_) h;have he:=KW hk hp;have hb:=Qg hT (ps:=parts.map fun p=>(p.1,a.eval p.2)) ht (hz t _ hzs) ha (by rw[he];exact hf);have:=run_build (P:=P) w t (parts.map fun p=>(p.1,a.eval p.2)).toArray rs.toArray (by simpa using hb);simp only[execOp,List.map_toArray,Ag];rw[this];rfl
theorem DL.Qh{zero:Nat->Option Value}(hz:∀t v,zero t=some v->(P.info? t).bind (·.zero)=some v)(hT:Dp P T=true)(hg:lg fr g=some true)(hn:Nat.blt d n=true)(ht:T.get t=some ti)(ha:ti.kd.agg=true)(hzs:zero t=some (.agg zs.toArray))(h:DL P n K Q rest ((d,.agg zs.toArray)::fr) S):
 DL P n K Q (⟨i,⟨some d,.build t #[],ty,pos,af,gd⟩,g⟩::rest) fr S:=
 DL.build (parts:=[]) hz hT hg hn ht ha hzs J J h
end
end
end Go.Proofs.YtfekkjbdcdnhlaaGreatDoor.Sep
