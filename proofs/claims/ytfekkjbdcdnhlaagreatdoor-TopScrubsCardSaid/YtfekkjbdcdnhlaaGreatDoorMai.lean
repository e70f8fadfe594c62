/- Lemmas for TopScrubs. No condition but those that each states. -/
import Derived.Test.YtfekkjbdcdnhlaaGreatDoorMah
set_option linter.all false
set_option maxHeartbeats 8000000
set_option maxRecDepth 100000
namespace Go.Proofs.YtfekkjbdcdnhlaaGreatDoor.Sep
noncomputable section
theorem In.of{c:List CH}{S:A2}(h:c∈S):In c S:=by
 induction S with
 |nil=>cases h
 |cons x S ih=>
  rcases Ab.1 h with rfl|h
  ·exact .here
  ·exact .there (ih h)
variable{α:Type}{l m:List α}{n:Nat}
theorem fH{a:α}(h:E1 l n=some a):E1 (l++m) n=some a:=by rw[D5]at h⊢;rw[BG (Ae.1 h).1];exact h
theorem Gk{off n:Nat}(h:((l.drop off).take n).length=n):((l++m).drop off).take n=(l.drop off).take n:=by
 simp only[BP,B9]at h;by_cases h0:n=0
 ·subst h0;simp
 ·rw[DT I,Ar (by simp;omega)]
def AB.cs:AB->Option (List AV)
 | .cells l _=>some l
 | .grown l _ _=>some l
 |_=>none
variable{ρ:Nm}
theorem Da.cs{RS:EA}{k:Nat}{ab:AB}{c:List CH}(h:Da RS ρ k ab c){l:List AV}(hl:ab.cs=some l):∃b cap vs ex t,ρ[k]? =some (b,cap)/\Bt ρ l vs/\c=A7 b (vs++ex) t:=by
 cases h with
 | @cells _ t _ _ vs h1 h2=>simp only[AB.cs,AH]at hl;subst hl;exact⟨_,_,vs,[],t,h1,h2,by simp⟩
 |grown h1 h2 h3=>simp only[AB.cs,AH]at hl;subst hl;exact⟨_,_,_,_,_,h1,h2,rfl⟩
 |_=>simp[AB.cs]at hl
def Is:Value->AV
 | .agg cs=>.agg (cs.toList.map Jy)
 |v=>Jy v
theorem Kt(v:Value):EM ρ (Is v) v:=by
 have hl:∀l:List Value,Bt ρ (l.map Jy) l:=fun l=>by
  induction l with
  |nil=>exact .nil
  |cons v l ih=>exact .cons (KA v) ih
 cases v with
 |agg cs=>exact .agg (hl cs.toList)
 |_=>simp only[Is];exact KA _
def VU:AV->Option Nat
 | .int _ (.ofNat a) (.ofNat b)=>bif Nat.beq a b then some a else none
 |_=>none
variable{a:AV}{v:Value}
theorem Iu(h:VU a=some n)(hv:EM ρ a v):∃k,v=.int k (n:Int):=by
 unfold VU at h;split at h
 ·rename_i k a b;cases hb:Nat.beq a b with
  |false=>rw[hb]at h;cases h
  |true=>
   rw[hb]at h;simp only[AN,AH]at h;subst h;obtain rfl:=AK hb;cases hv with| @int _ _ _ z h1 h2=>
   refine⟨k,?_⟩;have e1:(Int.ofNat a)=(a:Int):=rfl;rw[e1]at h1 h2;obtain rfl:z=(a:Int):=I;rfl
 ·cases h
def nJ:Kd->Value->Value->Option Bool
 | .int q,.int k x,.int k' y=>bif I9 k k'&&I9 q k then some (decide (x=y))else none
 | .bool,.bool x,.bool y=>some (decide (x=y))
 | .str,.string x,.string y=>some (x.toList==y.toList)
 |_,_,_=>none
def Jz:List Kd->List Value->List Value->Option Bool
 |[],[],[]=>some true
 |q::qs,x::xs,y::ys=>match nJ q x y with
  |some b=>match Jz qs xs ys with
   |some c=>some (b&&c)
   |none=>none
  |none=>none
 |_,_,_=>none
structure Vl (P:Program) (u:Nat) (ls:List Kd):Prop where
 eq:∀(xs ys:List Value) (b:Bool) (w:World),Jz ls xs ys=some b->(Op.equalIn 10000 u (.agg xs.toArray) (.agg ys.toArray)).run P w=.ok b w
 guard:∀(op:BinOp) (x y:Operand) (xs ys:Array Value) (w:World),(eqGuard op u x y (.agg xs) (.agg ys)).run P w=.ok () w
def eqA:Kd->AV->AV->Option AV
 | .int q,.int k l h,.int k' l' h'=>bif I9 k k'&&I9 q k then some (tst (FN l h&&FN l' h'&&FN l l') (JM h l'||JM h' l))else none
 | .bool,.boo (some x),.boo (some y)=>some (.boo (some (x==y)))
 | .bool,.boo _,.boo _=>some (.boo none)
 | .str,.val (.string x),.val (.string y)=>some (.boo (some (x.data.toList==y.data.toList)))
 |_,_,_=>none
def uJ:AV->AV->AV
 | .boo (some false),_=>.boo (some false)
 |_,.boo (some false)=>.boo (some false)
 | .boo (some true),.boo (some true)=>.boo (some true)
 |_,_=>.boo none
def SV:List Kd->List AV->List AV->Option AV
 |[],[],[]=>some (.boo (some true))
 |q::qs,x::xs,y::ys=>match eqA q x y with
  |some b=>match SV qs xs ys with
   |some c=>some (uJ b c)
   |none=>none
  |none=>none
 |_,_,_=>none
variable{b:AV}
theorem uK{q:Kd}{r:AV}(h:eqA q a b=some r){x y:Value}(hx:EM ρ a x)(hy:EM ρ b y):∃t,nJ q x y=some t/\EM ρ r (.bool t):=by
 unfold eqA at h;split at h
 ·cases hx with|int a1 a2=>cases hy with|int b1 b2=>
  rename_i q k l hh k' l' h' z z';cases hk:I9 k k'&&I9 q k<;>simp only[hk,AO,AN,reduceCtorEq,AH]at h;simp only[AI]at hk;obtain rfl:=Fz hk.1;obtain rfl:=Fz hk.2;subst h;refine⟨_,by simp only[nJ,Fh,zm,Bool.and_self,AN];rfl,eu (fun hh=> ?_) (fun hh=> ?_)⟩<;>simp only[AI,BI,EO,HH,FU]at hh<;>omega
 ·simp only[AH]at h;subst h;cases hx;cases hy;rename_i x y;exact⟨_,rfl,by cases x<;>cases y<;>exact .boo⟩
 ·simp only[AH]at h;subst h;cases hx<;>cases hy<;>exact⟨_,rfl,.Jh⟩
 ·simp only[AH]at h;subst h;cases hx;cases hy;exact⟨_,rfl,by rw[rT];exact .boo⟩
 ·cases h
theorem oG{x y:Bool}(hx:EM ρ a (.bool x))(hy:EM ρ b (.bool y)):EM ρ (uJ a b) (.bool (x&&y)):=by
 unfold uJ;split
 ·cases hx;exact .boo
 ·cases hy;rw[Bool.and_false];exact .boo
 ·cases hx;cases hy;exact .boo
 ·exact .Jh
theorem QJ{ρ:Nm}:∀{ls:List Kd} {AA bs:List AV} {r:AV} {xs ys:List Value},SV ls AA bs=some r->Bt ρ AA xs->Bt ρ bs ys->∃t,Jz ls xs ys=some t/\EM ρ r (.bool t)
 |[],[],[],r,_,_,h,.nil,.nil=>by simp only[SV,AH]at h;subst h;exact⟨true,rfl,.boo⟩
 |q::qs,a::AA,b::bs,r,_,_,h,.cons hx kx,.cons hy ky=>by
  simp only[SV]at h;split at h
  ·rename_i r1 h1;split at h
   ·rename_i r2 h2;simp only[AH]at h;subst h;obtain⟨t1,e1,c1⟩:=uK h1 hx hy;obtain⟨t2,e2,c2⟩:=QJ h2 kx ky;exact⟨t1&&t2,by simp only[Jz,e1,e2],oG c1 c2⟩
   ·cases h
  ·cases h
 |[],_::_,_,_,_,_,h,_,_=>by simp[SV]at h
 |[],[],_::_,_,_,_,h,_,_=>by simp[SV]at h
 |_::_,[],_,_,_,_,h,_,_=>by simp[SV]at h
 |_::_,_::_,[],_,_,_,h,_,_=>by simp[SV]at h
def GU:AV->List AV
 | .agg l=>l
 | .val (.agg cs)=>cs.toList.map Jy
 |v=>[v]
def Ku(t:C7 AV):List (Nat×Operand)->Option (List (Nat×List AV))
 |[]=>some []
 |(i,x)::r=>match ao t x with
  |some v=>match Ku t r with
   |some vs=>some ((i,GU v)::vs)
   |none=>none
  |none=>none
def Vm(pl:Nat->Option (Nat×Nat)):List AV->List (Nat×List AV)->Option (List AV)
 |cs,[]=>some cs
 |cs,(i,vs)::r=>match pl i with
  |none=>none
  |some (off,sz)=>bif Nat.beq vs.length sz&&Nat.ble (off+sz) cs.length&&Nat.ble 1 sz then Vm pl (cs.take off++vs++cs.drop (off+sz)) r else none
inductive MN (ρ:Nm):List (Nat×List AV)->List (Nat×List Value)->Prop
 |nil:MN ρ [] []
 |cons {i:Nat} {a:List AV} {v:List Value} {AA:List (Nat×List AV)} {vs:List (Nat×List Value)} (h:Bt ρ a v) (k:MN ρ AA vs):MN ρ ((i,a)::AA) ((i,v)::vs)
theorem JB(h:EM ρ a v):Bt ρ (GU a) v.cells.toList:=by
 cases h with
 |agg h=>exact h
 | @junk v h=>
  skip
  cases v<;>first|exact .cons (.junk h) .nil|cases h
 | @val v=>
  cases v with
  |agg cs=>
   skip
   have hl:∀l:List Value,Bt ρ (l.map Jy) l:=fun l=>by
    induction l with
    |nil=>exact .nil
    |cons v l ih=>exact .cons (KA v) ih
   exact hl cs.toList
  |_=>exact .cons .val .nil
 |int h1 h2=>exact .cons (.int h1 h2) .nil
 |boo=>exact .cons .boo .nil
 |Jh=>exact .cons .Jh .nil
 |Au h=>exact .cons (.Au h) .nil
 |sl h=>exact .cons (.sl h) .nil
 |G3 h hc=>exact .cons (.G3 h hc) .nil
 |O3 h ho hc=>exact .cons (.O3 h ho hc) .nil
 |idx h h0 h1=>exact .cons (.idx h h0 h1) .nil
 |cnt h h1 h2=>exact .cons (.cnt h h1 h2) .nil
 |rR h h1=>exact .cons (.rR h h1) .nil
 |pin h h0 h1=>exact .cons (.pin h h0 h1) .nil
 |dh h hj=>exact .cons (.dh h hj) .nil
 |GY h hb hv=>
  rcases hv with⟨rfl,rfl,h0⟩|⟨h0,off,len,cap,rfl,h3⟩
  ·exact .cons (.GY h hb (.inl ⟨rfl,rfl,h0⟩)) .nil
  ·exact .cons (.GY h hb (.inr ⟨h0,off,len,cap,rfl,h3⟩)) .nil
 |mp h=>exact .cons (.mp h) .nil
 |fn h k=>exact .cons (.fn h k) .nil
 |LU h=>exact .cons (.LU h) .nil
 |Ec h=>exact .cons (.Ec h) .nil
theorem NY{ρ:Nm}{t:C7 AV}{fr:Fr}(hF:Kr ρ t fr):∀{l:List (Nat×Operand)} {AA:List (Nat×List AV)},Ku t l=some AA->∃vs,Ic fr l=some vs/\MN ρ AA vs
 |[],AA,e=>by simp[Ku]at e;subst e;exact⟨[],rfl,.nil⟩
 |(i,x)::r,AA,e=>by
  simp only[Ku]at e;split at e
  ·rename_i a ha;split at e
   ·rename_i l hl;simp only[AH]at e;subst e;obtain⟨v,h1,h2⟩:=DG hF ha;obtain⟨vs,h3,h4⟩:=NY hF hl;exact⟨(i,v.cells.toList)::vs,by simp[Ic,h1,h3],.cons (JB h2) h4⟩
   ·cases e
  ·cases e
theorem Vn{ρ:Nm}{pl:Nat->Option (Nat×Nat)}:∀{AA:List (Nat×List AV)} {vs:List (Nat×List Value)} {cs rs:List AV} {zs:List Value},Vm pl cs AA=some rs->MN ρ AA vs->Bt ρ cs zs->∃us,F6 pl zs vs=some us/\Bt ρ rs us
 |[],_,cs,rs,zs,h,.nil,hz=>by simp only[Vm,AH]at h;subst h;exact⟨zs,rfl,hz⟩
 |(i,a)::AA,_,cs,rs,zs,h,.cons (v:=v) h2 h3,hz=>by
  simp only[Vm]at h;split at h
  ·cases h
  ·rename_i off sz hpl;cases hb:Nat.beq a.length sz&&Nat.ble (off+sz) cs.length&&Nat.ble 1 sz with
   |false=>rw[hb]at h;cases h
   |true=>
    rw[hb]at h;simp only[AN]at h;simp only[AI]at hb;have e1:=AK hb.1.1;have e2:=AL hb.1.2;have e3:=AL hb.2;have hl:=h2.len;obtain⟨us,h4,h5⟩:=Vn h h3 (((hz.take off).app h2).app (hz.drop (off+sz)));refine⟨us,?_,h5⟩;simp only[F6,hpl];have:(Nat.beq v.length sz&&Nat.ble (off+sz) zs.length)=true:=by rw[hl,e1,hz.len];simp[e2]
    rw[this];exact h4
def TJ(t:C7 AV):Option Operand->Option (Option Nat)
 |none=>some none
 |some x=>match ao t x with
  |some a=>match VU a with
   |some n=>some (some n)
   |none=>none
  |none=>none
def Yv(fr:Fr)(x:Option Operand):Option Nat->Prop
 |none=>F7 fr x=some none
 |some n=>∃k,F7 fr x=some (some (.int k (n:Int)))
variable{t:C7 AV}{fr:Fr}
theorem Qz(hF:Kr ρ t fr){x:Option Operand}{r:Option Nat}(h:TJ t x=some r):Yv fr x r:=by
 cases x with
 |none=>simp only[TJ,AH]at h;subst h;rfl
 |some x=>
  simp only[TJ]at h;split at h
  ·rename_i a ha;split at h
   ·rename_i n hn;simp only[AH]at h;subst h;obtain⟨v,h1,h2⟩:=DG hF ha;obtain⟨k,rfl⟩:=Iu hn h2;exact⟨k,by simp[F7,h1]⟩
   ·cases h
  ·cases h
def XW(len cap:Nat):Option Nat->Option Nat->Option Nat->Option (Nat×Nat×Nat)
 |none,none,none=>some (0,len,cap)
 |some l,none,none=>bif Nat.ble l len then some (l,len,cap)else none
 |none,some m,none=>bif Nat.ble m cap then some (0,m,cap)else none
 |some l,some m,none=>bif Nat.ble l m&&Nat.ble m cap then some (l,m,cap)else none
 |none,some m,some c=>bif Nat.ble m c&&Nat.ble c cap then some (0,m,c)else none
 |_,_,_=>none
theorem NZ{isS:Bool}{len cap:Nat}(hlc:len<=cap){lo hi mx:Option Operand}{SQ SG Qi:Option Nat}{l m c:Nat}(h:XW len cap SQ SG Qi=some (l,m,c))
 (hlo:Yv fr lo SQ) (hhi:Yv fr hi SG) (hmx:Yv fr mx Qi):∃a b d,F7 fr lo=some a/\F7 fr hi=some b/\F7 fr mx=some d/\Bd isS len cap a b d l m c/\l<=m/\m<=c:=by
 cases SQ with
 |none=>cases SG with
  |none=>cases Qi with
   |none=>simp only[XW,AH,Af]at h;obtain⟨rfl,rfl,rfl⟩:=h;exact⟨none,none,none,hlo,hhi,hmx,.all,I,hlc⟩
   |some z=>simp[XW]at h
  |some y=>cases Qi with
   |none=>simp only[XW]at h;cases hb:Nat.ble y cap<;>rw[hb]at h<;>simp only[AN,AO,reduceCtorEq,AH,Af]at h;obtain⟨rfl,rfl,rfl⟩:=h;obtain⟨k,hk⟩:=hhi;have:=AL hb;exact⟨none,_,none,hlo,hk,hmx,.hi J this,I,this⟩
   |some z=>simp only[XW]at h;cases hb:Nat.ble y z&&Nat.ble z cap<;>rw[hb]at h<;>simp only[AN,AO,reduceCtorEq,AH,Af]at h;obtain⟨rfl,rfl,rfl⟩:=h;obtain⟨k,hk⟩:=hhi;obtain⟨k',hk'⟩:=hmx;simp only[AI]at hb;exact⟨none,_,_,hlo,hk,hk',.Lc J J (AL hb.1) (AL hb.2),I,AL hb.1⟩
 |some x=>cases SG with
  |none=>cases Qi with
   |none=>simp only[XW]at h;cases hb:Nat.ble x len<;>rw[hb]at h<;>simp only[AN,AO,reduceCtorEq,AH,Af]at h;obtain⟨rfl,rfl,rfl⟩:=h;obtain⟨k,hk⟩:=hlo;have:=AL hb;exact⟨_,none,none,hk,hhi,hmx,.lo J this,this,hlc⟩
   |some z=>simp[XW]at h
  |some y=>cases Qi with
   |none=>simp only[XW]at h;cases hb:Nat.ble x y&&Nat.ble y cap<;>rw[hb]at h<;>simp only[AN,AO,reduceCtorEq,AH,Af]at h;obtain⟨rfl,rfl,rfl⟩:=h;obtain⟨k,hk⟩:=hlo;obtain⟨k',hk'⟩:=hhi;simp only[AI]at hb;exact⟨_,_,none,hk,hk',hmx,.UH J J (AL hb.1) (AL hb.2),AL hb.1,AL hb.2⟩
   |some z=>simp[XW]at h
def ldC(ti:TI)(l:List AV)(off:Nat):Option AV:=bif ti.kd.agg then(bif Nat.beq (List.take ti.size (List.drop off l)).length ti.size then some (.agg (List.take ti.size (List.drop off l)))else none)else E1 l off
def TK:List AV->Option AV
 |[]=>none
 |[.int k l h]=>some (.int k l h)
 | .int k l h::r=>match TK r with
  |some (.int k' l' h')=>bif I9 k k' then some (.int k (bif JM l' l then l' else l) (bif JM h h' then h' else h))else none
  |_=>none
 |_=>none
def UQ{α:Type}(p:Int->Bool):List (Int×α)->List α
 |[]=>[]
 |x::r=>bif p x.1 then x.2::UQ p r else UQ p r
def PW{α:Type}(a:Int):List (Int×α)->Option α
 |[]=>none
 |x::r=>bif FN a x.1 then some x.2 else PW a r
def uL(T:Tr)(zt:Nat->Option Value)(lt:Nat->Option (List Kd))(t:C7 AV)(hp:C7 AB)(x y:Operand):Option (List AV×List Nat):=match ao t x with
 |some (.int k l h)=>match ao t y with
  |some a=>match VU a with
   |some j=>bif Nat.ble j k.bits then some ([.int k (ej l (Int.ofNat (Nat.pow 2 j))) (ej h (Int.ofNat (Nat.pow 2 j)))],[])else none
   |none=>match a with
    | .int _ l' _=>bif Gz 0 l'&&Gz 0 l then some ([.int k 0 h],[])else none
    |_=>none
  |none=>none
 |_=>none
def uM(T:Tr)(zt:Nat->Option Value)(lt:Nat->Option (List Kd))(t:C7 AV)(hp:C7 AB)(x y:Operand):Option (List AV×List Nat):=match ao t x with
 |some (.int k l h)=>match ao t y with
  |some a=>match VU a with
   |some j=>bif Nat.ble j k.bits then some ([fit k (XV l (Int.ofNat (Nat.pow 2 j))) (XV h (Int.ofNat (Nat.pow 2 j)))],[])else none
   |none=>match a with
    | .int _ l' _=>bif Gz 0 l' then some ([M3 k],[])else none
    |_=>none
  |none=>none
 |_=>none
def uN(T:Tr)(zt:Nat->Option Value)(lt:Nat->Option (List Kd))(t:C7 AV)(hp:C7 AB)(u:Nat)(x y:Operand)(u':Nat):Option (List AV×List Nat):=match ao t x,ao t y with
 |some (.agg xs),some (.agg ys)=>match lt u with
  |some ls=>match SV ls xs ys with
   |some r=>some ([r],[])
   |none=>none
  |none=>none
 |_,_=>match fG T t (.binOp .eql u x y u')with
  |some a=>some ([a],[])
  |none=>none
def uO(T:Tr)(zt:Nat->Option Value)(lt:Nat->Option (List Kd))(t:C7 AV)(hp:C7 AB)(u:Nat)(x y:Operand)(u':Nat):Option (List AV×List Nat):=match ao t x,ao t y with
 |some (.agg xs),some (.agg ys)=>match lt u with
  |some ls=>match SV ls xs ys with
   |some (.boo (some b))=>some ([.boo (some (!b))],[])
   |some (.boo none)=>some ([.boo none],[])
   |_=>none
  |none=>none
 |_,_=>match fG T t (.binOp .neq u x y u')with
  |some a=>some ([a],[])
  |none=>none
def uA:AV->Bool
 | .int .u64 lo hi=>FN lo 0&&FN hi 18446744073709551615
 |_=>false
def XX(l:List AV)(off m:Nat):Bool:=Nat.beq (List.take m (List.drop off l)).length m&&(List.take m (List.drop off l)).all uA
def aAe(hp:C7 AB)(n off m:Nat):Bool:=match hp.get n with
 |some (.cells l _)=>XX l off m
 |_=>false
theorem aAf(h:uA a=true):a=.int .u64 0 18446744073709551615:=by
 unfold uA at h;split at h
 ·simp only[AI,EO]at h;rw[h.1,h.2]
 ·cases h
theorem Yw{l:List AV}{off m j:Nat}(h:XX l off m=true)(hj:j<m):E1 l (off+j)=some (.int .u64 0 18446744073709551615):=by
 unfold XX at h;simp only[AI,AY]at h;have hl:=AK h.1;have hj':j<(List.take m (List.drop off l)).length:=by rw[hl];exact hj
 have h1:=aAf (h.2 _ (B1 hj'));rw[D5];have h2:(List.take m (List.drop off l))[j]? =l[off+j]? :=by rw[Bf,BE hj,CG]
 rw[<-h2,AZ hj',h1]
def uQ(T:Tr)(zt:Nat->Option Value)(lt:Nat->Option (List Kd))(t:C7 AV)(hp:C7 AB)(u:Nat)(x:Operand):Option (List AV×List Nat):=match ao t x with
 |some (.Au k off)=>match T.get u with
  |some ti=>match hp.get k with
   |some ab=>match ab.cs with
    |some l=>match ldC ti l off with
     |some a=>some ([a],[k])
     |none=>none
    |none=>none
   |none=>none
  |none=>none
 |some (.dh k off m)=>match T.get u with
  |some ti=>match hp.get k with
   |some (.cells l _)=>bif ti.kd.agg|| !XX l off m then none else some ([.int .u64 0 18446744073709551615],[k])
   |_=>none
  |none=>none
 |some (.pin k)=>match T.get u with
  |some ti=>match hp.get k with
   |some (.unk (some a) _)=>bif ti.kd.agg then none else some ([a],[k])
   |_=>none
  |none=>none
 |_=>none
def uR(T:Tr)(zt:Nat->Option Value)(lt:Nat->Option (List Kd))(t:C7 AV)(hp:C7 AB)(u:Nat)(m x:Operand)(ok:Bool):Option (List AV×List Nat):=match ao t m with
 |some (.mp k)=>match T.get u with
  |some ⟨.mp kt e,_⟩=>match T.get kt with
   |some ⟨.int .i64,_⟩=>match zt e with
    |some z=>match ao t x with
     |some (.int .i64 lo hi)=>match hp.get k with
      |some (.map L)=>
       let fd:=bif FN lo hi then(match PW lo L with|some a=>([a],[])|none=>([],[Is z]))else(UQ (fun i=>Gz lo i&&Gz i hi) L,[Is z])
       some (bif ok then fd.1.map (fun a=>.Ec [a,.boo (some true)])++fd.2.map (fun a=>.Ec [a,.boo (some false)])else fd.1++fd.2,[k])
      |some (.Hl a)=>some (bif ok then[.Ec [a,.boo (some true)],.Ec [Is z,.boo (some false)]]else[a,Is z],[k])
      |_=>none
     |_=>none
    |none=>none
   |_=>none
  |_=>none
 |_=>none
def uS(T:Tr)(zt:Nat->Option Value)(lt:Nat->Option (List Kd))(t:C7 AV)(hp:C7 AB)(u:Nat)(x y:Operand):Option (List AV×List Nat):=match ao t y with
 |some (.int ky lo hi)=>match T.get u with
  |some ⟨.arr m e CU,_⟩=>match ao t x with
   |some (.Au n off)=>match VU (.int ky lo hi)with
    |some j=>bif Nat.blt j m then some ([.Au n (Nat.add off (Nat.mul j CU))],[])else none
    |none=>bif Gz 0 lo&&JM hi (Int.ofNat m)then(bif Nat.beq CU 1&&aAe hp n off m then some ([.dh n off m],[])else some ((List.range m).map (fun j=>.Au n (Nat.add off (Nat.mul j CU))),[]))else none
   |_=>none
  |some ⟨.sl e CU,_⟩=>match VU (.int ky lo hi)with
   |some j=>match ao t x with
    |some (.sl n off len _)=>bif Nat.blt j len then some ([.Au n (Nat.add off (Nat.mul j CU))],[])else none
    |some (.G3 n len)=>bif Nat.blt j len then some ([.Au n (Nat.mul j CU)],[])else none
    |some (.O3 n off len)=>bif Nat.blt j len then some ([.Au n (Nat.add off (Nat.mul j CU))],[])else none
    |_=>none
   |none=>none
  |_=>none
 |some (.cnt k 0 1 m)=>match T.get u with
  |some ⟨.sl e 1,_⟩=>match ao t x with
   |some (.GY n b j 1 2)=>bif Nat.beq b m then some ([.pin n],[])else none
   |_=>none
  |_=>none
 |_=>none
def uT(T:Tr)(zt:Nat->Option Value)(lt:Nat->Option (List Kd))(t:C7 AV)(hp:C7 AB)(u:Nat)(x y:Operand):Option (List AV×List Nat):=match ao t y with
 |some (.int ky lo hi)=>match T.get u with
  |some ⟨.arr m e 1,_⟩=>match T.get e with
   |some ti=>bif ti.kd.agg then none else match ao t x with
    |some (.agg l)=>match VU (.int ky lo hi)with
     |some j=>bif Nat.blt j m then(match E1 l j with|some a=>some ([a],[])|none=>none)else none
     |none=>bif Gz 0 lo&&JM hi (Int.ofNat m)&&Nat.beq l.length m then(match TK l with|some a=>some ([a],[])|none=>none)else none
    |_=>none
   |none=>none
  |some ⟨.str,_⟩=>match ao t x with
   |some (.val (.string s))=>match VU (.int ky lo hi)with
    |some j=>match E1 s.data.toList j with
     |some b=>some ([.int .u8 (Int.ofNat b.toNat) (Int.ofNat b.toNat)],[])
     |none=>none
    |none=>none
   |_=>none
  |_=>none
 |_=>none
def oH(T:Tr)(zt:Nat->Option Value)(lt:Nat->Option (List Kd))(t:C7 AV)(hp:C7 AB)(u:Nat)(x:Operand)(lo hi mx:Option Operand):Option (List AV×List Nat):=match TJ t lo with
 |some SQ=>match TJ t hi with
  |some SG=>match TJ t mx with
   |some Qi=>match T.get u with
    |some ⟨.sl e CU,_⟩=>match ao t x with
     |some (.sl n off len cap)=>bif Nat.ble len cap then(match XW len cap SQ SG Qi with
      |some (l,m,c)=>some ([.sl n (bif Nat.beq c l then off else Nat.add off (Nat.mul l CU)) (Nat.sub m l) (Nat.sub c l)],[])
      |none=>none)else none
     |some (.G3 n len)=>match Qi with
      |some c=>match XW len len SQ SG Qi with
       |some (l,m,c)=>some ([.sl n 0 m c],[])
       |none=>none
      |none=>match XW len len SQ SG Qi with
       |some (0,m,_)=>some ([.G3 n m],[])
       |some (l,m,_)=>some ([.O3 n (Nat.mul l CU) (Nat.sub m l)],[])
       |none=>none
     |some (.O3 n off len)=>match Qi with
      |some _=>none
      |none=>match XW len len SQ SG Qi with
       |some (l,m,_)=>some ([.O3 n (Nat.add off (Nat.mul l CU)) (Nat.sub m l)],[])
       |none=>none
     |some (.val (.slice none 0 0))=>match XW 0 0 SQ SG Qi with
      |some (l,m,c)=>some ([.val (.slice none (m-l) (c-l))],[])
      |none=>none
     |_=>none
    |some ⟨.arr N e CU,_⟩=>match ao t x with
     |some (.Au n off)=>match XW N N SQ SG Qi with
      |some (l,m,c)=>some ([.sl n (bif Nat.beq c l then off else Nat.add off (Nat.mul l CU)) (Nat.sub m l) (Nat.sub c l)],[])
      |none=>none
     |_=>none
    |_=>none
   |none=>none
  |none=>none
 |none=>none
def fJ(T:Tr)(t:C7 AV)(u:Nat)(x:Operand)(lo hi mx:Option Operand):Option (List AV×List Nat):=match hi with
 |some _=>none
 |none=>match mx with
  |some _=>none
  |none=>match lo with
   |none=>none
   |some y=>match ao t y with
    |some (.idx m)=>match T.get u with
     |some ⟨.sl e CU,_⟩=>match ao t x with
      |some (.GY n b j ez 2)=>bif Nat.beq b m&&Nat.beq ez CU then some ([.GY n b j ez 0],[])else none
      |_=>none
     |_=>none
    |_=>none
def fK(T:Tr)(zt:Nat->Option Value)(lt:Nat->Option (List Kd))(t:C7 AV)(hp:C7 AB)(u:Nat)(x:Operand):Option (List AV×List Nat):=match T.get u with
 |some ⟨.arr N _ _,_⟩=>bif Nat.ble 1 N then(match ao t x with
  |some (.sl n off len _)=>bif Nat.ble N len then some ([.Au n off],[])else none
  |some (.G3 n len)=>bif Nat.ble N len then some ([.Au n 0],[])else none
  |some (.O3 n off len)=>bif Nat.ble N len then some ([.Au n off],[])else none
  |_=>none)else none
 |_=>none
def fL(T:Tr)(zt:Nat->Option Value)(lt:Nat->Option (List Kd))(t:C7 AV)(hp:C7 AB)(u:Nat)(parts:Array (Nat×Operand)):Option (List AV×List Nat):=match T.get u with
 |some ti=>bif ti.kd.agg then(match zt u with
  |some (.agg zs)=>match Ku t parts.toList with
   |some ps=>match Vm ti.kd.place (zs.toList.map Jy) ps with
    |some rs=>some ([.agg rs],[])
    |none=>none
   |none=>none
  |_=>none)else none
 |none=>none
def yw(T:Tr)(zt:Nat->Option Value)(lt:Nat->Option (List Kd))(t:C7 AV)(hp:C7 AB):Op->Option (List AV×List Nat)
 | .binOp .shr _ x y _=>uL T zt lt t hp x y
 | .binOp .shl _ x y _=>uM T zt lt t hp x y
 | .binOp .eql u x y u'=>uN T zt lt t hp u x y u'
 | .binOp .neq u x y u'=>uO T zt lt t hp u x y u'
 | .load u x=>uQ T zt lt t hp u x
 | .lookup u m x ok=>uR T zt lt t hp u m x ok
 | .indexAddr u x y=>uS T zt lt t hp u x y
 | .index u x y=>uT T zt lt t hp u x y
 | .slice u x lo hi mx=>match oH T zt lt t hp u x lo hi mx with
  |some r=>some r
  |none=>fJ T t u x lo hi mx
 | .sliceToArrayPointer u x=>fK T zt lt t hp u x
 | .build u parts=>fL T zt lt t hp u parts
 |op=>match fG T t op with
  |some a=>some ([a],[])
  |none=>none
section
variable{P:Program} {T:Tr} {n:Nat} {K:Option A2} {Q:EX} {fr:Fr} {S:A2} {rest:List FO}
variable{i ty:Nat} {pos:String} {af:Array Edge} {gd g:Option (Nat×Bool)} {d:Nat}
theorem oI{T:Tr}{op:Op}(h:fG T t op=some a):B5 ⟨some d,op,ty,pos,af,gd⟩=.Ia:=by unfold fG at h;split at h<;>first|rfl|(cases h;done)|(rename_i s d x;unfold oD at h;cases hsd:Nat.beq s d<;>rw[hsd]at h<;>first|(simp only[B5,hsd,AO];done)|(simp at h;done))
variable{o:Oper}{x y:Operand}
theorem Q0{u u':Nat}{ls:List Kd}(hE:Vl P u ls)(neg:Bool)(ho:o.op=.binOp (if neg then .neq else .eql) u x y u'){xs ys:List Value}{b:Bool}(hx:Eg fr x=some (.agg xs.toArray))(hy:Eg fr y=some (.agg ys.toArray))(hb:Jz ls xs ys=some b):FV P n o fr S (.bool (if neg then !b else b)):=by intro A R a w hk hs;have h1:=hE.eq xs ys b w hb;have h2:=hE.guard (if neg then .neq else .eql) x y xs.toArray ys.toArray w;cases neg<;>simp only[Ce,Cc,C9]at ho h2⊢<;>simp only[execOp,ho,hk.eval hx,hk.eval hy,Ag,h2,Ad,run_eql_struct,run_neq_struct,h1,BA]
variable{t':Nat}{k k':IntKind}{s:Int}
theorem fM{t:Nat}{a:Int}(ho:o.op=.binOp .shr t x y t')(hx:Eg fr x=some (.int k a))(hy:Eg fr y=some (.int k' s))(hs:0<=s):FV P n o fr S (.int k (a/2^(min s.toNat k.bits))):=by intro A R a' w hk hs';have h0:¬s<0:=I;have hf:a.fdiv (2^(min s.toNat k.bits))=a/2^(min s.toNat k.bits):=Int.fdiv_eq_ediv_of_nonneg a (by exact Int.le_of_lt (Int.pow_pos I));simp[execOp,ho,hk.eval hx,hk.eval hy,eqGuard,binOp,Op.shift,h0,hf]
theorem fN{t:Nat}{a:Int}(ho:o.op=.binOp .shl t x y t')(hx:Eg fr x=some (.int k a))(hy:Eg fr y=some (.int k' s))(hs:0<=s):FV P n o fr S (.int k (k.wrap (a*2^(min s.toNat k.bits)))):=by intro A R a' w hk hs';have h0:¬s<0:=I;simp[execOp,ho,hk.eval hx,hk.eval hy,eqGuard,binOp,Op.shift,h0]
theorem fO{l h z:Int}(j:Nat)(h1:l<=z)(h2:z<=h):l/2^j<=z/2^j/\z/2^j<=h/2^j:=⟨Int.ediv_le_ediv (Int.pow_pos I) h1,Int.ediv_le_ediv (Int.pow_pos I) h2⟩
theorem Vo(j:Nat):(Int.ofNat (Nat.pow 2 j))=(2:Int)^j:=by show((2^j:Nat):Int)=_;simp
end
end
end Go.Proofs.YtfekkjbdcdnhlaaGreatDoor.Sep
