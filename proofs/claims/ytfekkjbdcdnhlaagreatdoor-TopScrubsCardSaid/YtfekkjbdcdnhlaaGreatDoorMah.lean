/- Lemmas for TopScrubs. No condition but those that each states. -/
import Derived.Test.YtfekkjbdcdnhlaaGreatDoorMaf
set_option linter.all false
set_option maxHeartbeats 8000000
set_option maxRecDepth 100000
namespace Go.Proofs.YtfekkjbdcdnhlaaGreatDoor.Sep
noncomputable section
inductive C7 (α:Type)
 |e
 |n (l:C7 α) (v:Option α) (r:C7 α)
noncomputable def N5(f:Nat):Nat->List Bool:=Nat.rec (motive:=fun _=>Nat->List Bool) (fun _=>[]) (fun _ p k=>bif Nat.beq k 0 then[]else bif Nat.beq (Nat.mod k 2) 1 then true::p (Nat.div k 2)else false::p (Nat.sub (Nat.div k 2) 1)) f
noncomputable def PU(k:Nat):List Bool:=N5 k k
noncomputable def C7.Vi{α:Type}(p:List Bool):C7 α->Option α:=List.rec (motive:=fun _=>C7 α->Option α) (fun t=>C7.casesOn (motive:=fun _=>Option α) t none (fun _ v _=>v))
 (fun b _ ih t=>C7.casesOn (motive:=fun _=>Option α) t none (fun l _ r=>ih (Bool.casesOn (motive:=fun _=>C7 α) b r l))) p
noncomputable def C7.t8{α:Type}(x:Option α)(p:List Bool):C7 α->C7 α:=List.rec (motive:=fun _=>C7 α->C7 α) (fun t=>C7.casesOn (motive:=fun _=>C7 α) t (.n .e x .e) (fun l _ r=>.n l x r))
 (fun b _ ih t=>Bool.casesOn (motive:=fun _=>C7 α) b (C7.casesOn (motive:=fun _=>C7 α) t (.n .e none (ih .e)) (fun l v r=>.n l v (ih r))) (C7.casesOn (motive:=fun _=>C7 α) t (.n (ih .e) none .e) (fun l v r=>.n (ih l) v r))) p
noncomputable def C7.get{α:Type}(t:C7 α)(k:Nat):Option α:=C7.Vi (PU k) t
noncomputable def C7.put{α:Type}(_f:Nat)(t:C7 α)(k:Nat)(x:Option α):C7 α:=C7.t8 x (PU k) t
theorem GH{a b:Nat}:Nat.beq a b=decide (a=b):=by
 cases h:Nat.beq a b with
 |true=>simp[AK h]
 |false=>simp[Nat.ne_of_beq_eq_false h]
def Vj:List Bool->Nat
 |[]=>0
 |true::p=>2*Vj p+1
 |false::p=>2*Vj p+2
theorem Ko(f k:Nat):N5 (f+1) k=bif Nat.beq k 0 then[]else bif Nat.beq (Nat.mod k 2) 1 then true::N5 f (Nat.div k 2)else false::N5 f (Nat.sub (Nat.div k 2) 1):=rfl
theorem N6:∀(f k:Nat),k<=f->Vj (N5 f k)=k
 |0,k,h=>by obtain rfl:k=0:=I;rfl
 |f+1,k,h=>by
  have e1:Nat.mod k 2=k%2:=rfl;have e2:Nat.div k 2=k/2:=rfl;have e3:Nat.sub (Nat.div k 2) 1=k/2-1:=rfl;rw[Ko,e3,e2,e1,GH,GH];by_cases h0:k=0
  ·simp[h0,Vj]
  ·by_cases h1:k%2=1
   ·simp only[h0,h1,decide_false,decide_true,AO,AN,Vj];rw[N6 f (k/2) I];omega
   ·simp only[h0,h1,decide_false,AO,Vj];rw[N6 f (k/2-1) I];omega
theorem TF:∀(f k:Nat),k<=f->N5 f k=PU k:=by
 suffices H:∀(f g k:Nat),k<=f->k<=g->N5 f k=N5 g k from fun f k h=>H f k k h (Ao _)
 intro f;induction f with
 |zero=>intro g k h1 h2;obtain rfl:k=0:=I;cases g<;>rfl
 |succ f ih=>
  intro g k h1 h2;cases g with
  |zero=>obtain rfl:k=0:=I;rfl
  |succ g=>
   have e2:Nat.div k 2=k/2:=rfl;have e3:Nat.sub (Nat.div k 2) 1=k/2-1:=rfl;rw[Ko,Ko,e3,e2];by_cases h0:k=0
   ·subst h0;rfl
   ·rw[ih g (k/2) I I,ih g (k/2-1) I I]
variable{j k:Nat}
theorem eb(h:PU j=PU k):j=k:=by rw[<-N6 j j (Ao _),<-N6 k k (Ao _)];show Vj (PU j)=Vj (PU k);rw[h]
variable{α:Type}
theorem C7.O2(p:List Bool):C7.Vi p (.e:C7 α)=none:=by cases p<;>rfl
theorem C7.FC(k:Nat):(C7.e:C7 α).get k=none:=C7.O2 _
theorem C7.Z9(b:Bool)(p:List Bool)(l r:C7 α)(v:Option α):C7.Vi (b::p) (.n l v r)=C7.Vi p (bif b then l else r):=by cases b<;>rfl
theorem C7.zh(l r:C7 α)(v:Option α)(k:Nat):(C7.n l v r).get k=bif Nat.beq k 0 then v else bif Nat.beq (Nat.mod k 2) 1 then l.get (Nat.div k 2)else r.get (Nat.sub (Nat.div k 2) 1):=by
 cases k with
 |zero=>rfl
 |succ k=>have e2:Nat.div (k+1) 2=(k+1)/2:=rfl;have e3:Nat.sub (Nat.div (k+1) 2) 1=(k+1)/2-1:=rfl;unfold C7.get;rw[show PU (k+1)=N5 (k+1) (k+1)from rfl,Ko,e3,e2,TF k ((k+1)/2) I,TF k ((k+1)/2-1) I];have h0:Nat.beq (k+1) 0=false:=rfl;rw[h0];cases Nat.beq (Nat.mod (k+1) 2) 1<;>simp only[AO,AN,C7.Z9]
theorem C7.TG{α:Type}(x:Option α):∀(q p:List Bool) (t:C7 α),C7.Vi p (C7.t8 x q t)=if p=q then x else C7.Vi p t
 |[],p,t=>by
  cases p with
  |nil=>cases t<;>rfl
  |cons b p=>cases t<;>cases b<;>first|rfl|(simp only[reduceCtorEq,Cc];exact C7.O2 p)
 |c::q,p,t=>by
  have ih:=C7.TG x q;cases p with
  |nil=>cases t<;>cases c<;>rfl
  |cons b p=>
   have key:∀u:C7 α,C7.Vi p (C7.t8 x q u)=if p=q then x else C7.Vi p u:=fun u=>ih p u
   cases b<;>cases c<;>cases t<;>simp only[D1,true_and,false_and,Cc,reduceCtorEq,Ce,Bool.true_eq_false]
   ·exact key .e|>.trans (by rw[C7.O2];rfl)
   ·exact key _
   ·exact C7.O2 p
   ·rfl
   ·exact C7.O2 p
   ·rfl
   ·exact key .e|>.trans (by rw[C7.O2];rfl)
   ·exact key _
theorem C7.get_put(f:Nat)(t:C7 α)(k j:Nat)(x:Option α)(_h:k<2^f):(C7.put f t k x).get j=if j=k then x else t.get j:=by
 unfold C7.put C7.get;rw[C7.TG];by_cases h:j=k
 ·subst h;simp
 ·rw[Ah h,Ah (fun e=>h (eb e))]
inductive AV
 |int (k:IntKind) (lo hi:Int)
 |boo (b:Option Bool)
 |val (v:Value)
 |Au (n off:Nat)
 |sl (n off len cap:Nat)
 |G3 (n len:Nat)
 |O3 (n off len:Nat)
 |GY (n b j e x:Nat)
 |idx (n:Nat)
 |cnt (n j f m:Nat)
 |rR (n:Nat)
 |pin (n:Nat)
 |dh (n off m:Nat)
 |mp (n:Nat)
 |fn (f:Nat) (a c:List AV)
 |LU (t:Nat) (v:AV)
 |agg (l:List AV)
 |Ec (l:List AV)
 |junk
def QH(q:Nat):Nat:=q/4294967296-1
def GQ(q:Nat):Nat:=q%4294967296
def XT(q c L j e x:Nat)(v:Value):Prop:=(q=0/\v=.slice none 0 0/\(x=2->L=0))\/(q≠0/\∃off len cap,v=.slice (some ⟨QH q,off,none⟩) len cap/\len<=cap/\len<=L+j/\off+cap*e<=c/\(x=1->off=0/\cap*e=c)/\(x=2->len=L))
abbrev Nm:=List (Nat×Nat)
mutual
inductive EM (ρ:Nm):AV->Value->Prop
 |int {k:IntKind} {lo hi z:Int} (h1:lo<=z) (h2:z<=hi):EM ρ (.int k lo hi) (.int k z)
 |boo {b:Bool}:EM ρ (.boo (some b)) (.bool b)
 |Jh {b:Bool}:EM ρ (.boo none) (.bool b)
 |val {v:Value}:EM ρ (.val v) v
 |Au {n off b c:Nat} (h:ρ[n]? =some (b,c)):EM ρ (.Au n off) (.pointer (some ⟨b,off,none⟩))
 |sl {n off len cap b c:Nat} (h:ρ[n]? =some (b,c)):EM ρ (.sl n off len cap) (.slice (some ⟨b,off,none⟩) len cap)
 |G3 {n len b c:Nat} (h:ρ[n]? =some (b,c)) (hc:len<=c):EM ρ (.G3 n len) (.slice (some ⟨b,0,none⟩) len c)
 |O3 {n off len b c o cap:Nat} (h:ρ[n]? =some (b,c)) (ho:0<len->o=off) (hc:len<=cap):EM ρ (.O3 n off len) (.slice (some ⟨b,o,none⟩) len cap)
 |GY {n b j e x q c q2 c2:Nat} {v:Value} (h:ρ[n]? =some (q,c)) (hb:ρ[b]? =some (q2,c2)) (hv:XT q c (GQ q2) j e x v):EM ρ (.GY n b j e x) v
 |idx {n q c:Nat} {z:Int} (h:ρ[n]? =some (q,c)) (h0:0<=z) (h1:z<=(GQ q:Int)):EM ρ (.idx n) (.int .i64 z)
 |cnt {n j f m q c:Nat} (h:ρ[n]? =some (q,c)) (h1:f=1->∃q' c',ρ[m]? =some (q',c')/\GQ q<GQ q') (h2:f=2->∃q' c',ρ[m]? =some (q',c')/\GQ q'<=GQ q):EM ρ (.cnt n j f m) (.int .i64 ((GQ q+j:Nat):Int))
 |rR {n q c:Nat} {z:Int} (h:ρ[n]? =some (q,c)) (h1:(GQ q:Int)<z):EM ρ (.rR n) (.int .i64 z)
 |dh {n off m b c j:Nat} (h:ρ[n]? =some (b,c)) (hj:j<m):EM ρ (.dh n off m) (.pointer (some ⟨b,off+j,none⟩))
 |pin {n q c off:Nat} (h:ρ[n]? =some (q,c)) (h0:q≠0) (h1:off<c):EM ρ (.pin n) (.pointer (some ⟨QH q,off,none⟩))
 |mp {n b c:Nat} (h:ρ[n]? =some (b,c)):EM ρ (.mp n) (.map (some b))
 |fn {f:Nat} {a c:List AV} {AA cs:List Value} (h:Bt ρ a AA) (k:Bt ρ c cs):EM ρ (.fn f a c) (.func (.func f) AA.toArray cs.toArray)
 |LU {t:Nat} {a:AV} {v:Value} (h:EM ρ a v):EM ρ (.LU t a) (.iface t v)
 |agg {l:List AV} {vs:List Value} (h:Bt ρ l vs):EM ρ (.agg l) (.agg vs.toArray)
 |Ec {l:List AV} {vs:List Value} (h:Bt ρ l vs):EM ρ (.Ec l) (.tuple vs.toArray)
 |junk {v:Value} (h:v.oneCell'=true):EM ρ .junk v
inductive Bt (ρ:Nm):List AV->List Value->Prop
 |nil:Bt ρ [] []
 |cons {a:AV} {v:Value} {l:List AV} {vs:List Value} (h:EM ρ a v) (k:Bt ρ l vs):Bt ρ (a::l) (v::vs)
end
variable{ρ:Nm}{n:Nat}
theorem Dz{x:Nat×Nat}(σ:Nm)(h:ρ[n]? =some x):(ρ++σ)[n]? =some x:=by rw[BG (Ae.1 h).1];exact h
mutual
theorem EM.mono{ρ:Nm}(σ:Nm){a:AV}{v:Value}:EM ρ a v->EM (ρ++σ) a v
 | .int h1 h2=>.int h1 h2
 | .boo=>.boo
 | .Jh=>.Jh
 | .val=>.val
 | .Au h=>.Au (Dz σ h)
 | .sl h=>.sl (Dz σ h)
 | .G3 h hc=>.G3 (Dz σ h) hc
 | .O3 h ho hc=>.O3 (Dz σ h) ho hc
 | .GY h hb hv=>.GY (Dz σ h) (Dz σ hb) hv
 | .idx h h0 h1=>.idx (Dz σ h) h0 h1
 | .cnt h h1 h2=>.cnt (Dz σ h) (fun e=>let⟨q',c',h3,h4⟩:=h1 e;⟨q',c',Dz σ h3,h4⟩) (fun e=>let⟨q',c',h3,h4⟩:=h2 e;⟨q',c',Dz σ h3,h4⟩)
 | .rR h h1=>.rR (Dz σ h) h1
 | .pin h h0 h1=>.pin (Dz σ h) h0 h1
 | .dh h hj=>.dh (Dz σ h) hj
 | .mp h=>.mp (Dz σ h)
 | .fn h k=>.fn (Bt.mono σ h) (Bt.mono σ k)
 | .LU h=>.LU (EM.mono σ h)
 | .agg h=>.agg (Bt.mono σ h)
 | .Ec h=>.Ec (Bt.mono σ h)
 | .junk h=>.junk h
theorem Bt.mono{ρ:Nm}(σ:Nm){l:List AV}{vs:List Value}:Bt ρ l vs->Bt (ρ++σ) l vs
 | .nil=>.nil
 | .cons h k=>.cons (EM.mono σ h) (Bt.mono σ k)
end
section
variable{ρ:Nm}
theorem Bt.len:∀{l:List AV} {vs:List Value},Bt ρ l vs->vs.length=l.length
 |_,_,.nil=>rfl
 |_,_,.cons _ k=>by simp[Bt.len k]
theorem Bt.app:∀{l m:List AV} {vs us:List Value},Bt ρ l vs->Bt ρ m us->Bt ρ (l++m) (vs++us)
 |_,_,_,_,.nil,k=>k
 |_,_,_,_,.cons h t,k=>.cons h (Bt.app t k)
theorem Bt.take:∀{l:List AV} {vs:List Value} (n:Nat),Bt ρ l vs->Bt ρ (l.take n) (vs.take n)
 |_,_,0,h=>by cases h<;>exact .nil
 |_,_,n+1,.nil=>.nil
 |_,_,n+1,.cons h k=>.cons h (Bt.take n k)
theorem Bt.drop:∀{l:List AV} {vs:List Value} (n:Nat),Bt ρ l vs->Bt ρ (l.drop n) (vs.drop n)
 |_,_,0,h=>by cases h with|nil=>exact .nil|cons h k=>exact .cons h k
 |_,_,n+1,.nil=>.nil
 |_,_,n+1,.cons h k=>Bt.drop n k
theorem Bt.at:∀{l:List AV} {vs:List Value} {n:Nat} {a:AV},Bt ρ l vs->E1 l n=some a->∃v,E1 vs n=some v/\EM ρ a v
 |_,_,_,_,.nil,h=>by simp[E1]at h
 |_,_,0,_,.cons (v:=v) h k,e=>by simp[E1]at e;subst e;exact⟨v,rfl,h⟩
 |_,_,n+1,_,.cons h k,e=>Bt.at k (n:=n) e
theorem Bt.set:∀{l:List AV} {vs:List Value} (n:Nat) {a:AV} {v:Value},Bt ρ l vs->EM ρ a v->Bt ρ (l.set n a) (vs.set n v)
 |_,_,_,_,_,.nil,_=>.nil
 |_,_,0,_,_,.cons h k,e=>.cons e k
 |_,_,n+1,_,_,.cons h k,e=>.cons h (Bt.set n k e)
theorem Bt.flat{ll:List (List AV)}{vv:List (List Value)}(hl:ll.length=vv.length)(h:∀(i:Nat) (l:List AV) (v:List Value),ll[i]? =some l->vv[i]? =some v->Bt ρ l v):Bt ρ ll.flatten vv.flatten:=by
 induction ll generalizing vv with
 |nil=>cases vv with
  |nil=>exact .nil
  |cons _ _=>simp at hl
 |cons l ll ih=>cases vv with
  |nil=>simp at hl
  |cons v vv=>simp only[AW];exact(h 0 l v J J).app (ih (by simpa using hl) (fun i l v h1 h2=>h (i+1) l v (by simpa using h1) (by simpa using h2)))
theorem Bt.rep{a:AV}{v:Value}(h:EM ρ a v):∀n:Nat,Bt ρ (List.replicate n a) (List.replicate n v)
 |0=>.nil
 |n+1=>.cons h (Bt.rep h n)
end
inductive AB
 |cells (l:List AV) (t:Nat)
 |grown (l:List AV) (t CU:Nat)
 |map (L:List (Int×AV))
 |Hl (v:AV)
 |unk (a:Option AV) (t:Nat)
 |res (i:Nat) (d:List Nat)
abbrev EA:=Nat->List Nat->Nat->List CH->Prop
def NV(ρ:Nm)(a:Option AV)(t q c:Nat)(cs:List CH):Prop:=(q=0/\cs=[])\/(q≠0/\∃ex:List Value,ex.length=c/\(∀x,a=some x->∀v∈ex,EM ρ x v)/\cs=A7 (QH q) ex t)
inductive Da (RS:EA) (ρ:Nm) (k:Nat):AB->List CH->Prop
 |cells {l:List AV} {t b c:Nat} {vs:List Value} (h:ρ[k]? =some (b,c)) (hl:Bt ρ l vs):Da RS ρ k (.cells l t) (A7 b vs t)
 |grown {l:List AV} {t CU b c:Nat} {vs ex:List Value} (h:ρ[k]? =some (b,c)) (hl:Bt ρ l vs) (hx:vs.length+ex.length=c*CU):Da RS ρ k (.grown l t CU) (A7 b (vs++ex) t)
 |map {clk b c:Nat} {L:List (Int×AV)} {L':List (Int×Value×Nat)} (h:ρ[k]? =some (b,c)) (hk:L'.map (·.1)=L.map (·.1)) (hl:Bt ρ (L.map (·.2)) (L'.map (·.2.1))):Da RS ρ k (.map L) (DX (Value.int .i64) b L' clk)
 |Hl {clk b c:Nat} {v:AV} {L':List (Int×Value×Nat)} (h:ρ[k]? =some (b,c)) (hl:∀p∈L',EM ρ v p.2.1):Da RS ρ k (.Hl v) (DX (Value.int .i64) b L' clk)
 |unk {a:Option AV} {t q c:Nat} {cs:List CH} (h:ρ[k]? =some (q,c)) (hu:NV ρ a t q c cs):Da RS ρ k (.unk a t) cs
 |res {i b c:Nat} {d:List Nat} {cs:List CH} (h:ρ[k]? =some (b,c)) (hr:RS i d b cs):Da RS ρ k (.res i d) cs
variable{ab:AB}
theorem Da.mono{RS:EA}(σ:Nm){c:List CH}(h:Da RS ρ k ab c):Da RS (ρ++σ) k ab c:=by
 cases h with
 |cells h hl=>exact .cells (Dz σ h) (hl.mono σ)
 |grown h hl hx=>exact .grown (Dz σ h) (hl.mono σ) hx
 |map h hk hl=>exact .map (Dz σ h) hk (hl.mono σ)
 |Hl h hl=>exact .Hl (Dz σ h) (fun p hp=>(hl p hp).mono σ)
 |res h hr=>exact .res (Dz σ h) hr
 |unk h hu=>
  refine .unk (Dz σ h) ?_;rcases hu with h0|⟨h0,ex,h1,h2,h3⟩
  ·exact .inl h0
  ·exact .inr ⟨h0,ex,h1,fun x hx v hv=>(h2 x hx v hv).mono σ,h3⟩
def Kr(ρ:Nm)(t:C7 AV)(fr:Fr):Prop:=∀s a,t.get s=some a->∃v,lk fr s=some v/\EM ρ a v
variable{t:C7 AV}{fr:Fr}
theorem Kr.mono(σ:Nm)(h:Kr ρ t fr):Kr (ρ++σ) t fr:=fun s a hs=>by obtain⟨v,h1,h2⟩:=h s a hs;exact⟨v,h1,h2.mono σ⟩
variable{a:AV}
theorem Kr.put(h:Kr ρ t fr){d:Nat}(hd:d<2^24){v:Value}(hc:EM ρ a v):Kr ρ (t.put 24 d (some a)) ((d,v)::fr):=fun s b hs=>by
 rw[C7.get_put 24 t d s _ hd]at hs;simp only[lk];by_cases e:s=d
 ·subst e;simp at hs;subst hs;exact⟨v,by simp,hc⟩
 ·rw[Ah e]at hs;have:Nat.beq d s=false:=by simp[GH];omega
  rw[this];exact h s b hs
structure LW (RS:EA) (ρ:Nm) (hp:C7 AB) (nx:Nat) (S:A2) (live:List Nat) (C:Nat->List CH):Prop where
 len:ρ.length=nx
 nd:live.Nodup
 lt:∀k∈live,k<nx
 perm:S.Perm (live.map C)
 at_:∀k ab,hp.get k=some ab->k∈live/\Da RS ρ k ab (C k)
section
variable{RS:EA} {ρ:Nm} {hp:C7 AB} {nx:Nat} {S:A2} {live:List Nat} {C:Nat->List CH}
def Jw(C:Nat->List CH)(k:Nat)(c:List CH):Nat->List CH:=fun j=>if j=k then c else C j
theorem IS(C:Nat->List CH)(k:Nat)(c:List CH):Jw C k c k=c:=by simp[Jw]
theorem Gj(C:Nat->List CH)(c:List CH)(h:j≠k):Jw C k c j=C j:=by simp[Jw,h]
theorem LW.pick(h:LW RS ρ hp nx S live C)(hk:k∈live):S.Perm (C k::(live.erase k).map C):=by refine h.perm.trans ?_;have:=(CL hk).map C;simpa using this
theorem LW.zj(h:LW RS ρ hp nx S live C)(J5:nx<=2^24)(hk:k∈live):k<2^24:=Nat.lt_of_lt_of_le (h.lt k hk) J5
theorem LW.put(h:LW RS ρ hp nx S live C)(J5:nx<=2^24)(hk:k∈live){c:List CH}(hc:Da RS ρ k ab c):LW RS ρ (hp.put 24 k (some ab)) nx (c::(live.erase k).map C) live (Jw C k c):=by
 refine⟨h.len,h.nd,h.lt,?_,?_⟩
 ·have h1:=((CL hk).map (Jw C k c)).symm;rw[Ap,IS]at h1;have h2:(live.erase k).map (Jw C k c)=(live.erase k).map C:=BB fun j hj=>by refine Gj C c ?_;rintro rfl;exact(h.nd.not_mem_erase) hj
  rw[h2]at h1;exact h1
 ·intro j b hj;rw[C7.get_put 24 hp k j _ (h.zj J5 hk)]at hj;by_cases e:j=k
  ·subst e;simp at hj;subst hj;rw[IS];exact⟨hk,hc⟩
  ·rw[Ah e]at hj;rw[Gj C c e];exact h.at_ j b hj
theorem LW.del(h:LW RS ρ hp nx S live C)(J5:nx<=2^24)(hk:k∈live):LW RS ρ (hp.put 24 k none) nx ((live.erase k).map C) (live.erase k) C:=by
 refine⟨h.len,h.nd.erase k,fun j hj=>h.lt j (List.mem_of_mem_erase hj),.refl _,?_⟩;intro j b hj;rw[C7.get_put 24 hp k j _ (h.zj J5 hk)]at hj;by_cases e:j=k
 ·subst e;simp at hj
 ·rw[Ah e]at hj;obtain⟨h1,h2⟩:=h.at_ j b hj;exact⟨(Be e).2 h1,h2⟩
theorem LW.new(h:LW RS ρ hp nx S live C)(J5:nx<2^24)(x:Nat×Nat){c:List CH}(hc:Da RS (ρ++[x]) nx ab c):LW RS (ρ++[x]) (hp.put 24 nx (some ab)) (nx+1) (c::S) (nx::live) (Jw C nx c):=by
 have hn:nx∉live:=fun hm=>Nat.lt_irrefl _ (h.lt nx hm)
 refine⟨by simp[h.len],Bv.2 ⟨hn,h.nd⟩,?_,?_,?_⟩
 ·intro k hk;rcases Ab.1 hk with rfl|hk
  ·omega
  ·have:=h.lt k hk;omega
 ·rw[Ap,IS];have h2:live.map (Jw C nx c)=live.map C:=BB fun j hj=>Gj C c (fun e=>hn (e▸hj))
  rw[h2];exact .cons _ h.perm
 ·intro j b hj;rw[C7.get_put 24 hp nx j _ J5]at hj;by_cases e:j=nx
  ·subst e;simp at hj;subst hj;rw[IS];exact⟨BH,hc⟩
  ·rw[Ah e]at hj;obtain⟨h1,h2⟩:=h.at_ j b hj;rw[Gj C c e];exact⟨Aw _ h1,h2.mono _⟩
theorem LW.EZ(h:LW RS ρ hp nx S live C)(x:Nat×Nat):(ρ++[x])[nx]? =some x:=by rw[<-h.len];simp
theorem LW.keep(h:LW RS ρ hp nx S live C){Lf:List Nat}{C0:Nat->List CH}(hn:Lf.Nodup)(hs:∀k∈Lf,k∈live/\C k=C0 k):Ge (some (Lf.map C0)) S:=by
 refine⟨(live.filter (fun k=> !Lf.contains k)).map C,h.perm.trans ?_⟩;have h1:live.Perm (Lf++live.filter (fun k=> !Lf.contains k)):=by
  have e1:live.Perm (live.filter (fun k=>Lf.contains k)++live.filter (fun k=> !Lf.contains k)):=(CO _ _).symm;refine e1.trans (Bm _ ?_);refine(B8 (h.nd.filter _) hn).2 fun k=> ?_
  simp only[Bh,List.contains_iff_mem];exact⟨fun hk=>hk.2,fun hk=>⟨(hs k hk).1,hk⟩⟩
 have h2:=h1.map C;rw[Ai]at h2;have h3:Lf.map C=Lf.map C0:=BB fun k hk=>(hs k hk).2
 rw[h3]at h2;exact h2
end
def Gz(a b:Int):Bool:=match a,b with
 | .ofNat m,.ofNat n=>Nat.ble m n
 | .ofNat _,.negSucc _=>false
 | .negSucc _,.ofNat _=>true
 | .negSucc m,.negSucc n=>Nat.ble n m
theorem FU{a b:Int}:Gz a b=true↔a<=b:=by cases a<;>cases b<;>simp[Gz]<;>omega
def FN(a b:Int):Bool:=match a,b with
 | .ofNat m,.ofNat n=>Nat.beq m n
 | .negSucc m,.negSucc n=>Nat.beq m n
 |_,_=>false
theorem EO{a b:Int}:FN a b=true↔a=b:=by cases a<;>cases b<;>simp[FN]<;>omega
def JM(a b:Int):Bool:=match a,b with
 | .ofNat m,.ofNat n=>Nat.blt m n
 | .ofNat _,.negSucc _=>false
 | .negSucc _,.ofNat _=>true
 | .negSucc m,.negSucc n=>Nat.blt n m
theorem HH{a b:Int}:JM a b=true↔a<b:=by cases a<;>cases b<;>simp[JM]<;>omega
theorem MM{a b:Int}(h:JM a b=false):b<=a:=by
 have:¬a<b:=fun hh=>by rw[HH.2 hh]at h;cases h
 omega
def zk:IntKind->Nat
 | .i8=>0| .i16=>1| .i32=>2| .i64=>3| .u8=>4| .u16=>5| .u32=>6| .u64=>7
def I9(a b:IntKind):Bool:=Nat.beq (zk a) (zk b)
theorem Fz{a b:IntKind}(h:I9 a b=true):a=b:=by cases a<;>cases b<;>first|rfl|cases h
theorem Fh{k:IntKind}:I9 k k=true:=by cases k<;>rfl
def aA:IntKind->Int
 | .i8=>.negSucc 127| .i16=>.negSucc 32767| .i32=>.negSucc 2147483647| .i64=>.negSucc 9223372036854775807
 | .u8=>.ofNat 0| .u16=>.ofNat 0| .u32=>.ofNat 0| .u64=>.ofNat 0
def SS:IntKind->Int
 | .i8=>.ofNat 127| .i16=>.ofNat 32767| .i32=>.ofNat 2147483647| .i64=>.ofNat 9223372036854775807
 | .u8=>.ofNat 255| .u16=>.ofNat 65535| .u32=>.ofNat 4294967295| .u64=>.ofNat 18446744073709551615
def Vk:IntKind->Int
 | .i8=> -128| .i16=> -32768| .i32=> -2147483648| .i64=> -9223372036854775808
 | .u8| .u16| .u32| .u64=>0
def XU:IntKind->Int
 | .i8=>127| .i16=>32767| .i32=>2147483647| .i64=>9223372036854775807
 | .u8=>255| .u16=>65535| .u32=>4294967295| .u64=>18446744073709551615
theorem Fj(k:IntKind):aA k=Vk k:=by cases k<;>rfl
theorem F2(k:IntKind):SS k=XU k:=by cases k<;>rfl
theorem wrap_in(k:IntKind)(n:Int):aA k<=k.wrap n/\k.wrap n<=SS k:=by rw[Fj,F2];cases k<;>simp only[IntKind.wrap,Vk,XU,IntKind.bits,IntKind.signed]<;>simp<;>(try split)<;>omega
theorem QI{k:IntKind}{n:Int}(h1:aA k<=n)(h2:n<=SS k):k.wrap n=n:=by rw[Fj]at h1;rw[F2]at h2;cases k<;>simp only[Vk,XU]at h1 h2<;>simp only[IntKind.wrap,IntKind.bits,IntKind.signed]<;>simp<;>(try split)<;>omega
def uB(a b:Int):Int:=match a,b with
 | .ofNat m,.ofNat n=>.ofNat (Nat.add m n)
 |a,b=>Int.add a b
theorem nq(a b:Int):uB a b=Int.add a b:=by cases a<;>cases b<;>rfl
def aB(a b:Int):Int:=match a,b with
 | .ofNat m,.ofNat n=>bif Nat.ble n m then .ofNat (Nat.sub m n)else .negSucc (Nat.sub (Nat.sub n m) 1)
 |a,b=>Int.sub a b
theorem UO(a b:Int):aB a b=Int.sub a b:=by
 cases a with
 |ofNat m=>cases b with
  |ofNat n=>
   have e:Int.sub (Int.ofNat m) (Int.ofNat n)=(m:Int)-(n:Int):=rfl;rw[e];simp only[aB];have e2:Nat.sub m n=m-n:=rfl;have e3:Nat.sub (Nat.sub n m) 1=n-m-1:=rfl;rw[e2,e3];cases h:Nat.ble n m with
   |true=>have:=AL h;simp only[AN,Int.ofNat_eq_natCast];omega
   |false=>
    have:¬n<=m:=fun hh=>by rw[Nat.ble_eq_true_of_le hh]at h;cases h
    simp only[AO,Int.negSucc_eq];omega
  |negSucc n=>rfl
 |negSucc m=>cases b<;>rfl
def XV(a b:Int):Int:=match a,b with
 | .ofNat m,.ofNat n=>.ofNat (Nat.mul m n)
 |a,b=>Int.mul a b
theorem Ys(a b:Int):XV a b=Int.mul a b:=by cases a<;>cases b<;>rfl
def ed(a b:Int):Int:=match a,b with
 | .ofNat m,.ofNat n=>.ofNat (Nat.div m n)
 |a,b=>Int.tdiv a b
theorem ef(a b:Int):ed a b=Int.tdiv a b:=by cases a<;>cases b<;>rfl
def eh(a b:Int):Int:=match a,b with
 | .ofNat m,.ofNat n=>.ofNat (Nat.mod m n)
 |a,b=>Int.tmod a b
theorem ei(a b:Int):eh a b=Int.tmod a b:=by cases a<;>cases b<;>rfl
def ej(a b:Int):Int:=match a,b with
 | .ofNat m,.ofNat n=>.ofNat (Nat.div m n)
 |a,b=>Int.ediv a b
theorem ek(a b:Int):ej a b=Int.ediv a b:=by cases a<;>cases b<;>rfl
def Yt(k:IntKind)(n:Int):Int:=match k,n with
 | .u8,.ofNat m=>.ofNat (Nat.mod m 256)
 | .u16,.ofNat m=>.ofNat (Nat.mod m 65536)
 | .u32,.ofNat m=>.ofNat (Nat.mod m 4294967296)
 | .u64,.ofNat m=>.ofNat (Nat.mod m 18446744073709551616)
 |k,n=>k.wrap n
theorem en(k:IntKind)(n:Int):Yt k n=k.wrap n:=by
 have e:∀a b:Nat,Nat.mod a b=a%b:=fun _ _=>rfl
 cases k<;>cases n<;>first|rfl|(simp only[Yt,e,IntKind.wrap,IntKind.bits,IntKind.signed]<;>simp)
def LX:IntKind->Nat
 | .i8=>127| .i16=>32767| .i32=>2147483647| .i64=>9223372036854775807
 | .u8=>255| .u16=>65535| .u32=>4294967295| .u64=>18446744073709551615
theorem Yu(k:IntKind):(LX k:Int)=SS k:=by cases k<;>rfl
def PV(op:BinOp)(k:IntKind)(x y:Int):Int:=match op,x,y with
 | .and,.ofNat m,.ofNat n=>bif Nat.ble m (LX k)&&Nat.ble n (LX k)then .ofNat (Nat.land m n)else bits .and k (.ofNat m) (.ofNat n)
 | .or,.ofNat m,.ofNat n=>bif Nat.ble m (LX k)&&Nat.ble n (LX k)then .ofNat (Nat.lor m n)else bits .or k (.ofNat m) (.ofNat n)
 | .xor,.ofNat m,.ofNat n=>bif Nat.ble m (LX k)&&Nat.ble n (LX k)then .ofNat (Nat.xor m n)else bits .xor k (.ofNat m) (.ofNat n)
 |op,x,y=>bits op k x y
theorem Qy(op:BinOp)(k:IntKind)(x y:Int):PV op k x y=bits op k x y:=by
 have nn:∀{m:Nat},Nat.ble m (LX k)=true->m<2^k.bits:=fun{m} h=>by have:=AL h;cases k<;>simp only[LX,IntKind.bits]at this⊢<;>omega
 have tn:∀{m:Nat},m<2^k.bits->(BitVec.ofInt k.bits (Int.ofNat m)).toNat=m:=fun{m} h=>by simp[BitVec.ofInt_natCast,Dh h]
 have lo0:aA k<=0:=by rw[Fj];cases k<;>simp[Vk]
 have up:∀{m:Nat},Nat.ble m (LX k)=true->(m:Int)<=SS k:=fun{m} h=>by rw[<-Yu];exact_mod_cast AL h
 have pw:∃j,LX k=2^j-1:=by cases k<;>first|exact⟨7,rfl⟩|exact⟨15,rfl⟩|exact⟨31,rfl⟩|exact⟨63,rfl⟩|exact⟨8,rfl⟩|exact⟨16,rfl⟩|exact⟨32,rfl⟩|exact⟨64,rfl⟩
 obtain⟨j,hj⟩:=pw;have lt':∀{m:Nat},Nat.ble m (LX k)=true->m<2^j:=fun{m} h=>by have:=AL h;have hp:0<2^j:=Nat.pow_pos I;omega
 have fin:∀{m:Nat},m<2^j->k.wrap (m:Int)=m:=fun{m} h=>by
  have h2:(m:Int)<=SS k:=by rw[<-Yu,hj];exact_mod_cast (by omega:m<=2^j-1)
  exact QI I h2
 unfold PV;split
 ·rename_i m n;cases hb:Nat.ble m (LX k)&&Nat.ble n (LX k)with
  |false=>rfl
  |true=>simp only[AI]at hb;simp only[AN,bits,BitVec.toNat_and,tn (nn hb.1),tn (nn hb.2)];exact(fin (Nat.and_lt_two_pow _ (lt' hb.2))).symm
 ·rename_i m n;cases hb:Nat.ble m (LX k)&&Nat.ble n (LX k)with
  |false=>rfl
  |true=>simp only[AI]at hb;simp only[AN,bits,BitVec.toNat_or,tn (nn hb.1),tn (nn hb.2)];exact(fin (Nat.or_lt_two_pow (lt' hb.1) (lt' hb.2))).symm
 ·rename_i m n;cases hb:Nat.ble m (LX k)&&Nat.ble n (LX k)with
  |false=>rfl
  |true=>simp only[AI]at hb;simp only[AN,bits,BitVec.toNat_xor,tn (nn hb.1),tn (nn hb.2)];exact(fin (Nat.xor_lt_two_pow (lt' hb.1) (lt' hb.2))).symm
 ·rfl
def fit(k:IntKind)(lo hi:Int):AV:=bif Gz (aA k) lo&&Gz hi (SS k)then .int k lo hi else bif FN lo hi then .int k (Yt k lo) (Yt k lo)else .int k (aA k) (SS k)
theorem Lj{k:IntKind}{lo hi z:Int}(h1:lo<=z)(h2:z<=hi):EM ρ (fit k lo hi) (.int k (k.wrap z)):=by
 unfold fit;cases hb:Gz (aA k) lo&&Gz hi (SS k)with
 |true=>simp only[AI,FU]at hb;have e:k.wrap z=z:=QI I I;rw[e];exact .int h1 h2
 |false=>
  simp only[AO];cases he:FN lo hi with
  |true=>rw[EO]at he;obtain rfl:z=lo:=I;simp only[AN,en];exact .int (A4 _) (A4 _)
  |false=>exact .int (wrap_in k z).1 (wrap_in k z).2
def M3(k:IntKind):AV:=.int k (aA k) (SS k)
theorem JA{k:IntKind}(z:Int):EM ρ (M3 k) (.int k (k.wrap z)):=.int (wrap_in k z).1 (wrap_in k z).2
def tst(t f:Bool):AV:=bif t then .boo (some true)else bif f then .boo (some false)else .boo none
theorem eu{t f:Bool}{p:Prop}[Decidable p](h1:t=true->p)(h2:f=true->¬p):EM ρ (tst t f) (.bool (decide p)):=by
 unfold tst;cases t with
 |true=>simp only[AN];rw[Bq (h1 J)];exact .boo
 |false=>
  cases f with
  |true=>simp only[AN,AO];rw[BW (h2 J)];exact .boo
  |false=>exact .Jh
theorem N7{k:IntKind}{x m:Int}(h0:0<=m)(h1:m<=SS k):0<=bits .and k x m/\bits .and k x m<=m:=by
 obtain⟨n,rfl⟩:=BO h0;have hk:(n:Int)<2^k.bits:=by rw[F2]at h1;cases k<;>simp[XU,IntKind.bits]at h1⊢<;>omega
 have hk':n<2^k.bits:=by exact_mod_cast hk
 have hb:(BitVec.ofInt k.bits (n:Int)).toNat=n:=by simp[BitVec.ofInt_natCast,Dh hk']
 have ha:(BitVec.ofInt k.bits x&&&BitVec.ofInt k.bits (n:Int)).toNat<=n:=by rw[BitVec.toNat_and,hb];exact Nat.and_le_right
 unfold bits;simp only;have hlo:aA k<=0:=by rw[Fj];cases k<;>simp[Vk]
 generalize(BitVec.ofInt k.bits x&&&BitVec.ofInt k.bits (n:Int)).toNat=z at ha⊢;have hz:(z:Int)<=n:=by exact_mod_cast ha
 rw[QI I I];omega
theorem SU(k:IntKind)(x y:Int):bits .and k x y=bits .and k y x:=by unfold bits;simp only;rw[BitVec.and_comm]
def Ji(kd:Option TI)(op:BinOp)(a b:AV):Option AV:=
 match op,a,b with
 | .add,.int k l h,.int k' l' h'=>bif I9 k k' then some (fit k (Int.add l l') (Int.add h h'))else none
 | .sub,.int k l h,.int k' l' h'=>bif I9 k k' then some (fit k (Int.sub l h') (Int.sub h l'))else none
 | .mul,.int k l h,.int k' l' h'=>bif I9 k k' then bif Gz 0 l&&Gz 0 l' then some (fit k (Int.mul l l') (Int.mul h h'))else bif FN l h&&FN l' h' then some (fit k (Int.mul l l') (Int.mul l l'))else some (M3 k)else none
 | .quo,.int k l h,.int k' l' h'=>bif I9 k k'&&FN l' h'&&JM 0 l' then bif Gz 0 l then some (fit k (Int.tdiv l l') (Int.tdiv h l'))else some (M3 k)else none
 | .rem,.int k l h,.int k' l' h'=>bif I9 k k'&&JM 0 l' then bif FN l h&&FN l' h' then some (.int k (Int.tmod l l') (Int.tmod l l'))else bif Gz 0 l then some (.int k 0 (Int.sub h' 1))else none else none
 | .and,.int k l h,.int k' l' h'=>bif I9 k k' then bif FN l h&&FN l' h' then some (.int k (bits .and k l l') (bits .and k l l'))else bif FN l' h'&&Gz 0 l'&&Gz l' (SS k)then some (.int k 0 l')else bif FN l h&&Gz 0 l&&Gz l (SS k)then some (.int k 0 l)else some (M3 k)else none
 | .or,.int k l h,.int k' l' h'=>bif I9 k k' then bif FN l h&&FN l' h' then some (.int k (bits .or k l l') (bits .or k l l'))else some (M3 k)else none
 | .xor,.int k l h,.int k' l' h'=>bif I9 k k' then bif FN l h&&FN l' h' then some (.int k (bits .xor k l l') (bits .xor k l l'))else some (M3 k)else none
 | .andNot,.int k l h,.int k' l' h'=>bif I9 k k' then bif FN l h&&FN l' h' then some (.int k (bits .andNot k l l') (bits .andNot k l l'))else some (M3 k)else none
 | .eql,.int k l h,.int k' l' h'=>bif I9 k k' then some (tst (FN l h&&FN l' h'&&FN l l') (JM h l'||JM h' l))else none
 | .neq,.int k l h,.int k' l' h'=>bif I9 k k' then some (tst (JM h l'||JM h' l) (FN l h&&FN l' h'&&FN l l'))else none
 | .lss,.int k l h,.int k' l' h'=>bif I9 k k' then some (tst (JM h l') (Gz h' l))else none
 | .leq,.int k l h,.int k' l' h'=>bif I9 k k' then some (tst (Gz h l') (JM h' l))else none
 | .gtr,.int k l h,.int k' l' h'=>bif I9 k k' then some (tst (JM h' l) (Gz h l'))else none
 | .geq,.int k l h,.int k' l' h'=>bif I9 k k' then some (tst (Gz h' l) (JM h l'))else none
 | .eql,.boo x,.boo y=>match kd with|some ⟨.bool,_⟩=>(match x,y with|some x,some y=>some (.boo (some (x==y)))|_,_=>some (.boo none))|_=>none
 | .neq,.boo x,.boo y=>match kd with|some ⟨.bool,_⟩=>(match x,y with|some x,some y=>some (.boo (some (!(x==y))))|_,_=>some (.boo none))|_=>none
 | .eql,.val (.string x),.val (.string y)=>some (.boo (some (x.data.toList==y.data.toList)))
 | .neq,.val (.string x),.val (.string y)=>some (.boo (some (!(x.data.toList==y.data.toList))))
 | .eql,.Au _ _,.val (.pointer none)=>match kd with|some ⟨.Au,_⟩=>some (.boo (some false))|_=>none
 | .neq,.Au _ _,.val (.pointer none)=>match kd with|some ⟨.Au,_⟩=>some (.boo (some true))|_=>none
 | .eql,.val (.pointer none),.val (.pointer none)=>match kd with|some ⟨.Au,_⟩=>some (.boo (some true))|_=>none
 | .neq,.val (.pointer none),.val (.pointer none)=>match kd with|some ⟨.Au,_⟩=>some (.boo (some false))|_=>none
 | .eql,.mp _,.val (.map none)=>match kd with|some ⟨.mp _ _,_⟩=>some (.boo (some false))|_=>none
 | .neq,.mp _,.val (.map none)=>match kd with|some ⟨.mp _ _,_⟩=>some (.boo (some true))|_=>none
 | .eql,.sl _ _ _ _,.val (.slice none _ _)=>match kd with|some ⟨.sl _ _,_⟩=>some (.boo (some false))|_=>none
 | .neq,.sl _ _ _ _,.val (.slice none _ _)=>match kd with|some ⟨.sl _ _,_⟩=>some (.boo (some true))|_=>none
 | .eql,.G3 _ _,.val (.slice none _ _)=>match kd with|some ⟨.sl _ _,_⟩=>some (.boo (some false))|_=>none
 | .neq,.G3 _ _,.val (.slice none _ _)=>match kd with|some ⟨.sl _ _,_⟩=>some (.boo (some true))|_=>none
 | .eql,.O3 _ _ _,.val (.slice none _ _)=>match kd with|some ⟨.sl _ _,_⟩=>some (.boo (some false))|_=>none
 | .neq,.O3 _ _ _,.val (.slice none _ _)=>match kd with|some ⟨.sl _ _,_⟩=>some (.boo (some true))|_=>none
 | .eql,.val (.slice none _ _),.val (.slice none _ _)=>match kd with|some ⟨.sl _ _,_⟩=>some (.boo (some true))|_=>none
 | .neq,.val (.slice none _ _),.val (.slice none _ _)=>match kd with|some ⟨.sl _ _,_⟩=>some (.boo (some false))|_=>none
 | .neq,.fn _ _ _,.val .nilFunc=>match kd with|some ⟨.fn,_⟩=>some (.boo (some true))|_=>none
 | .neq,.val .nilFunc,.val .nilFunc=>match kd with|some ⟨.fn,_⟩=>some (.boo (some false))|_=>none
 |_,_,_=>none
theorem zm{k:IntKind}:(k==k)=true:=by simp
theorem rT(x y:ByteArray):(x.data.toList==y.data.toList)=(x.toList==y.toList):=by rw[A5,A5]
variable{kd:Option TI}{op:BinOp}{b r:AV}{x y:Value}
theorem nt(h:Ji kd op a b=some r)(hx:EM ρ a x)(hy:EM ρ b y):∃v,Hq kd op x y=some v/\EM ρ r v:=by
 unfold Ji at h;split at h;case h_1 k l hh k' l' h'=>
  cases hx with|int a1 a2=>cases hy with|int b1 b2=>
  cases hk:I9 k k'<;>simp[hk]at h;obtain rfl:=Fz hk;subst h;exact⟨_,by simp[Hq],Lj (Int.add_le_add a1 b1) (Int.add_le_add a2 b2)⟩
 case h_2 k l hh k' l' h'=>
  cases hx with|int a1 a2=>cases hy with|int b1 b2=>
  cases hk:I9 k k'<;>simp[hk]at h;obtain rfl:=Fz hk;subst h;exact⟨_,by simp[Hq],Lj (Int.sub_le_sub a1 b2) (Int.sub_le_sub a2 b1)⟩
 case h_3 k l hh k' l' h'=>
  cases hx with| @int _ _ _ z a1 a2=>cases hy with| @int _ _ _ z' b1 b2=>
  cases hk:I9 k k'<;>simp only[hk,AO,AN,reduceCtorEq]at h;obtain rfl:=Fz hk;refine⟨_,by simp[Hq]<;>rfl,?_⟩;cases h1:Gz 0 l&&Gz 0 l' with
  |true=>rw[h1]at h;simp only[AN,AH]at h;subst h;simp only[AI,FU]at h1;exact Lj (Int.mul_le_mul a1 b1 h1.2 I) (Int.mul_le_mul a2 b2 I I)
  |false=>
   rw[h1]at h;simp only[AO]at h;cases h2:FN l hh&&FN l' h' with
   |true=>rw[h2]at h;simp only[AN,AH]at h;subst h;simp only[AI,EO]at h2;obtain rfl:z=l:=I;obtain rfl:z'=l':=I;exact Lj (A4 _) (A4 _)
   |false=>rw[h2]at h;simp only[AO,AH]at h;subst h;exact JA _
 case h_4 k l hh k' l' h'=>
  cases hx with| @int _ _ _ z a1 a2=>cases hy with| @int _ _ _ z' b1 b2=>
  cases hk:I9 k k'&&FN l' h'&&JM 0 l'<;>simp only[hk,AO,AN,reduceCtorEq]at h;simp only[AI,EO,HH]at hk;obtain⟨⟨hk,rfl⟩,hpos⟩:=hk;obtain rfl:=Fz hk;obtain rfl:z'=l':=I;refine⟨.int k (k.wrap (z.tdiv z')),by simp[Hq,show¬z'=0 by omega],?_⟩;cases h1:Gz 0 l with
  |true=>
   rw[h1]at h;simp only[AN,AH]at h;subst h;rw[FU]at h1;refine Lj ?_ ?_
   ·rw[Di h1,Di I];exact Int.ediv_le_ediv hpos a1
   ·rw[Di I,Di I];exact Int.ediv_le_ediv hpos a2
  |false=>rw[h1]at h;simp only[AO,AH]at h;subst h;exact JA _
 case h_5 k l hh k' l' h'=>
  cases hx with| @int _ _ _ z a1 a2=>cases hy with| @int _ _ _ z' b1 b2=>
  cases hk:I9 k k'&&JM 0 l'<;>simp only[hk,AO,AN,reduceCtorEq]at h;simp only[AI,HH]at hk;obtain⟨hk,hpos⟩:=hk;obtain rfl:=Fz hk;refine⟨.int k (z.tmod z'),by simp[Hq,show¬z'=0 by omega],?_⟩;cases h1:FN l hh&&FN l' h' with
  |true=>rw[h1]at h;simp only[AN,AH]at h;subst h;simp only[AI,EO]at h1;obtain rfl:z=l:=I;obtain rfl:z'=l':=I;exact .int (A4 _) (A4 _)
  |false=>
   rw[h1]at h;simp only[AO]at h;cases h2:Gz 0 l with
   |false=>rw[h2]at h;cases h
   |true=>rw[h2]at h;simp only[AN,AH]at h;subst h;rw[FU]at h2;rw[DJ I];refine .int (Int.emod_nonneg _ I) ?_;have e:=Int.emod_lt_of_pos z (show 0<z' by omega);show z%z'<=h'-1;omega
 case h_6 k l hh k' l' h'=>
  cases hx with| @int _ _ _ z a1 a2=>cases hy with| @int _ _ _ z' b1 b2=>
  cases hk:I9 k k'<;>simp only[hk,AO,AN,reduceCtorEq]at h;obtain rfl:=Fz hk;refine⟨_,by simp[Hq]<;>rfl,?_⟩;cases h1:FN l hh&&FN l' h' with
  |true=>rw[h1]at h;simp only[AN,AH]at h;subst h;simp only[AI,EO]at h1;obtain rfl:z=l:=I;obtain rfl:z'=l':=I;exact .int (A4 _) (A4 _)
  |false=>
   rw[h1]at h;simp only[AO]at h;cases h2:FN l' h'&&Gz 0 l'&&Gz l' (SS k)with
   |true=>rw[h2]at h;simp only[AN,AH]at h;subst h;simp only[AI,EO,FU]at h2;obtain rfl:z'=l':=I;exact .int (N7 h2.1.2 h2.2).1 (N7 h2.1.2 h2.2).2
   |false=>
    rw[h2]at h;simp only[AO]at h;cases h3:FN l hh&&Gz 0 l&&Gz l (SS k)with
    |true=>rw[h3]at h;simp only[AN,AH]at h;subst h;simp only[AI,EO,FU]at h3;obtain rfl:z=l:=I;rw[SU];exact .int (N7 h3.1.2 h3.2).1 (N7 h3.1.2 h3.2).2
    |false=>rw[h3]at h;simp only[AO,AH]at h;subst h;exact JA _
 case h_7 k l hh k' l' h'|h_8 k l hh k' l' h'|h_9 k l hh k' l' h'=>
  cases hx with| @int _ _ _ z a1 a2=>cases hy with| @int _ _ _ z' b1 b2=>
  cases hk:I9 k k'<;>simp only[hk,AO,AN,reduceCtorEq]at h;obtain rfl:=Fz hk;refine⟨_,by simp[Hq]<;>rfl,?_⟩;cases h1:FN l hh&&FN l' h' with
  |true=>rw[h1]at h;simp only[AN,AH]at h;subst h;simp only[AI,EO]at h1;obtain rfl:z=l:=I;obtain rfl:z'=l':=I;exact .int (A4 _) (A4 _)
  |false=>rw[h1]at h;simp only[AO,AH]at h;subst h;exact JA _
 case h_10 k l hh k' l' h'|h_11 k l hh k' l' h'|h_12 k l hh k' l' h'|h_13 k l hh k' l' h'|h_14 k l hh k' l' h'|h_15 k l hh k' l' h'=>
  cases hx with| @int _ _ _ z a1 a2=>cases hy with| @int _ _ _ z' b1 b2=>
  cases hk:I9 k k'<;>simp only[hk,AO,AN,reduceCtorEq,AH]at h;obtain rfl:=Fz hk;subst h;refine⟨_,by simp only[Hq,zm,AN]<;>rfl,eu (fun hh=> ?_) (fun hh=> ?_)⟩<;>simp only[AI,BI,EO,HH,FU]at hh<;>omega
 case h_16 x' y'|h_17 x' y'=>
  split at h
  ·split at h
   ·simp only[AH]at h;subst h;cases hx;cases hy;refine⟨_,rfl,?_⟩;rename_i b1 _ b2;cases b1<;>cases b2<;>simp<;>exact .boo
   ·simp only[AH]at h;subst h;cases hx<;>cases hy<;>exact⟨_,rfl,.Jh⟩
  ·cases h
 case h_18 x' y'|h_19 x' y'=>simp only[AH]at h;subst h;cases hx;cases hy;rw[rT];exact⟨_,rfl,.boo⟩
 case h_36=>cases h
 all_goals
  split at h
  ·simp only[AH]at h;subst h;cases hx;cases hy;exact⟨_,rfl,.boo⟩
  ·cases h
def b2(f:IntKind->Int->Int->Int->Int->Option AV)(a b:AV):Option AV:=match a with
 | .int k l h=>match b with
  | .int k' l' h'=>bif I9 k k' then f k l h l' h' else none
  |_=>none
 |_=>none
def XJ(k:IntKind)(l h l' h':Int):Option AV:=some (fit k (uB l l') (uB h h'))
def XK(k:IntKind)(l h l' h':Int):Option AV:=some (fit k (aB l h') (aB h l'))
def XL(k:IntKind)(l h l' h':Int):Option AV:=bif Gz 0 l&&Gz 0 l' then some (fit k (XV l l') (XV h h'))else bif FN l h&&FN l' h' then some (fit k (XV l l') (XV l l'))else some (M3 k)
def zn(k:IntKind)(l h l' h':Int):Option AV:=bif FN l' h'&&JM 0 l' then bif Gz 0 l then some (fit k (ed l l') (ed h l'))else some (M3 k)else none
def zo(k:IntKind)(l h l' h':Int):Option AV:=bif JM 0 l' then bif FN l h&&FN l' h' then some (.int k (eh l l') (eh l l'))else bif Gz 0 l then some (.int k 0 (aB h' 1))else none else none
def zp(k:IntKind)(l h l' h':Int):Option AV:=bif FN l h&&FN l' h' then some (.int k (PV .and k l l') (PV .and k l l'))else bif FN l' h'&&Gz 0 l'&&Gz l' (SS k)then some (.int k 0 l')else bif FN l h&&Gz 0 l&&Gz l (SS k)then some (.int k 0 l)else some (M3 k)
def orI(k:IntKind)(l h l' h':Int):Option AV:=bif FN l h&&FN l' h' then some (.int k (PV .or k l l') (PV .or k l l'))else some (M3 k)
def zq(k:IntKind)(l h l' h':Int):Option AV:=bif FN l h&&FN l' h' then some (.int k (PV .xor k l l') (PV .xor k l l'))else some (M3 k)
def zr(k:IntKind)(l h l' h':Int):Option AV:=some (tst (FN l h&&FN l' h'&&FN l l') (JM h l'||JM h' l))
def zw(k:IntKind)(l h l' h':Int):Option AV:=some (tst (JM h l'||JM h' l) (FN l h&&FN l' h'&&FN l l'))
def zx(k:IntKind)(l h l' h':Int):Option AV:=some (tst (JM h l') (Gz h' l))
def zy(k:IntKind)(l h l' h':Int):Option AV:=some (tst (Gz h l') (JM h' l))
def aAa(k:IntKind)(l h l' h':Int):Option AV:=some (tst (JM h' l) (Gz h l'))
def aAb(k:IntKind)(l h l' h':Int):Option AV:=some (tst (Gz h' l) (JM h l'))
def aAc(kd:Option TI)(a b:AV):Option AV:=match a with
 | .int k l h=>b2 zr (.int k l h) b
 |a=>Ji kd .eql a b
def aAd(kd:Option TI)(a b:AV):Option AV:=match a with
 | .int k l h=>b2 zw (.int k l h) b
 |a=>Ji kd .neq a b
def nu(kd:Option TI)(op:BinOp)(a b:AV):Option AV:=match op with
 | .add=>b2 XJ a b
 | .sub=>b2 XK a b
 | .mul=>b2 XL a b
 | .quo=>b2 zn a b
 | .rem=>b2 zo a b
 | .and=>b2 zp a b
 | .or=>b2 orI a b
 | .xor=>b2 zq a b
 | .lss=>b2 zx a b
 | .leq=>b2 zy a b
 | .gtr=>b2 aAa a b
 | .geq=>b2 aAb a b
 | .eql=>aAc kd a b
 | .neq=>aAd kd a b
 |op=>Ji kd op a b
theorem ny{f:IntKind->Int->Int->Int->Int->Option AV}(h:b2 f a b=some r):∃k l u l' u',a=.int k l u/\b=.int k l' u'/\f k l u l' u'=some r:=by
 unfold b2 at h;split at h
 ·split at h
  ·rename_i k l u _ k' l' u';cases hk:I9 k k'<;>rw[hk]at h<;>simp only[AN,AO,reduceCtorEq]at h;obtain rfl:=Fz hk;exact⟨_,_,_,_,_,rfl,rfl,h⟩
  ·cases h
 ·cases h
theorem aC(h:nu kd op a b=some r):Ji kd op a b=some r:=by
 have zz:∀{f:IntKind->Int->Int->Int->Int->Option AV} {a b:AV},(∀k l u l' u',f k l u l' u'=Ji kd op (.int k l u) (.int k l' u'))->b2 f a b=some r->Ji kd op a b=some r:=fun hf hb=>by obtain⟨k,l,u,l',u',rfl,rfl,h⟩:=ny hb;rw[<-hf];exact h
 unfold nu at h;split at h
 ·exact zz (fun k l u l' u'=>by simp only[XJ,Ji,Fh,AN,nq]) h
 ·exact zz (fun k l u l' u'=>by simp only[XK,Ji,Fh,AN,UO]) h
 ·exact zz (fun k l u l' u'=>by simp only[XL,Ji,Fh,AN,Ys]) h
 ·exact zz (fun k l u l' u'=>by simp only[zn,Ji,Fh,AN,ef,Bool.true_and]) h
 ·exact zz (fun k l u l' u'=>by simp only[zo,Ji,Fh,AN,ei,UO,Bool.true_and]) h
 ·exact zz (fun k l u l' u'=>by simp only[zp,Ji,Fh,AN,Qy]) h
 ·exact zz (fun k l u l' u'=>by simp only[orI,Ji,Fh,AN,Qy]) h
 ·exact zz (fun k l u l' u'=>by simp only[zq,Ji,Fh,AN,Qy]) h
 ·exact zz (fun k l u l' u'=>by simp only[zx,Ji,Fh,AN]) h
 ·exact zz (fun k l u l' u'=>by simp only[zy,Ji,Fh,AN]) h
 ·exact zz (fun k l u l' u'=>by simp only[aAa,Ji,Fh,AN]) h
 ·exact zz (fun k l u l' u'=>by simp only[aAb,Ji,Fh,AN]) h
 ·unfold aAc at h;split at h
  ·exact zz (fun k l u l' u'=>by simp only[zr,Ji,Fh,AN]) h
  ·exact h
 ·unfold aAd at h;split at h
  ·exact zz (fun k l u l' u'=>by simp only[zw,Ji,Fh,AN]) h
  ·exact h
 ·exact h
theorem nz(h:nu kd op a b=some r)(hx:EM ρ a x)(hy:EM ρ b y):∃v,Hq kd op x y=some v/\EM ρ r v:=nt (aC h) hx hy
def uC(op:BinOp)(n j f m:Nat)(b:AV):Option AV:=match op with
 | .add=>match b with
  | .int k l h=>bif I9 k .i64&&FN l h&&Gz 0 l&&Nat.ble (Nat.add j l.toNat) 1000000 then some (.cnt n (Nat.add j l.toNat) 0 0)else none
  |_=>none
 | .eql=>match b with
  | .cnt n' j' _ _=>bif Nat.beq n n' then some (.boo (some (Nat.beq j j')))else bif Nat.beq f 1&&Nat.beq m n'&&Nat.beq j 0&&Nat.beq j' 0 then some (.boo (some false))else none
  | .rR n'=>bif Nat.beq n n'&&Nat.beq j 0 then some (.boo (some false))else none
  |_=>none
 | .lss=>match b with
  | .cnt m' j' _ _=>bif Nat.beq m m'&&Nat.beq j 0&&Nat.beq j' 0 then(bif Nat.beq f 1 then some (.boo (some true))else bif Nat.beq f 2 then some (.boo (some false))else none)else none
  |_=>none
 |_=>none
theorem oC{f m:Nat}(h:uC op n j f m b=some r)(hx:EM ρ (.cnt n j f m) x)(hy:EM ρ b y):∃v,Hq kd op x y=some v/\EM ρ r v:=by
 cases hx with| @cnt _ _ _ _ q c hρ f1 f2=>
 unfold uC at h;split at h
 ·split at h
  ·rename_i k l hh;cases hb:I9 k .i64&&FN l hh&&Gz 0 l&&Nat.ble (Nat.add j l.toNat) 1000000<;>rw[hb]at h<;>simp only[AN,AO,reduceCtorEq,AH]at h;subst h;simp only[AI,FU,EO]at hb;obtain⟨⟨⟨b1,rfl⟩,b3⟩,b4⟩:=hb;obtain rfl:=Fz b1;have b4:j+l.toNat<=1000000:=AL b4;cases hy with| @int _ _ _ z a1 a2=>
   obtain rfl:z=l:=I;have hq:GQ q<4294967296:=by unfold GQ;omega
   refine⟨.int .i64 (((GQ q+(j+z.toNat):Nat)):Int),?_,.cnt hρ (fun h=>by cases h) (fun h=>by cases h)⟩;have e:IntKind.i64.wrap (((GQ q+j:Nat):Int)+z)=((GQ q+(j+z.toNat):Nat):Int):=by have e0:((GQ q+j:Nat):Int)+z=((GQ q+(j+z.toNat):Nat):Int):=I;rw[e0];exact QI (by rw[Fj];simp only[Vk];omega) (by rw[F2];simp only[XU];omega)
   simpa[Hq]using e
  ·cases h
 ·split at h
  ·rename_i n' j' f' m';cases hb:Nat.beq n n'<;>rw[hb]at h<;>simp only[AN,AO,reduceCtorEq,AH]at h
   ·cases hc:Nat.beq f 1&&Nat.beq m n'&&Nat.beq j 0&&Nat.beq j' 0<;>rw[hc]at h<;>simp only[AN,AO,reduceCtorEq,AH]at h;subst h;simp only[AI]at hc;obtain⟨⟨⟨c1,c2⟩,c3⟩,c4⟩:=hc;obtain rfl:=AK c2;obtain rfl:=AK c3;obtain rfl:=AK c4;obtain⟨q',c',g1,g2⟩:=f1 (AK c1);cases hy with|cnt E8 _ _=>
    rw[g1]at E8;cases E8;refine⟨.bool (decide (((GQ q+0:Nat):Int)=((GQ q'+0:Nat):Int))),by simp[Hq],?_⟩;rw[BW I];exact .boo
   subst h;obtain rfl:=AK hb;cases hy with|cnt E8 _ _=>
   rw[hρ]at E8;cases E8;refine⟨.bool (decide (((GQ q+j:Nat):Int)=((GQ q+j':Nat):Int))),by simp[Hq],?_⟩;have e:decide (((GQ q+j:Nat):Int)=((GQ q+j':Nat):Int))=Nat.beq j j':=by
    rw[GH];by_cases e:j=j'
    ·subst e;simp
    ·rw[BW e,BW I]
   rw[e];exact .boo
  ·rename_i n';cases hb:Nat.beq n n'&&Nat.beq j 0<;>rw[hb]at h<;>simp only[AN,AO,reduceCtorEq,AH]at h;subst h;simp only[AI]at hb;obtain rfl:=AK hb.1;obtain rfl:=AK hb.2;cases hy with| @rR _ _ _ z E8 hz=>
   rw[hρ]at E8;cases E8;refine⟨.bool (decide (((GQ q+0:Nat):Int)=z)),by simp[Hq],?_⟩;rw[BW I];exact .boo
  ·cases h
 ·split at h
  ·rename_i m' j' f' g';cases hb:Nat.beq m m'&&Nat.beq j 0&&Nat.beq j' 0<;>rw[hb]at h<;>simp only[AN,AO,reduceCtorEq]at h;simp only[AI]at hb;obtain⟨⟨hb1,hb2⟩,hb3⟩:=hb;obtain rfl:=AK hb1;obtain rfl:=AK hb2;obtain rfl:=AK hb3;cases hy with| @cnt _ _ _ _ q2 c2 E8 _ _=>
   cases h1:Nat.beq f 1 with
   |true=>rw[h1]at h;simp only[AN,AH]at h;subst h;obtain⟨q',c',g1,g2⟩:=f1 (AK h1);rw[g1]at E8;cases E8;refine⟨.bool (decide (((GQ q+0:Nat):Int)<((GQ q2+0:Nat):Int))),by simp[Hq],?_⟩;rw[Bq I];exact .boo
   |false=>rw[h1]at h;simp only[AO]at h;cases h2:Nat.beq f 2<;>rw[h2]at h<;>simp only[AN,AO,reduceCtorEq,AH]at h;subst h;obtain⟨q',c',g1,g2⟩:=f2 (AK h2);rw[g1]at E8;cases E8;refine⟨.bool (decide (((GQ q+0:Nat):Int)<((GQ q2+0:Nat):Int))),by simp[Hq],?_⟩;rw[BW I];exact .boo
  ·cases h
 ·cases h
def Jy:Value->AV
 | .int k z=>.int k z z
 | .bool b=>.boo (some b)
 |v=>.val v
theorem KA(v:Value):EM ρ (Jy v) v:=by cases v<;>simp only[Jy]<;>first|exact .val|exact .int (A4 _) (A4 _)|exact .boo
def ao(t:C7 AV):Operand->Option AV
 | .tmp s=>t.get s
 | .const v=>some (Jy v)
 | .global _=>none
 | .func f=>some (.fn f [] [])
theorem DG(h:Kr ρ t fr){x:Operand}(hx:ao t x=some a):∃v,Eg fr x=some v/\EM ρ a v:=by
 cases x with
 |tmp s=>exact h s a hx
 |const v=>simp only[ao,AH]at hx;subst hx;exact⟨v,rfl,KA v⟩
 |global g=>cases hx
 |func f=>simp only[ao,AH]at hx;subst hx;exact⟨_,rfl,.fn .nil .nil⟩
def W7(t:C7 AV):List Operand->Option (List AV)
 |[]=>some []
 |x::r=>match ao t x with
  |some a=>match W7 t r with
   |some l=>some (a::l)
   |none=>none
  |none=>none
theorem Ks{ρ:Nm}{t:C7 AV}{fr:Fr}(h:Kr ρ t fr):∀{l:List Operand} {AA:List AV},W7 t l=some AA->∃vs,FP fr l=some vs/\Bt ρ AA vs
 |[],AA,e=>by simp[W7]at e;subst e;exact⟨[],rfl,.nil⟩
 |x::r,AA,e=>by
  simp only[W7]at e;split at e
  ·rename_i a ha;split at e
   ·rename_i l hl;simp only[AH]at e;subst e;obtain⟨v,h1,h2⟩:=DG h ha;obtain⟨vs,h3,h4⟩:=Ks h hl;exact⟨v::vs,by simp[FP,h1,h3],.cons h2 h4⟩
   ·cases e
  ·cases e
def uD(T:Tr)(t:C7 AV)(c a b:Operand):Option AV:=match ao t c with
 |some (.boo (some u))=>bif u then ao t a else ao t b
 |_=>none
def uE(T:Tr)(t:C7 AV)(x:Operand):Option AV:=match ao t x with
 |some (.Au n off)=>some (.Au n off)
 |some (.fn f a b)=>some (.fn f a b)
 |_=>none
def NW(T:Tr)(t:C7 AV)(op:BinOp)(u:Nat)(x y:Operand):Option AV:=match ao t x with
 |some a=>match ao t y with
  |some b=>match a with
   | .cnt n j f m=>uC op n j f m b
   |a=>nu (T.get u) op a b
  |none=>none
 |none=>none
def uF(T:Tr)(t:C7 AV)(x:Operand):Option AV:=match ao t x with
 |some (.boo (some b))=>some (.boo (some (!b)))
 |some (.boo none)=>some (.boo none)
 |_=>none
def uG(T:Tr)(t:C7 AV)(x:Operand):Option AV:=match ao t x with
 |some (.int k l h)=>some (fit k (Int.sub 0 h) (Int.sub 0 l))
 |_=>none
def uH(T:Tr)(t:C7 AV)(x:Operand):Option AV:=match ao t x with
 |some (.int k l h)=>bif FN l h then some (.int k (bits .xor k (if k.signed then-1 else k.max) l) (bits .xor k (if k.signed then-1 else k.max) l))else some (M3 k)
 |_=>none
def oD(T:Tr)(t:C7 AV)(s d:Nat)(x:Operand):Option AV:=bif Nat.beq s d then none else match ao t x with
 |some (.int _ l h)=>match T.get s with
  |some _=>match T.get d with
   |some ⟨.int k',_⟩=>some (fit k' l h)
   |_=>none
  |none=>none
 |some (.val (.string b))=>match T.get s with
  |some ⟨.str,_⟩=>match T.get d with
   |some ⟨.str,_⟩=>some (.val (.string b))
   |_=>none
  |_=>none
 |_=>none
def ew(T:Tr)(t:C7 AV)(s:Nat)(x:Operand)(f:Nat):Option AV:=match ao t x with
 |some (.Au n o)=>match T.off s f with
  |some k=>some (.Au n (Nat.add o k))
  |none=>none
 |_=>none
def ey(T:Tr)(t:C7 AV)(x:Operand)(i:Nat):Option AV:=match ao t x with
 |some (.Ec l)=>E1 l i
 |_=>none
def fA(T:Tr)(t:C7 AV)(f:Nat)(a c:Array Operand):Option AV:=match W7 t a.toList with
 |some x=>match W7 t c.toList with
  |some y=>some (.fn f x y)
  |none=>none
 |none=>none
def fB(T:Tr)(t:C7 AV)(u:Nat)(x:Operand):Option AV:=match ao t x with
 |some v=>match T.get u with
  |some ⟨.st _,_⟩=>some (.LU u v)
  |some ⟨.int _,_⟩=>some (.LU u v)
  |some ⟨.Au,_⟩=>some (.LU u v)
  |_=>none
 |none=>none
def fC(T:Tr)(t:C7 AV)(x:Operand)(u:Nat):Option AV:=match ao t x with
 |some (.sl _ _ n _)=>match T.get u with
  |some ⟨.sl _ _,_⟩=>some (.int .i64 (Int.ofNat n) (Int.ofNat n))
  |_=>none
 |some (.G3 _ n)=>match T.get u with
  |some ⟨.sl _ _,_⟩=>some (.int .i64 (Int.ofNat n) (Int.ofNat n))
  |_=>none
 |some (.O3 _ _ n)=>match T.get u with
  |some ⟨.sl _ _,_⟩=>some (.int .i64 (Int.ofNat n) (Int.ofNat n))
  |_=>none
 |some (.val (.slice _ n _))=>match T.get u with
  |some ⟨.sl _ _,_⟩=>some (.int .i64 (Int.ofNat n) (Int.ofNat n))
  |_=>none
 |some (.val (.string s))=>match T.get u with
  |some ⟨.str,_⟩=>some (.int .i64 (Int.ofNat s.size) (Int.ofNat s.size))
  |_=>none
 |some (.agg _)=>match T.get u with
  |some ⟨.arr n _ _,_⟩=>some (.int .i64 (Int.ofNat n) (Int.ofNat n))
  |_=>none
 |some (.GY _ b _ _ 2)=>match T.get u with
  |some ⟨.sl _ _,_⟩=>some (.cnt b 0 0 0)
  |_=>none
 |_=>none
def fD(T:Tr)(t:C7 AV)(x y:Operand):Option AV:=match ao t x with
 |some (.int k l h)=>match ao t y with
  |some (.int _ l' h')=>some (.int k (bif JM l' l then l' else l) (bif JM h' h then h' else h))
  |some (.cnt n 0 _ _)=>bif I9 k .i64&&Gz 0 l then some (.idx n)else none
  |_=>none
 |_=>none
def fE(T:Tr)(t:C7 AV)(x y:Operand):Option AV:=match ao t x with
 |some (.int k l h)=>match ao t y with
  |some (.int _ l' h')=>some (.int k (bif JM l l' then l' else l) (bif JM h h' then h' else h))
  |_=>none
 |_=>none
def fF(T:Tr)(t:C7 AV)(x:Operand)(u:Nat):Option AV:=match ao t x with
 |some (.sl _ _ _ c)=>match T.get u with
  |some ⟨.sl _ _,_⟩=>some (.int .i64 (Int.ofNat c) (Int.ofNat c))
  |_=>none
 |some (.val (.slice _ _ c))=>match T.get u with
  |some ⟨.sl _ _,_⟩=>some (.int .i64 (Int.ofNat c) (Int.ofNat c))
  |_=>none
 |_=>none
def fG(T:Tr)(t:C7 AV):Op->Option AV
 | .move x=>ao t x
 | .assign x=>ao t x
 | .pick c a b=>uD T t c a b
 | .nilCheck x=>uE T t x
 | .binOp op u x y _=>NW T t op u x y
 | .unOp .not _ x=>uF T t x
 | .unOp .neg _ x=>uG T t x
 | .unOp .xor _ x=>uH T t x
 | .convert s d x=>oD T t s d x
 | .fieldAddr s x f=>ew T t s x f
 | .extract x i=>ey T t x i
 | .makeFunc (.func f) a c=>fA T t f a c
 | .makeInterface u x=>fB T t u x
 | .call ⟨.builtin .len,⟨[x]⟩,⟨[u]⟩⟩=>fC T t x u
 | .call ⟨.builtin .min,⟨[x,y]⟩,_⟩=>fD T t x y
 | .call ⟨.builtin .max,⟨[x,y]⟩,_⟩=>fE T t x y
 | .call ⟨.builtin .cap,⟨[x]⟩,⟨[u]⟩⟩=>fF T t x u
 |_=>none
theorem uI{T:Tr}(hF:Kr ρ t fr){op:Op}(h:fG T t op=some r):∃v,EW T fr op=some v/\EM ρ r v:=by
 unfold fG at h;split at h;case h_1 x|h_2 x=>exact DG hF h
 case h_3 c a b=>
  unfold uD at h;split at h
  ·rename_i u hc;obtain⟨v,h1,h2⟩:=DG hF hc;cases h2;cases u<;>simp only[AN,AO]at h<;>obtain⟨w,h3,h4⟩:=DG hF h<;>exact⟨w,by simp[EW,h1,h3],h4⟩
  ·cases h
 case h_4 x=>
  unfold uE at h;split at h
  ·rename_i hx;obtain⟨v,h1,h2⟩:=DG hF hx;simp only[AH]at h;subst h;cases h2 with|Au h3=>exact⟨_,by simp[EW,h1],.Au h3⟩
  ·rename_i hx;obtain⟨v,h1,h2⟩:=DG hF hx;simp only[AH]at h;subst h;cases h2 with|fn h3 h4=>exact⟨_,by simp[EW,h1],.fn h3 h4⟩
  ·cases h
 case h_5 op u x y _=>
  unfold NW at h;split at h
  ·rename_i a hx;split at h
   ·rename_i b hy;obtain⟨v,h1,h2⟩:=DG hF hx;obtain⟨w,h3,h4⟩:=DG hF hy;split at h
    ·obtain⟨z,h5,h6⟩:=oC (kd:=T.get u) h h2 h4;exact⟨z,by simp[EW,h1,h3,h5],h6⟩
    ·obtain⟨z,h5,h6⟩:=nz h h2 h4;exact⟨z,by simp[EW,h1,h3,h5],h6⟩
   ·cases h
  ·cases h
 case h_6 x=>
  unfold uF at h;split at h
  ·rename_i hx;obtain⟨v,h1,h2⟩:=DG hF hx;simp only[AH]at h;subst h;cases h2;exact⟨_,by simp[EW,h1],.boo⟩
  ·rename_i hx;obtain⟨v,h1,h2⟩:=DG hF hx;simp only[AH]at h;subst h;cases h2 with| @Jh b=>
   exact⟨.bool (!b),by simp[EW,h1],.Jh⟩
  ·cases h
 case h_7 x=>
  unfold uG at h;split at h
  ·rename_i hx;obtain⟨v,h1,h2⟩:=DG hF hx;simp only[AH]at h;subst h;cases h2 with|int a1 a2=>
   exact⟨_,by simp[EW,h1]<;>rfl,Lj (Int.sub_le_sub_left a2 0) (Int.sub_le_sub_left a1 0)⟩
  ·cases h
 case h_8 x=>
  unfold uH at h;split at h
  ·rename_i k l hh hx;obtain⟨v,h1,h2⟩:=DG hF hx;cases h2 with| @int _ _ _ z a1 a2=>
   refine⟨_,by simp[EW,h1]<;>rfl,?_⟩;cases he:FN l hh with
   |true=>rw[he]at h;simp only[AN,AH]at h;subst h;rw[EO]at he;obtain rfl:z=l:=I;exact .int (A4 _) (A4 _)
   |false=>rw[he]at h;simp only[AO,AH]at h;subst h;exact JA _
  ·cases h
 case h_9 s d x=>
  unfold oD at h;cases hsd:Nat.beq s d<;>rw[hsd]at h<;>simp only[AN,AO,reduceCtorEq]at h;split at h
  ·rename_i k l hh hx;split at h
   ·rename_i ti hs;split at h
    ·rename_i k' sz hd;obtain⟨v,h1,h2⟩:=DG hF hx;simp only[AH]at h;subst h;cases h2 with|int a1 a2=>
     exact⟨_,by simp[EW,hsd,h1,hs,hd]<;>rfl,Lj a1 a2⟩
    ·cases h
   ·cases h
  ·rename_i b hx;split at h
   ·rename_i sz hs;split at h
    ·rename_i sz' hd;obtain⟨v,h1,h2⟩:=DG hF hx;simp only[AH]at h;subst h;cases h2;exact⟨_,by simp[EW,hsd,h1,hs,hd],.val⟩
    ·cases h
   ·cases h
  ·cases h
 case h_10 s x f=>
  unfold ew at h;split at h
  ·rename_i n o hx;split at h
   ·rename_i k ho;obtain⟨v,h1,h2⟩:=DG hF hx;simp only[AH]at h;subst h;cases h2 with|Au h3=>
    exact⟨_,by simp[EW,h1,ho]<;>rfl,.Au h3⟩
   ·cases h
  ·cases h
 case h_11 x i=>
  unfold ey at h;split at h
  ·rename_i l hx;obtain⟨v,h1,h2⟩:=DG hF hx;cases h2 with|Ec h3=>
   obtain⟨w,h4,h5⟩:=h3.at h;exact⟨w,by simp[EW,h1,h4],h5⟩
  ·cases h
 case h_12 f a c=>
  unfold fA at h;split at h
  ·rename_i xs hx;split at h
   ·rename_i ys hy;obtain⟨vs,h1,h2⟩:=Ks hF hx;obtain⟨us,h3,h4⟩:=Ks hF hy;simp only[AH]at h;subst h;exact⟨_,by simp[EW,h1,h3],.fn h2 h4⟩
   ·cases h
  ·cases h
 case h_13 u x=>
  unfold fB at h;split at h
  ·rename_i a hx;obtain⟨v,h1,h2⟩:=DG hF hx;split at h
   ·rename_i hg;simp only[AH]at h;subst h;exact⟨_,by simp[EW,h1,hg],.LU h2⟩
   ·rename_i hg;simp only[AH]at h;subst h;exact⟨_,by simp[EW,h1,hg],.LU h2⟩
   ·rename_i hg;simp only[AH]at h;subst h;exact⟨_,by simp[EW,h1,hg],.LU h2⟩
   ·cases h
  ·cases h
 case h_14 x u=>
  unfold fC at h;split at h
  ·rename_i hx;obtain⟨v,h1,h2⟩:=DG hF hx;split at h
   ·rename_i hg;simp only[AH]at h;subst h;cases h2;exact⟨_,by simp[EW,h1,hg]<;>rfl,.int (A4 _) (A4 _)⟩
   ·cases h
  ·rename_i hx;obtain⟨v,h1,h2⟩:=DG hF hx;split at h
   ·rename_i hg;simp only[AH]at h;subst h;cases h2;exact⟨_,by simp[EW,h1,hg]<;>rfl,.int (A4 _) (A4 _)⟩
   ·cases h
  ·rename_i hx;obtain⟨v,h1,h2⟩:=DG hF hx;split at h
   ·rename_i hg;simp only[AH]at h;subst h;cases h2;exact⟨_,by simp[EW,h1,hg]<;>rfl,.int (A4 _) (A4 _)⟩
   ·cases h
  ·rename_i hx;obtain⟨v,h1,h2⟩:=DG hF hx;split at h
   ·rename_i hg;simp only[AH]at h;subst h;cases h2;exact⟨_,by simp[EW,h1,hg]<;>rfl,.int (A4 _) (A4 _)⟩
   ·cases h
  ·rename_i hx;obtain⟨v,h1,h2⟩:=DG hF hx;split at h
   ·rename_i hg;simp only[AH]at h;subst h;cases h2;exact⟨_,by simp[EW,h1,hg]<;>rfl,.int (A4 _) (A4 _)⟩
   ·cases h
  ·rename_i hx;obtain⟨v,h1,h2⟩:=DG hF hx;split at h
   ·rename_i hg;simp only[AH]at h;subst h;cases h2;exact⟨_,by simp[EW,h1,hg]<;>rfl,.int (A4 _) (A4 _)⟩
   ·cases h
  ·rename_i hx;obtain⟨v,h1,h2⟩:=DG hF hx;split at h
   ·rename_i hg;simp only[AH]at h;subst h;cases h2 with| @GY _ _ _ _ _ _ _ qq cc _ _ hρ hv=>
    rcases hv with⟨rfl,rfl,h0⟩|⟨_,off,len,cap,rfl,_,_,_,_,h5⟩
    ·exact⟨.int .i64 ((GQ qq+0:Nat):Int),by simp[EW,h1,hg,h0 J],.cnt hρ (fun h=>by cases h) (fun h=>by cases h)⟩
    ·have hh5:=h5 J;exact⟨.int .i64 ((GQ qq+0:Nat):Int),by simp[EW,h1,hg,hh5],.cnt hρ (fun h=>by cases h) (fun h=>by cases h)⟩
   ·cases h
  ·cases h
 case h_15 x y _=>
  unfold fD at h;split at h
  ·rename_i k l hh hx;split at h
   ·rename_i k' l' h' hy;obtain⟨v,h1,h2⟩:=DG hF hx;obtain⟨u,h3,h4⟩:=DG hF hy;simp only[AH]at h;subst h;cases h2 with| @int _ _ _ z a1 a2=>cases h4 with| @int _ _ _ z' b1 b2=>
    refine⟨_,by simp[EW,h1,h3]<;>rfl,.int ?_ ?_⟩
    ·cases hc:JM l' l<;>simp only[AN,AO]<;>split<;>(first|rw[HH]at hc|replace hc:=MM hc)<;>omega
    ·cases hc:JM h' hh<;>simp only[AN,AO]<;>split<;>(first|rw[HH]at hc|replace hc:=MM hc)<;>omega
   ·rename_i n _ _ hy;obtain⟨v,h1,h2⟩:=DG hF hx;obtain⟨u,h3,h4⟩:=DG hF hy;cases hb:I9 k .i64&&Gz 0 l<;>rw[hb]at h<;>simp only[AN,AO,reduceCtorEq,AH]at h;subst h;simp only[AI,FU]at hb;obtain rfl:=Fz hb.1;cases h2 with| @int _ _ _ z a1 a2=>cases h4 with| @cnt _ _ _ _ q c hρ _ _=>
    simp only[CV]at h3;refine⟨_,by simp[EW,h1,h3]<;>rfl,.idx hρ ?_ ?_⟩<;>split<;>omega
   ·cases h
  ·cases h
 case h_16 x y _=>
  unfold fE at h;split at h
  ·rename_i k l hh hx;split at h
   ·rename_i k' l' h' hy;obtain⟨v,h1,h2⟩:=DG hF hx;obtain⟨u,h3,h4⟩:=DG hF hy;simp only[AH]at h;subst h;cases h2 with| @int _ _ _ z a1 a2=>cases h4 with| @int _ _ _ z' b1 b2=>
    refine⟨_,by simp[EW,h1,h3]<;>rfl,.int ?_ ?_⟩
    ·cases hc:JM l l'<;>simp only[AN,AO]<;>split<;>(first|rw[HH]at hc|replace hc:=MM hc)<;>omega
    ·cases hc:JM hh h'<;>simp only[AN,AO]<;>split<;>(first|rw[HH]at hc|replace hc:=MM hc)<;>omega
   ·cases h
  ·cases h
 case h_17 x u=>
  unfold fF at h;split at h
  ·rename_i hx;obtain⟨v,h1,h2⟩:=DG hF hx;split at h
   ·rename_i hg;simp only[AH]at h;subst h;cases h2;exact⟨_,by simp[EW,h1,hg]<;>rfl,.int (A4 _) (A4 _)⟩
   ·cases h
  ·rename_i hx;obtain⟨v,h1,h2⟩:=DG hF hx;split at h
   ·rename_i hg;simp only[AH]at h;subst h;cases h2;exact⟨_,by simp[EW,h1,hg]<;>rfl,.int (A4 _) (A4 _)⟩
   ·cases h
  ·cases h
 case h_18=>cases h
end
end Go.Proofs.YtfekkjbdcdnhlaaGreatDoor.Sep
