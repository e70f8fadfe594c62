/- Lemmas for TopScrubs. No condition but those that each states. -/
import Derived.Test.YtfekkjbdcdnhlaaGreatDoorMaj
import Derived.Test.YtfekkjbdcdnhlaaGreatDoorMao
set_option linter.all false
set_option maxHeartbeats 8000000
set_option maxRecDepth 100000
namespace Go.Proofs.YtfekkjbdcdnhlaaGreatDoor.Sep
noncomputable section
theorem C2{α:Type}{l m:List α}(h:∀(_:DecidableEq α) (x:α),l.count x=m.count x):l.Perm m:=by
 classical
 exact List.perm_iff_count.2 fun x=>h _ x
abbrev OE:=Qk×List Int
def iq(q:Qk):List Int:=q.1.2.2.2.map fun c=>(c.toNat:Int)
variable{k dm:Int}{key X:List Int}
theorem gU(hk:key.length=32)(hX:BN X):iq (qk k key dm X hk)=X:=by
 simp only[iq,qk,Vh,List.map_map];conv=>rhs;rw[<-List.map_id X]
 refine BB fun x hx=> ?_
 have:=hX x hx;simp only[Function.comp,id];rw[UInt8.toNat_ofNat',Dh I];omega
theorem Xp(q:Qk):Vh (iq q)=q.1.2.2.2:=by
 simp only[iq,Vh,List.map_map];conv=>rhs;rw[<-List.map_id q.1.2.2.2]
 refine BB fun x hx=> ?_
 simp
def I6:List OE->Qk->Option Nat
 |[],_=>none
 |e::r,q=>if q=e.1 then some 0 else(I6 r q).map (·+1)
theorem OH:∀{es:List OE} {q:Qk} {i:Nat},I6 es q=some i->∃h:i<es.length,es[i].1=q
 |[],_,_,h=>by simp[I6]at h
 |e::r,q,i,h=>by
  simp only[I6]at h;split at h
  ·rename_i hq;cases h;exact⟨by simp,hq.symm⟩
  ·cases ho:I6 r q with
   |none=>rw[ho]at h;simp at h
   |some j=>rw[ho]at h;simp only[CZ,AH]at h;subst h;obtain⟨h1,h2⟩:=OH ho;exact⟨by simp;omega,by simpa using h2⟩
theorem TV:∀{es:List OE} {q:Qk} {a:List Int},I6 es q=none->∀q',I6 (es++[(q,a)]) q'=if q'=q then some es.length else I6 es q'
 |[],q,a,_,q'=>by simp[I6]
 |e::r,q,a,h,q'=>by
  simp only[I6]at h;split at h
  ·cases h
  ·rename_i hq;have h:I6 r q=none:=by simpa using h
   have ih:=TV (a:=a) h q';simp only[AQ,I6,ih];by_cases h1:q'=e.1
   ·have:q'≠q:=fun e2=>hq (e2▸h1)
    simp[h1,this];intro e2;exact absurd e2.symm hq
   ·by_cases h2:q'=q
    ·subst h2;simp[h1]
    ·simp[h1,h2]
def Ff(D:List (List Int))(u:Nat)(es:List OE)(q:Qk):List Int×Nat×List OE:=match I6 es q with
 |some i=>((es[i]?.map (·.2)).getD [],u,es)
 |none=>(Ed D u,u+1,es++[(q,Ed D u)])
def M8:List OE->List Value->List Value
 |e::r,dv::s=>(qL e.1.1.1 e.1.1.2.1 e.1.1.2.2.1 dv++bs e.2)++M8 r s
 |_,_=>[]
theorem TW{e:OE}{dv:Value}:∀{es:List OE} {IH:List Value},IH.length=es.length->M8 (es++[e]) (IH++[dv])=M8 es IH++(qL e.1.1.1 e.1.1.2.1 e.1.1.2.2.1 dv++bs e.2)
 |[],[],_=>by simp[M8]
 |[],_::_,h=>by simp at h
 |_::_,[],h=>by simp at h
 |x::r,y::s,h=>by have ih:=TW (e:=e) (dv:=dv) (es:=r) (IH:=s) (by simpa using h);simp only[AQ,M8,ih,AU]
theorem Ui:∀{es:List OE} {IH:List Value} {i:Nat},IH.length=es.length->(∀e∈es,e.2.length=32)->(hi:i<es.length)->(hd:i<IH.length)->((M8 es IH).drop (i*67)).take 67=qL es[i].1.1.1 es[i].1.1.2.1 es[i].1.1.2.2.1 IH[i]++bs es[i].2
 |x::r,y::s,0,h,ha,_,_=>by have h1:=Ee (k:=x.1.1.1) (dm:=x.1.1.2.2.1) (dv:=y) x.1.2;have h2:=ha x DI;simp only[M8,Nat.zero_mul,BL,List.getElem_cons_zero];rw[Ar (by simp[Aa,h1,h2]),AX (by simp[Aa,h1,h2])]
 |x::r,y::s,i+1,h,ha,hi,hd=>by
  have h1:=Ee (k:=x.1.1.1) (dm:=x.1.1.2.2.1) (dv:=y) x.1.2;have h2:=ha x DI;have ih:=Ui (es:=r) (IH:=s) (i:=i) (by simpa using h) (fun e he=>ha e (by simp[he])) (by simpa using hi) (by simpa using hd)
  simp only[M8,List.getElem_cons_succ];rw[show(i+1)*67=(qL x.1.1.1 x.1.1.2.1 x.1.1.2.2.1 y++bs x.2).length+i*67 by simp[Aa,h1,h2];omega,<-EU,List.drop_left' J];exact ih
inductive HD:List OE->List Value->A2->Prop
 |nil:HD [] [] []
 |cons {q:Qk} {a:List Int} {dv:Value} {dH:A2} {es:List OE} {IH:List Value} {H:A2} (h:XY (iq q) dv dH) (k:HD es IH H):HD ((q,a)::es) (dv::IH) (dH++H)
theorem HD.snoc{q:Qk}{a:List Int}{dv:Value}{dH:A2}:∀{es:List OE} {IH:List Value} {H:A2},HD es IH H->XY (iq q) dv dH->HD (es++[(q,a)]) (IH++[dv]) (H++dH)
 |_,_,_,.nil,h=>by simpa using HD.cons (a:=a) h .nil
 |_,_,_,.cons h1 k,h=>by rw[AU];exact .cons h1 (HD.snoc k h)
theorem HD.len:∀{es:List OE} {IH:List Value} {H:A2},HD es IH H->IH.length=es.length
 |_,_,_,.nil=>rfl
 |_,_,_,.cons _ k=>by simp[k.len]
def aCM(L:List (Qk×Value×Nat))(es:List OE):Prop:=∀q,E9 L q=(I6 es q).map fun(i:Nat)=>Value.int .i64 (i:Int)
theorem O8{α:Type}[DecidableEq α](a:α)(v:Value)(clk:Nat)(b:α):∀L:List (α×Value×Nat),E9 (F8 L a v clk) b=if b=a then some v else E9 L b
 |[]=>by simp[F8,E9]
 |p::r=>by
  have ih:=O8 a v clk b r;simp only[F8];by_cases h:a=p.1
  ·subst h;by_cases h2:b=p.1
   ·simp[E9,h2]
   ·simp[E9,h2]
  ·simp only[h,Cc,E9,ih];by_cases h2:b=p.1
   ·subst h2;simp[Ne.symm h]
   ·simp[h2]
def Sj(M:List Int)(D:List (List Int))(u:Nat)(es:List OE)(b:Nat)(comp:List CH):Prop:=∃ds kb clk ls L IH lC Hv dH,comp=[oB b M ds u kb ls,DX Gq kb L clk,lC,Hv,dH.flatten].flatten/\M.length=32/\SX D ds Hv/\TL es.length (M8 es IH) ls lC/\HD es IH dH/\aCM L es/\∀e∈es,e.2.length=32/\e.1.1.2.2.2.length<1048576
def vM(M:List Int)(D:List (List Int))(b:Nat)(dC:List CH)(v:Value)(u:Nat)(es:List OE):Ending->A2->Prop:=fun e S'=>∃c',e=.returned v/\S'=[c',dC]/\Sj M D u es b c'
variable{M:List Int}{D:List (List Int)}{u b:Nat}{es:List OE}{comp dC:List CH}
theorem MR{dv cv:Value}(hO:Sj M D u es b comp)(hk:key.length=32)(hd:G9 X dv dC)(Ix:BN X)(Hw:X.length<1048576)(hu:u<1099511627776)(hDl:D.length<1099511627776)(hn:es.length<4294967296):
 Fn Tryz.prog 94 [Au b,.agg (qL k key dm dv).toArray,cv] [comp,dC] (vM M D b dC (.agg (bs (Ff D u es (qk k key dm X hk)).1).toArray) (Ff D u es (qk k key dm X hk)).2.1 (Ff D u es (qk k key dm X hk)).2.2):=by
 obtain⟨ds,kb,clk,ls,L,IH,lC,Hv,dH,rfl,hM,hdr,M5,hds,hkn,hes⟩:=hO;have hL:=hkn (qk k key dm X hk);cases hi:I6 es (qk k key dm X hk)with
 |some i=>
  rw[hi]at hL;obtain⟨hlt,hq⟩:=OH hi;have hld:=hds.len;have hlt':i<IH.length:=I;have hea:es[i].2.length=32:=(hes _ (B1 hlt)).1;have hres:Ff D u es (qk k key dm X hk)=(es[i].2,u,es):=by simp[Ff,hi,AZ hlt]
  rw[hres];rcases M5 with⟨h0,_⟩|⟨lb,M4,ex,rfl,hnl,rfl,hll,hle⟩
  ·omega
  ·have hat:=Ui hld (fun e he=>(hes e he).1) hlt hlt';have hl:(((M8 es IH++ex)).drop (i*67+35)).take 32=bs es[i].2:=by
    have h1:((M8 es IH++ex).drop (i*67)).take 67=qL es[i].1.1.1 es[i].1.1.2.1 es[i].1.1.2.2.1 IH[i]++bs es[i].2:=by rw[DT I,Ar (by rw[B9];omega),hat]
    rw[<-EU];have h2:=congrArg (List.drop 35) h1;rw[List.drop_take,List.drop_left' (Ee es[i].1.2)]at h2;exact h2
   refine(UR (b:=b) (kb:=kb) (lb:=lb) (SH:=M8 es IH++ex) (clk:=clk) (n:=es.length) (M4:=M4) (ds:=ds) (cv:=cv) (u:=u) hM hk hd hL hlt hea hl).Cd (F:=[Hv,dH.flatten]) ?_ ?_
   ·refine C2 fun _ x=> ?_
    simp only[AW,A0,Am,AQ,AS,Ax];omega
   ·rintro e S' ⟨rfl,rfl⟩;refine⟨_,⟨_,rfl,rfl,ds,kb,clk,_,L,IH,_,Hv,dH,rfl,hM,hdr,.inr ⟨lb,M4,ex,rfl,hnl,rfl,hll,hle⟩,hds,hkn,hes⟩,?_⟩;refine C2 fun _ x=> ?_
    simp only[AW,A0,Am,AQ,AS,Ax];omega
 |none=>
  rw[hi]at hL;have hres:Ff D u es (qk k key dm X hk)=(Ed D u,u+1,es++[(qk k key dm X hk,Ed D u)]):=by simp[Ff,hi]
  rw[hres];refine(XZ (b0:=b) (kb:=kb) (n:=es.length) (clk:=clk) (cv:=cv) hM hk hdr hu hDl hd Hw M5 hn hL).Cd (F:=[dH.flatten]) ?_ ?_
  ·refine C2 fun _ x=> ?_
   simp only[AW,A0,Am,AQ,AS,Ax];omega
  ·rintro e S' ⟨⟨dv',dH',ls',lC'⟩,⟨h1,h2⟩,rfl,rfl⟩;dsimp only at h1 h2⊢;refine⟨_,⟨_,rfl,rfl,ds,kb,J8 L (qk k key dm X hk) clk,ls',F8 L (qk k key dm X hk) (.int .i64 es.length) clk,IH++[dv'],lC',Hv,dH++dH',rfl,hM,hdr,?_,?_,?_,?_⟩,?_⟩
   ·rw[Aq,TW hds.len];exact h2
   ·exact hds.snoc (by rw[gU hk Ix];exact h1)
   ·intro q;rw[O8,TV hi];by_cases hq:q=qk k key dm X hk
    ·simp[hq]
    ·simp only[hq,Cc];exact hkn q
   ·intro e he;rcases Aj.1 he with he|he
    ·exact hes e he
    ·simp only[AP]at he;subst he;exact⟨IT hdr.1 u,by simpa[Vh]using Hw⟩
   ·refine C2 fun _ x=> ?_
    simp only[AW,A0,Am,AQ,AS,A6,Ax];omega
theorem MS{A B:List Int}(h:BN A)(k:BN B):BN (A++B):=fun x hx=>by
 rcases Aj.1 hx with hx|hx
 ·exact h x hx
 ·exact k x hx
theorem RY(h:∀x∈D,BN x)(u:Nat):BN (Ed D u):=by
 unfold Ed;rw[BR];cases hd:D[u]? with
 |none=>exact MS (MS (JE u 8) (E0 23)) (fun x hx=>by simp only[AP]at hx;omega)
 |some x=>exact h x (EQ hd)
def G1(ob K:Nat)(d:List Nat)(b:Nat)(comp:List CH):Prop:=∃j,d=[j]/\b=ob/\∃M D u es,Sj M D u es b comp/\D.length<1099511627776/\u<=K+j/\es.length<=K+j/\(∀x∈D,BN x)/\∀e∈es,BN e.2
variable{ob K a:Nat}
theorem KH{AC:Nat}{c:List CH}:G1 ob K [AC+a] b c↔G1 ob (K+AC) [a] b c:=by
 constructor
 ·rintro⟨j,h,rest⟩;cases h;rw[<-Nat.add_assoc]at rest;exact⟨a,rfl,rest⟩
 ·rintro⟨j,h,rest⟩;cases h;rw[Nat.add_assoc]at rest;exact⟨AC+a,rfl,rest⟩
theorem FQ{a':Nat}{c:List CH}(h:a<=a'):G1 ob K [a] b c->G1 ob K [a'] b c:=by rintro⟨j,e,hb,M,D,u,es,h1,h2,h3,h4,h5⟩;cases e;exact⟨a',rfl,hb,M,D,u,es,h1,h2,I,I,h5⟩
def K4(k i δ:Nat)(DK:List AV)(res:AV)(R:Nat):List AV->St->Option (List R1):=fun args s=>match s.hp.get k with
 |some (.res i' [j])=>bif G0 args DK&&Nat.beq i i'&&Nat.ble (Nat.add j δ) R then some [.val res (s.set k (.res i [Nat.add j δ]))]else none
 |_=>none
theorem Jq{P:Program}{RS:EA}{f k i δ R:Nat}{DK:List AV}{res:AV}
 (H:∀(ρ:Nm) (b c j:Nat) (comp:List CH) (vs:List Value),j+δ<=R->ρ[k]? =some (b,c)->RS i [j] b comp->Bt ρ DK vs->Fn P f vs [comp] (Ik RS ρ i [j+δ] b res)):ET P RS f (K4 k i δ DK res R):=by
 intro args s rs hc p hst hp vs hvs;subst hst;unfold K4 at hc;split at hc
 ·rename_i i' j hget;cases hcond:G0 args DK&&Nat.beq i i'&&Nat.ble (Nat.add j δ) R<;>rw[hcond]at hc<;>simp only[AN,AO,reduceCtorEq,AH]at hc;subst hc;simp only[AI]at hcond;obtain⟨⟨hle,hi⟩,hR⟩:=hcond;obtain rfl:=AK hi;obtain⟨hlive,hcb⟩:=hp.mem hget;generalize hC:p.C k=ck at hcb;cases hcb with| @res _ b c _ cs hρ hr=>
  have hS:=hp.H.pick hlive;rw[hC]at hS;intro A U w hs;have hs':Ds A w ([ck]++((p.live.erase k).map p.C++U)):=by have:=hs.perm (hS.append_right U);simpa using this
  refine(H p.ρ b c j ck vs (AL hR) hρ hr (GR hvs hle) A _ w hs').mono ?_;rintro e w' ⟨h0,S',h1,c',v,rfl,rfl,h2,h3⟩;refine⟨h0,c'::(p.live.erase k).map p.C,by simpa using h1,.inl ⟨res,_,AP.2 J,p.set k (.res i [Nat.add j δ]) c',v,rfl,rfl,rfl,.set p k _ _,hp.set hlive (.res hρ h2),h3,rfl⟩⟩
 ·cases hc
theorem Jr{kb:Nat}{ds ls:Value}(hM:M.length=32):Fn Tryz.prog 65 [Au b] [oB b M ds u kb ls] (E4 (.bool true) [oB b M ds u kb ls]):=by refine Fn.of Tryz.func65 J J [_] J ?_;refine W ?_;refine DL.ld1 tt J J J J J .here (LN hM) ?_;exact W trivial
abbrev HW:AV:=.agg (List.replicate 32 OF)
abbrev nN:List AV:=[CB]++List.replicate 32 OF++[CB]
def ZE(hp:C7 AB)(a:AV):Option (Option Nat):=match a with
 | .val (.slice none 0 0)=>some none
 |a=>match Uh hp a with
  |some (k,L)=>bif Nat.ble L 1000000 then some (some k)else none
  |none=>none
def ol(R:Nat):List AV->St->Option (List R1):=fun args s=>match args with
 |[.Au 2 0,.agg l,cv]=>match s.hp.get 2 with
  |some (.res 2 [j])=>match E1 l 34 with
   |some dat=>match ZE s.hp dat with
    |some _=>bif G0 (List.take 34 l) nN&&Nat.beq l.length 35&&Nat.ble (Nat.succ j) R then some [.val HW (s.set 2 (.res 2 [Nat.succ j]))]else none
    |none=>none
   |none=>none
  |_=>none
 |_=>none
theorem ZF{ρ:Nm}{vs:List Value}(h:Bt ρ nN vs):∃k key dm,vs=.int .i64 k::(bs key++[.int .i64 dm])/\key.length=32/\BN key:=by
 have hl:=h.len;cases h with|cons h1 h2=>
 have h3:=h2.take 32;have h4:=h2.drop 32;obtain⟨key,e1,e2,e3⟩:=J0 (m:=32) h3;rename_i v vs;cases h1 with| @int _ _ _ z1 a1 a2=>
 have h4':Bt ρ [CB] (vs.drop 32):=h4;generalize e4:vs.drop 32=t at h4';cases h4' with|cons h5 h6=>
 cases h6;cases h5 with| @int _ _ _ z2 b1 b2=>
 refine⟨z1,key,z2,?_,e3,e2⟩;rw[<-CS 32 vs,e1,e4]
variable{q:Qk}
theorem IC(hD:∀x∈D,x.length=32)(he:∀e∈es,e.2.length=32):(Ff D u es q).1.length=32:=by
 unfold Ff;cases h:I6 es q with
 |none=>exact IT hD u
 |some i=>obtain⟨hlt,_⟩:=OH h;simp only[AZ hlt,CZ,B0];exact he _ (B1 hlt)
theorem K5(hD:∀x∈D,BN x)(he:∀e∈es,BN e.2):BN (Ff D u es q).1:=by
 unfold Ff;cases h:I6 es q with
 |none=>exact RY hD u
 |some i=>obtain⟨hlt,_⟩:=OH h;simp only[AZ hlt,CZ,B0];exact he _ (B1 hlt)
theorem Uj:(Ff D u es q).2.1<=u+1:=by unfold Ff;cases h:I6 es q<;>simp
theorem QN:(Ff D u es q).2.2.length<=es.length+1:=by unfold Ff;cases h:I6 es q<;>simp
theorem OL(hD:∀x∈D,BN x)(he:∀e∈es,BN e.2):∀e∈(Ff D u es q).2.2,BN e.2:=by
 unfold Ff;cases h:I6 es q with
 |some i=>exact he
 |none=>
  intro e h;rcases Aj.1 h with h|h
  ·exact he e h
  ·simp only[AP]at h;subst h;exact RY hD u
theorem Uk{j:Nat}{dv cv:Value}(hK:K+j+1<=HM)(hr:G1 ob K [j] b comp)(hk:key.length=32)(hd:G9 X dv dC)(Ix:BN X)(Hw:X.length<1048576):
 Fn Tryz.prog 94 [Au b,.agg (qL k key dm dv).toArray,cv] [comp,dC] (fun e S'=>∃c' a,e=.returned (.agg (bs a).toArray)/\S'=[c',dC]/\G1 ob K [j+1] b c'/\a.length=32/\BN a):=by
 obtain⟨j',e,hb,M,D,u,es,hO,hDl,hu,hn,ZG,heb⟩:=hr;cases e;simp only[HM]at hK;refine(MR (cv:=cv) (k:=k) (dm:=dm) hO hk hd Ix Hw I hDl I).mono ?_;rintro e S' ⟨c',rfl,rfl,h⟩;have Sr:=hO;obtain⟨ds,kb,clk,ls,L,IH,lC,Hv,dH,_,hM,hdr,M5,hds,hkn,hes⟩:=Sr;have h1:=Uj (D:=D) (u:=u) (es:=es) (q:=qk k key dm X hk);have h2:=QN (D:=D) (u:=u) (es:=es) (q:=qk k key dm X hk);exact⟨c',_,rfl,rfl,⟨j+1,rfl,hb,M,D,_,_,h,hDl,I,I,ZG,OL ZG heb⟩,IC hdr.1 (fun e he=>(hes e he).1),K5 ZG heb⟩
section
variable{ob K R:Nat} {RS:EA} (hO:∀d b cs,RS 2 d b cs↔G1 ob K d b cs)
include hO
theorem vP:ET Tryz.prog RS 65 (K4 2 2 0 [.Au 2 0] (.boo (some true)) R):=Jq fun ρ b c j comp vs hj hρ hr hv=>by
 cases hv with|cons h1 hv=>cases hv;cases h1 with|Au h1=>
 rw[hρ]at h1;cases h1;have hr0:=hr;obtain⟨j',e,hb,M,D,u,es,⟨ds,kb,clk,ls,L,IH,lC,Hv,dH,rfl,hM,_⟩,_⟩:=(hO _ _ _).1 hr;refine(Jr (b:=b) (kb:=kb) (u:=u) (ds:=ds) (ls:=ls) hM).Cd (F:=[DX Gq kb L clk,lC,Hv,dH.flatten]) DI ?_;rintro e' S' ⟨rfl,rfl⟩;exact⟨_,⟨_,_,rfl,rfl,hr0,.boo⟩,by simp⟩
theorem vQ(I7:K+R<=HM):ET Tryz.prog RS 94 (ol R):=by
 intro args s rs hc p hst hp vs hvs;subst hst;unfold ol at hc;split at hc
 ·rename_i l cv;split at hc
  ·rename_i j hget;split at hc
   ·rename_i dat hdat
    split at hc
    ·rename_i o hdo;cases hcond:G0 (List.take 34 l) nN&&Nat.beq l.length 35&&Nat.ble (Nat.succ j) R<;>rw[hcond]at hc<;>simp only[AN,AO,reduceCtorEq,AH]at hc;subst hc;simp only[AI]at hcond;obtain⟨⟨hle,Xr⟩,rj⟩:=hcond;have Xr:=AK Xr;have rj:=AL rj;cases hvs with|cons h1 hvs=>cases hvs with|cons h2 hvs=>cases hvs with| @cons _ cvv _ _ h3 hvs=>
     cases hvs;obtain⟨hlive,hcb⟩:=hp.mem hget;cases h2 with| @agg _ ws h2=>
     obtain⟨k,key,dm,hw,hk,hkb⟩:=ZF (GR (h2.take 34) hle);obtain⟨dv,hdv,hcd⟩:=h2.at hdat
     have hwl:ws.length=35:=by rw[h2.len,Xr]
     have hws:ws=qL k key dm dv:=by
      have e1:ws.drop 34=[dv]:=by rw[D5]at hdv;obtain⟨hlt,e⟩:=Ae.1 hdv;rw[CQ hlt,e,BJ I]
      rw[<-CS 34 ws,hw,e1];simp[qL]
     subst hws;generalize hC:p.C 2=ck at hcb;cases hcb with| @res _ b c _ cs0 hρ hr=>
     cases h1 with|Au h1=>
     rw[hρ]at h1;cases h1;have hr:=(hO _ _ _).1 hr;unfold ZE at hdo;split at hdo
     ·cases hcd;have hS:=hp.H.pick hlive;rw[hC]at hS;have hf:=Uk (cv:=cvv) (k:=k) (dm:=dm) (key:=key) (X:=[]) (dv:=.slice none 0 0) (dC:=[]) I hr hk (.inl ⟨rfl,rfl,rfl⟩) (fun _ h=>by cases h) DI;intro A U w hs;have hs':Ds A w ([ck,[]]++((p.live.erase 2).map p.C++U)):=by have:=hs.perm (hS.append_right U);exact this.flat DI
      refine(hf A _ w hs').mono ?_;rintro e' w' ⟨h0,S',hs1,c',a,rfl,rfl,hr',ha,hab⟩;refine⟨h0,c'::(p.live.erase 2).map p.C,hs1.flat DI,.inl ⟨HW,_,AP.2 J,p.set 2 (.res 2 [Nat.succ j]) c',_,rfl,rfl,rfl,.set p 2 _ _,hp.set hlive (.res hρ ((hO _ _ _).2 hr')),.agg (by rw[<-ha];exact IX hab),rfl⟩⟩
     ·split at hdo
      ·rename_i k2 L hby;cases hL:Nat.ble L 1000000<;>rw[hL]at hdo<;>simp only[AN,AO,reduceCtorEq]at hdo;have hL:=AL hL;obtain⟨HC,⟨rU,IN,hcs2⟩,b2,so,cap,cs,t,X,hC2,rfl,hcap,hX,Hw,Ix⟩:=O7 hp hby hcd;have hne:k2≠2:=fun e=>by subst e;rw[hget]at IN;cases IN;cases hcs2
       have hS:=Pt.two hp hlive HC hne;rw[hC,hC2]at hS;have hf:=Uk (cv:=cvv) (k:=k) (dm:=dm) (key:=key) (X:=X) (dv:=.slice (some ⟨b2,so,none⟩) L cap) (dC:=A7 b2 cs t) I hr hk (.inr ⟨b2,so,cap,cs,t,by rw[Hw],I,rfl,by rw[Hw];exact hX⟩) Ix I;intro A U w hs;have hs':Ds A w ([ck,A7 b2 cs t]++(((p.live.erase 2).erase k2).map p.C++U)):=by have:=hs.perm (hS.append_right U);exact this.flat DI
       refine(hf A _ w hs').mono ?_;rintro e' w' ⟨h0,S',hs1,c',a,rfl,rfl,hr',ha,hab⟩;refine⟨h0,c'::(p.live.erase 2).map p.C,?_,.inl ⟨HW,_,AP.2 J,p.set 2 (.res 2 [Nat.succ j]) c',_,rfl,rfl,rfl,.set p 2 _ _,hp.set hlive (.res hρ ((hO _ _ _).2 hr')),.agg (by rw[<-ha];exact IX hab),rfl⟩⟩;have e1:=Pt.Lx (p:=p) (k:=2) (j:=k2) c' HC hne;rw[hC2]at e1;refine Ds.perm ?_ (e1.append_right U);exact hs1.flat DI
      ·cases hdo
    ·cases hc
   ·cases hc
  ·cases hc
 ·cases hc
end
end
end Go.Proofs.YtfekkjbdcdnhlaaGreatDoor.Sep
