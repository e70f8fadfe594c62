/- Lemmas for TopScrubs. No condition but those that each states. -/
import Derived.RangeFuncFrom
import Derived.RangeFuncNested
import Derived.RangeFuncBound
import Derived.RangeFuncCalls
import Derived.RangeFuncLeaves
import Derived.OrdersIn
import Derived.TacticsInMore
import Derived.LoopIn
import Derived.Shelf.Abstract
import Derived.OwnWalkIn
import Derived.LoopNIn
import Derived.Lib.Hide
import Derived.Test.YtfekkjbdcdnhlaaGreatDoorMbh
set_option linter.all false
set_option maxHeartbeats 8000000
set_option maxRecDepth 100000
namespace Go.Proofs.YtfekkjbdcdnhlaaGreatDoor.Sep
noncomputable section
def xu(d:List Nat)(b:Nat)(c:List CH):Prop:=∃(X:List Int) (cs:List Value) (fz:Nat×Nat),d=[nB X]/\FB X/\X.length=8/\(b,Obj.cells cs.toArray 5 fz)∈c/\cs.take 8=bs X
def y39:F5:=fun args s=>match args with
 |[.val (.string a)]=>bif Nat.ble 1 a.data.toList.length&&Nat.ble a.data.toList.length 7&&s.room then(match S3 (M6 a)with
  |some y=>some [.val (.G3 s.nx 8) (s.new (.res 6 [y]))]
  |none=>none)else none
 |_=>none
def xw(hp:C7 AB)(n:Nat)(a:AV):Option (List AV):=match Ns hp a with
 |some (k,len,_)=>bif !(Nat.beq k n)&&Nat.blt 0 len&&Nat.ble len 1000 then(match Ld a with
  |some (k,off,len)=>match hp.get k with
   |some ab=>match ab.cs with
    |some l=>some (List.take len (List.drop off l))
    |none=>none
   |none=>none
  |none=>none)else none
 |none=>match a with
  | .G3 w 8=>match hp.get w with
   |some (.res 6 [y])=>bif !(Nat.beq w n)then some (MD y 8 0)else none
   |_=>none
  |_=>none
def Wu(hp:C7 AB)(n:Nat):List AV->Option (List (List AV))
 |[]=>some []
 |a::r=>match xw hp n a with
  |some l=>match Wu hp n r with
   |some m=>some (l::m)
   |none=>none
  |none=>none
def x63:F5:=fun args s=>match args with
 |[.sl n 0 m c]=>bif Nat.beq m c&&Nat.ble m 100&&s.room then(match s.hp.get n with
  |some (.cells ps 53)=>bif Nat.beq ps.length m&&Nat.blt 0 m then(match Wu s.hp n ps with
   |some ls=>some [.val (.G3 s.nx ls.flatten.length) (s.new (.grown ls.flatten 5 1))]
   |none=>none)else none
  |_=>none)else none
 |_=>none
variable{a:AV}
theorem YX{hp:C7 AB}{k len x:Nat}(h:Ns hp a=some (k,len,x)):∃off ab l,Ld a=some (k,off,len)/\hp.get k=some ab/\ab.cs=some l/\(List.take len (List.drop off l)).length=len:=by
 unfold Ns at h;split at h
 ·rename_i k' off len' hsl;split at h
  ·rename_i ab hab;split at h
   ·rename_i l hl;split at h
    ·rename_i x' hnum;cases hb:Xo a&&Nat.beq (List.take len' (List.drop off l)).length len'<;>rw[hb]at h<;>simp only[AN,AO,reduceCtorEq,AH,Af]at h;obtain⟨rfl,rfl,rfl⟩:=h;simp only[AI]at hb;exact⟨off,ab,l,hsl,hab,hl,AK hb.2⟩
    ·cases h
   ·cases h
  ·cases h
 ·cases h
section
variable{RS:EA} (h6:∀d b cs,RS 6 d b cs↔xu d b cs)
include h6
theorem aDP:ET Tryz.prog RS 39 y39:=by
 intro args s rs hc p hst hp vs hvs;subst hst;unfold y39 at hc;split at hc
 ·rename_i a;cases hb:Nat.ble 1 a.data.toList.length&&Nat.ble a.data.toList.length 7&&p.st.room<;>rw[hb]at hc<;>simp only[AN,AO,reduceCtorEq]at hc;split at hc
  ·rename_i y hy;cases hc;simp only[AI]at hb;obtain⟨⟨h1,h2⟩,hroom⟩:=hb;have h1:=AL h1;have h2:=AL h2;cases hvs with|cons a1 hvs=>
   cases hvs;cases a1;have hcon:Bt ([]:Nm) (M6 a) (bs (NC a)):=by
    unfold M6 NC bs;rw[List.map_map];have:∀l:List UInt8,Bt ([]:Nm) (l.map fun b=>.int .u8 (Int.ofNat b.toNat) (Int.ofNat b.toNat)) (l.map (Value.int .u8∘fun b=>(b.toNat:Int))):=fun l=>by
     induction l with
     |nil=>exact .nil
     |cons b l ih=>exact .cons (.int (A4 _) (A4 _)) ih
    exact this _
   obtain⟨X,e1,e2,e3,e4⟩:=Ja hy hcon;have hl:(NC a).length=a.data.toList.length:=by simp[NC]
   have hXe:X=NC a:=by
    have hm:∀{A B:List Int},bs A=bs B->A=B:=fun{A B} h=>by
     have:∀(A B:List Int),bs A=bs B->A=B:=fun A=>by
      induction A with
      |nil=>intro B h;cases B with
       |nil=>rfl
       |cons b B=>simp[bs]at h
      |cons a A ih=>intro B h;cases B with
       |nil=>simp[bs]at h
       |cons b B=>simp only[bs,Ap,D1,Value.int.injEq,true_and]at h;rw[h.1,ih B h.2]
     exact this A B h
    exact(hm e1).symm
   subst hXe;have hsz:a.size=a.data.toList.length:=by rw[Dt];rfl
   refine(f39 (a:=a) (m:=a.data.toList.length) hsz h1 h2).Cd (F:=p.S) DI ?_;rintro e S' ⟨b,cap,cs,fz,c,rfl,k1,k2,k3,rfl⟩;have hz:FB (NC a++BQ (8-a.data.toList.length)):=Fp e2 (fun x hx=>by simp only[BQ,D6]at hx;omega);have hnum:nB (NC a++BQ (8-a.data.toList.length))=y:=by rw[Iy,Jb,Nat.mul_zero,CV,e3]
   have hmk:RS 6 [y] b c:=(h6 _ _ _).2 ⟨_,cs,fz,by rw[hnum],hz,by rw[Aq,hl,Bn];omega,k2,k3⟩;exact⟨c::p.S,.inl ⟨_,_,AP.2 J,p.new (b,cap) (.res 6 [y]) c,_,rfl,rfl,rfl,.new hp _ _ _,hp.new hroom _ (.res (Pt.EZ hp _) hmk),.G3 (Pt.EZ hp _) k1,rfl⟩,by simp⟩
  ·cases hc
 ·cases hc
variable{n:Nat}{v:Value}
theorem xx{p:Pt}(hp:p.good RS){l:List AV}(h:xw p.st.hp n a=some l)(hv:EM p.ρ a v):∃X,YT ((p.live.erase n).map p.C).flatten v X/\Bt p.ρ l (bs X):=by
 have inF:∀{k:Nat} {x:CH},k∈p.live->k≠n->x∈p.C k->x∈((p.live.erase n).map p.C).flatten:=fun{k x} h1 h2 h3=>List.mem_flatten.2 ⟨_,A8.2 ⟨k,(Be h2).2 h1,rfl⟩,h3⟩
 unfold xw at h;split at h
 ·rename_i k len y hby;cases hb: !(Nat.beq k n)&&Nat.blt 0 len&&Nat.ble len 1000<;>rw[hb]at h<;>simp only[AN,AO,reduceCtorEq]at h;simp only[AI,Bo]at hb;obtain⟨⟨hkn,hl0⟩,hl1⟩:=hb;have hkn:k≠n:=fun e=>by subst e;simp at hkn
  have hl0:0<len:=by simpa using hl0
  have hl1:=AL hl1;split at h
  ·rename_i k' off len' hsl;split at h
   ·rename_i ab hab;split at h
    ·rename_i l0 hl;cases h;obtain⟨b',c',cap',E8,rfl⟩:=Nc hsl hv;obtain⟨hlive,hcb⟩:=hp.mem hab;obtain⟨b,c,vs,ex,t,hρ,hcl,hC⟩:=hcb.cs hl;rw[hρ]at E8;cases E8;obtain⟨HC,_,b2,so,cap2,cs2,t2,X,hC2,hv2,hcap2,hX2,Hw,hXA,sr⟩:=PR hp hby hv;obtain⟨off2,rU,l2,s1,s2,s3,s4⟩:=YX hby;rw[hsl]at s1;cases s1;rw[hab]at s2;cases s2;rw[hl]at s3;cases s3;have hv3:=Value.slice.inj hv2;obtain⟨q1,-,rfl⟩:=hv3;cases q1;rw[hC]at hC2;have hblk:(b2,Obj.cells (vs++ex).toArray t (0,0))=(b2,Obj.cells cs2.toArray t2 (0,0)):=by have:=hC2;simpa[A7]using this
     have hcs:vs++ex=cs2:=by have:=(Prod.mk.inj hblk).2;have h9:=(Obj.cells.inj this).1;simpa using congrArg Array.toList h9
     subst hcs;have hvl:((vs.drop off).take len).length=len:=by rw[((hcl.drop off).take len).len];exact s4
     have htd:=Gk (l:=vs) (m:=ex) (off:=off) (n:=len) hvl;refine⟨X,⟨_,off,_,vs++ex,t,(0,0),by rw[Hw],I,I,inF hlive hkn (by rw[hC];simp[A7]),by rw[Hw];exact hX2⟩,?_⟩;rw[htd]at hX2;rw[<-hX2];exact(hcl.drop off).take len
    ·cases h
   ·cases h
  ·cases h
 ·split at h
  ·rename_i w hnone;split at h
   ·rename_i y hget;cases hb: !(Nat.beq w n)<;>rw[hb]at h<;>simp only[AN,AO,reduceCtorEq,AH]at h;subst h;have hwn:w≠n:=fun e=>by subst e;simp at hb
    obtain⟨hlive,hcb⟩:=hp.mem hget;generalize hC:p.C w=cw at hcb;cases hcb with| @res _ b c _ cs0 hρ hr=>
    obtain⟨X,cs,fz,e,hA,hl,hm,ht⟩:=(h6 _ _ _).1 hr;cases e;cases hv with|G3 h1 h2=>
    rw[hρ]at h1;cases h1;refine⟨X,⟨b,0,_,cs,5,fz,by rw[hl],I,I,inF hlive hwn (by rw[hC];exact hm),by rw[hl];exact ht⟩,?_⟩;have:=ME (ρ:=p.ρ) hA 8 0 I;have e:cut X 0 8=X:=by unfold cut;rw[BL,AX I]
    rwa [e]at this
   ·cases h
  ·cases h
theorem Zp{p:Pt}(hp:p.good RS){n:Nat}:∀{xs:List AV} {ls:List (List AV)},Wu p.st.hp n xs=some ls->∀{vs:List Value},Bt p.ρ xs vs->∃Xs:List (List Int),Xs.length=vs.length/\(∀(r:Nat) (h1:r<vs.length) (h2:r<Xs.length),YT ((p.live.erase n).map p.C).flatten vs[r] Xs[r])/\Bt p.ρ ls.flatten (bs Xs.flatten)
 |[],ls,h,_,.nil=>by simp only[Wu,AH]at h;subst h;exact⟨[],rfl,fun r h1=>by simp at h1,.nil⟩
 |a::r,ls,h,_,.cons h1 h2=>by
  simp only[Wu]at h;split at h
  ·rename_i l hl;split at h
   ·rename_i m hm;cases h;obtain⟨X,k1,k2⟩:=xx h6 hp hl h1;obtain⟨Xs,g1,g2,g3⟩:=Zp hp hm h2;refine⟨X::Xs,by simp[g1],fun q q1 q2=> ?_,?_⟩
    ·cases q with
     |zero=>exact k1
     |succ q=>exact g2 q (by simpa using q1) (by simpa using q2)
    ·rw[AW,AW,<-H8];exact k2.app g3
   ·cases h
  ·cases h
theorem aDQ:ET Tryz.prog RS 63 x63:=by
 intro args s rs hc p hst hp vs hvs;subst hst;unfold x63 at hc;split at hc
 ·rename_i n m c;cases hb:Nat.beq m c&&Nat.ble m 100&&p.st.room<;>rw[hb]at hc<;>simp only[AN,AO,reduceCtorEq]at hc;simp only[AI]at hb;obtain⟨⟨hmc,hm⟩,hroom⟩:=hb;obtain rfl:=AK hmc;have hm:=AL hm;split at hc
  ·rename_i ps hn;cases hb2:Nat.beq ps.length m&&Nat.blt 0 m<;>rw[hb2]at hc<;>simp only[AN,AO,reduceCtorEq]at hc;simp only[AI]at hb2;have hpl:=AK hb2.1;have hm0:0<m:=by simpa using hb2.2
   split at hc
   ·rename_i ls hls;cases hc;cases hvs with|cons a1 hvs=>
    cases hvs;obtain⟨hlive,hcb⟩:=hp.mem hn;generalize hC:p.C n=cn at hcb;cases hcb with| @cells _ _ b c vals hρ hl=>
    cases a1 with|sl a1=>
    rw[hρ]at a1;cases a1;obtain⟨Xs,g1,g2,g3⟩:=Zp h6 hp hls hl;have hvl:vals.length=m:=by rw[hl.len,hpl]
    have hS:=(hp.H.pick hlive).flatten;rw[hC]at hS;refine(xk (n:=b) (vals:=vals) (Xs:=Xs) (F:=((p.live.erase n).map p.C).flatten) hvl (by rw[g1,hvl]) hm g2).Cd (F:=[]) (by simpa using hS) ?_;rintro e S' ⟨⟨v,c'⟩,hdat,rfl,rfl⟩;dsimp only at hdat⊢;have hlen:ls.flatten.length=Xs.flatten.length:=by have:=g3.len;rw[Aa]at this;exact this.symm
    have hpos:0<Xs.flatten.length:=by
     obtain⟨_,_,_,_,_,_,_,h9,_⟩:=g2 0 I I;cases Xs with
     |nil=>simp at g1;omega
     |cons X Xs=>simp only[AW,Aq];have:0<X.length:=h9;omega
    rcases hdat with⟨h0,_⟩|⟨nb,cap,ex,rfl,k1,k2,rfl⟩
    ·rw[h0]at hpos;simp at hpos
    ·refine⟨A7 nb (bs Xs.flatten++ex) 5::p.S,.inl ⟨_,_,AP.2 J,p.new (nb,cap) (.grown ls.flatten 5 1) (A7 nb (bs Xs.flatten++ex) 5),_,rfl,rfl,rfl,.new hp _ _ _,hp.new hroom _ (.grown (Pt.EZ hp _) (g3.mono _) (by rw[Aa];omega)),?_,rfl⟩,?_⟩
     ·rw[hlen];exact .G3 (Pt.EZ hp _) k1
     ·have:=hS.append_left (A7 nb (bs Xs.flatten++ex) 5);simpa using this
   ·cases hc
  ·cases hc
 ·cases hc
end
def qT:List Nat:=[108,111,97,100,32,114,51,32,114,48,32,48,10,97,100,100,32,114,52,32,114,51,32,114,51,10,109,111,118,32,114,48,32,114,52,10,115,101,114,118,105,99,101,32,49,10]
def xy:List Nat:=[779,50529284,262147,4294967312]
def yA:F5:=fun args s=>match args with
 |[.val (.string a)]=>bif RJ (a.data.toList.map fun b=>b.toNat) qT&&s.room then some [.val (.Ec [.G3 s.nx 4,Cb 0,Cb 0]) (s.new (.grown (xy.map fun x=>BZ x) 43 1))]else none
 |_=>none
def lA:List (Nat×F5):=[(16,x16),(17,x17),(18,x18),(101,x101),(42,x42),(10,yA),(23,x23),(26,zD),(156,xH),(30,x30),(31,x31),(190,xI),(335,xJ),(67,x67),(24,x24),(25,x25),(126,xM),(133,xN),(117,xK),(65,x65),(94,x94),(309,xO),(124,xQ),(110,qA),(39,y39),(63,x63),(315,grC)]
def spO:Nat->Nat->Option (List (List Nat)×List Nat×List Nat):=fun f id=>bif Nat.beq f 229&&Nat.beq id 3 then some ([[0,1,2,3,4,5,6,8,7,9,10,11,12],[0,1,2,3,4,5,6,8,9,7,10,11,12]],[0,1,2,3,4,5,6,8,7,9,10,11,12],[13,14,15,16])else none
def spA(ord:Nat->Nat->List Nat)(f id:Nat):Option (List Nat×List Nat):=bif Nat.beq f 62&&Nat.beq id 1 then some ([0,2,3,1],[4,5,6])else spW ord f id
def YY(l:List (Nat×F5)):Ih:=L9 (DY l) (cK (hkO (DY l) (E3 (DY l) 100000) spO) (we (DY l) (E3 (DY l) 100000) (spA (DY l).ord))) 100000
theorem YZ{RS:EA}{l:List (Nat×F5)}(h:Ol Tryz.prog RS l):GK Tryz.prog RS (YY l):=KI (DU h) (QS (lZ (DU h) (FG (DU h) _)) (Ro (DU h) (FG (DU h) _))) _
def lB:List (Nat×F5):=(27,y27 (DY lA) (YY lA))::lA
section
variable{P:Program} {n:Nat} {fr:Fr} {S:A2}
variable{t m b:Nat}
theorem Wz{T:Tr}(hT:Dp P T=true){o:Oper}{av:Array Operand}{tx e CU GN sz:Nat}{x:Value}{news:List Value}{ts:Array TypeId}{U:A2}(ho:o.op=.call ⟨.builtin .append,av,ts⟩)(hts:ts= #[t,tx])
 (ht:T.get t=some ⟨.sl e CU,sz⟩) (hE:Ew P e CU GN=true) (ha:FP fr av.toList=some [.slice (some ⟨b,0,none⟩) 0 0,x]) (hx:DO P CU S tx x m news)
 (hp:Gg (A7 b [] e) S U) (hm:0<m) (hbd:m*GN<=140737488355328) (hbd2:m<=9223372036854775807):
 Eff P n o fr S (fun v S'=>∃b' k ex,v=.slice (some ⟨b',0,none⟩) m (m+k)/\S'=A7 b' (news++ex) e::U) (fun _ _=>False):=by
 intro A V a w hk hs;obtain⟨ie,z',hi,h1,h2,hz',h3⟩:=Gy hE;obtain⟨hu,_⟩:=Et hT ht J;have hargs:av.map a.eval= #[.slice (some ⟨b,0,none⟩) 0 0,x]:=Bl.1 (by simpa using EV hk ha);have hsrc:Src P ie.size tx x m news w:=by rw[h1];exact hx A V w hs
 have hrun:(execOp a.eval o).run P w=((Builtin.append_ #[t,tx] o.type #[.slice (some ⟨b,0,none⟩) 0 0,x]).run P w).andThen fun v w'=>.ok (.value v) w':=by simp only[execOp,ho,resolve,invoke,builtin,Ag,BA,Ad,hargs,hts]
 have hs1:=hs.perm (hp.perm.append_right V);have hblk:w.heap[b]? =some (.cells ([]:List Value).toArray e (0,0)):=hs1.has (b,_) (by simp[A7]);have hold:(Builtin.firstCells ie.size 0 (.slice (some ⟨b,0,none⟩) 0 0)).run P w.drew=.ok ([]:List Value).toArray w.drew:=by refine run_firstCells_some w.drew ie.size 0 _ 0 0 [] DI (fun j u hj=> ?_);simp at hj
 have hval:=run_append_grow_src w t tx o.type e ie z' hu hi hz' (some ⟨b,0,none⟩) 0 0 [] hold x m news hsrc I I (growslice_fits I (by rw[h2,BM];exact hbd));rw[Fq,hrun,hval];have hcap:0+m<=grownCap w (0+m) 0 e:=by unfold grownCap;simp only[Question.cut];omega
 have hs2:Ds A w.drew (U++V):=hs1.drop.drawn _;generalize hk':grownCap w (0+m) 0 e-(0+m)=k;have hc2:grownCap w (0+m) 0 e=m+k:=I;obtain⟨ex,hex⟩:∃ex:List Value,((([]:List Value)++news).toArray++Builtin.zeroCells z'.cells k)=(news++ex).toArray:=⟨(Builtin.zeroCells z'.cells k).toList,by apply Array.ext';simp⟩
 refine⟨A7 w.heap.size (news++ex) e::U,?_,w.heap.size,k,ex,by rw[hc2,BM],rfl⟩;rw[hex];exact hs2.new _
end
theorem dQ(R:List Rw):∀u∈Ez R,u.oneCell'=true:=fun u hu=>by simp only[Ez,List.mem_flatMap]at hu;obtain⟨r,_,hr⟩:=hu;simp only[Ab,Az,BX]at hr;rcases hr with rfl|rfl|rfl<;>rfl
variable{rb n:Nat}{R:List Rw}
theorem mL(hn:1<=n/\n<=4096)(hR:R.length=n):Fn Tryz.prog 279 [.slice (some ⟨rb,0,none⟩) n n] [Em rb R] (fun e S'=>∃b k ex,e=.returned (.slice (some ⟨b,0,none⟩) n (n+k))/\S'=[Em rb R,A7 b (Ez R++ex) 93]):=by
 refine Fn.of Tryz.func279 J J [_] J ?_
 (refine W ?_;intro b;refine W ?_)
 have hsl:DO Tryz.prog 3 [A7 b [] 93,Em rb R] 125 (.slice (some ⟨rb,0,none⟩) n n) n (Ez R):=DO.slice tt J (.there .here) (by rw[BL,AX (by rw[F3,hR,Nat.mul_comm];exact Ao _)]) (by rw[F3,hR,Nat.mul_comm]) (dQ R);refine .eff _ _ (.inl J) J (fun e he=>by cases he;decide) (Wz tt J J J tc J hsl .here I I I) (fun _ _ h=>h.elim) (fun _ _ h=>D9) ?_;rintro v S' ⟨b',k,ex,rfl,rfl⟩;refine W ?_;exact⟨_,_,_,DC (RV.tmp J),(.cons (.there .here) (.cons .here .nil)),_,_,_,rfl,rfl⟩
variable{tb:Nat}
theorem qh(hn:1<=n/\n<=4096)(hR:R.length=n):Fn Tryz.prog 198 [Au tb] [Ei tb rb n,Em rb R] (fun e S'=>∃t2 b k ex,e=.returned (Au t2)/\S'=[Ei tb rb n,Em rb R,A7 t2 [.slice (some ⟨b,0,none⟩) n (n+k)] 127,A7 b (Ez R++ex) 93]):=by
 refine Fn.of Tryz.func198 J J [_] J ?_
 (refine W ?_;refine DL.BS J J J pK (JC) kR aP kO ?_;refine W ?_)
 refine DL.call J J J pK (mL hn hR) kR (fun ch S1 hc=>by obtain⟨_,_,_,hc,_⟩:=hc;cases hc) ?_;rintro v S1 ⟨b',k,ex,hv,rfl⟩;cases hv;refine⟨D9,?_⟩;simp only[AQ,AS,Dc]
 (refine W ?_;intro b;refine W ?_)
 exact⟨_,_,_,DC (RV.tmp J),pK,_,_,_,_,rfl,rfl⟩
variable{o:Int}
theorem aCc(hn:1<=n/\n<=4096)(hR:R.length=n):Fn Tryz.prog 130 [Au tb,.int .u64 o] [Ei tb rb n,Em rb R] (fun e S'=>∃q5 q3 t2 b k ex,e=.returned (.func (.func 199) #[] #[Au q5,Au q3])/\S'=[Ei tb rb n,Em rb R,A7 q5 [Au t2] 74,A7 q3 [.int .u64 o] 43,A7 t2 [.slice (some ⟨b,0,none⟩) n (n+k)] 127,A7 b (Ez R++ex) 93]):=by
 refine Fn.of Tryz.func130 J J [_] J ?_
 (refine W ?_;intro b;refine W ?_)
 refine DL.call J J J pK (qh hn hR) kR (fun ch S1 hc=>by obtain⟨_,_,_,_,hc,_⟩:=hc;cases hc) ?_;rintro v S1 ⟨t2,b',k,ex,hv,rfl⟩;cases hv;refine⟨D9,?_⟩;simp only[AQ,AS,Dc]
 (refine W ?_;intro b)
 refine wW ?_;rename_i q3;have hp:DV [A7 b [Au t2] 74,Ei tb rb n,Em rb R,A7 t2 [.slice (some ⟨b',0,none⟩) n (n+k)] 127,A7 b' (Ez R++ex) 93,A7 q3 [.int .u64 o] 43] [Ei tb rb n,Em rb R,A7 b [Au t2] 74,A7 q3 [.int .u64 o] 43,A7 t2 [.slice (some ⟨b',0,none⟩) n (n+k)] 127,A7 b' (Ez R++ex) 93] []:=pK;exact⟨_,_,_,DC (RV.tmp J),hp,b,q3,t2,b',k,ex,rfl,rfl⟩
abbrev mM(ps:String):Array Oper:= #[{dst:=some 10,op:=Op.load 74 (Operand.tmp 1),type:=74,pos:=ps,after:= #[],guard:=none},{dst:=some 11,op:=Op.nilCheck (Operand.tmp 10),type:=0,pos:=ps,after:= #[{on:=0,ground:=Ground.data}],guard:=none},{dst:=some 12,op:=Op.fieldAddr 127 (Operand.tmp 11) 0,type:=0,pos:=ps,after:= #[{on:=1,ground:=Ground.data}],guard:=none},{dst:=some 13,op:=Op.load 125 (Operand.tmp 12),type:=125,pos:=ps,after:= #[{on:=2,ground:=Ground.data}],guard:=none},{dst:=some 14,op:=Op.move (Operand.tmp 4),type:=3,pos:=ps,after:= #[],guard:=none},{dst:=some 15,op:=Op.indexAddr 125 (Operand.tmp 13) (Operand.tmp 14),type:=0,pos:=ps,after:= #[{on:=3,ground:=Ground.data},{on:=4,ground:=Ground.data}],guard:=none},{dst:=some 16,op:=Op.fieldAddr 93 (Operand.tmp 15) 1,type:=0,pos:=ps,after:= #[{on:=5,ground:=Ground.data}],guard:=none},{dst:=some 17,op:=Op.load 43 (Operand.tmp 16),type:=43,pos:=ps,after:= #[{on:=6,ground:=Ground.data}],guard:=none},{dst:=some 18,op:=Op.load 43 (Operand.tmp 2),type:=43,pos:=ps,after:= #[],guard:=none},{dst:=some 19,op:=Op.binOp BinOp.eql 43 (Operand.tmp 17) (Operand.tmp 18) 43,type:=4,pos:=ps,after:= #[{on:=7,ground:=Ground.data},{on:=8,ground:=Ground.data}],guard:=none},{dst:=some 20,op:=Op.move (Operand.tmp 19),type:=4,pos:=ps,after:= #[{on:=9,ground:=Ground.data}],guard:=none},{dst:=some 21,op:=Op.move (Operand.tmp 0),type:=316,pos:=ps,after:= #[{on:=10,ground:=Ground.guard}],guard:=some (10,true)},{dst:=some 22,op:=Op.move (Operand.tmp 4),type:=3,pos:=ps,after:= #[{on:=10,ground:=Ground.guard}],guard:=some (10,true)},{dst:=some 23,op:=Op.load 74 (Operand.tmp 1),type:=74,pos:=ps,after:= #[{on:=10,ground:=Ground.guard}],guard:=some (10,true)},{dst:=some 24,op:=Op.nilCheck (Operand.tmp 23),type:=0,pos:=ps,after:= #[{on:=13,ground:=Ground.data},{on:=10,ground:=Ground.guard}],guard:=some (10,true)},{dst:=some 25,op:=Op.fieldAddr 127 (Operand.tmp 24) 0,type:=0,pos:=ps,after:= #[{on:=14,ground:=Ground.data},{on:=10,ground:=Ground.guard}],guard:=some (10,true)},{dst:=some 26,op:=Op.load 125 (Operand.tmp 25),type:=125,pos:=ps,after:= #[{on:=15,ground:=Ground.data},{on:=10,ground:=Ground.guard}],guard:=some (10,true)},{dst:=some 27,op:=Op.move (Operand.tmp 4),type:=3,pos:=ps,after:= #[{on:=10,ground:=Ground.guard}],guard:=some (10,true)},{dst:=some 28,op:=Op.indexAddr 125 (Operand.tmp 26) (Operand.tmp 27),type:=0,pos:=ps,after:= #[{on:=16,ground:=Ground.data},{on:=17,ground:=Ground.data},{on:=10,ground:=Ground.guard}],guard:=some (10,true)},{dst:=some 29,op:=Op.fieldAddr 93 (Operand.tmp 28) 0,type:=0,pos:=ps,after:= #[{on:=18,ground:=Ground.data},{on:=10,ground:=Ground.guard}],guard:=some (10,true)},{dst:=some 30,op:=Op.load 56 (Operand.tmp 29),type:=56,pos:=ps,after:= #[{on:=19,ground:=Ground.data},{on:=10,ground:=Ground.guard}],guard:=some (10,true)},{dst:=some 31,op:=Op.call {callee:=Callee.value (Operand.tmp 21),args:= #[Operand.tmp 22,Operand.tmp 30],argTypes:= #[3,56]},type:=4,pos:=ps,after:= #[{on:=11,ground:=Ground.data},{on:=12,ground:=Ground.data},{on:=20,ground:=Ground.data},{on:=10,ground:=Ground.chain},{on:=10,ground:=Ground.guard}],guard:=some (10,true)},{dst:=some 32,op:=Op.unOp UnOp.not 4 (Operand.tmp 31),type:=4,pos:=ps,after:= #[{on:=21,ground:=Ground.data},{on:=10,ground:=Ground.guard}],guard:=some (10,true)},{dst:=some 33,op:=Op.pick (Operand.tmp 20) (Operand.tmp 32) (Operand.const (Value.bool false)),type:=4,pos:=ps,after:= #[{on:=10,ground:=Ground.data},{on:=22,ground:=Ground.data}],guard:=none}]
variable{w:World}{b t:Nat}{v:Value}
theorem LS{i:Nat}{c:Array Value}{f:Nat×Nat}(h:w.heap[b]? =some (.cells c t f))(hv:c[i]? =some v):w.cell? ⟨b,i,none⟩=some v:=by simp[World.cell?,h,hv]
structure It (AG:World) (q5 q3 t2 b n k:Nat) (o:Int) (R:List Rw) (ex:List Value):Prop where
 c5:AG.heap[q5]? =some (.cells #[.pointer (some ⟨t2,0,none⟩)] 74 (0,0))
 c3:AG.heap[q3]? =some (.cells #[.int .u64 o] 43 (0,0))
 c2:AG.heap[t2]? =some (.cells #[.slice (some ⟨b,0,none⟩) n (n+k)] 127 (0,0))
 cb:AG.heap[b]? =some (.cells (Ez R++ex).toArray 93 (0,0))
def HP(Q:Exit->Act->World->Prop):Prop:=∀c (a:Act) (d:Option Nat) (v:Value) (w:World),Q (.panic c) (a.put d v) w->Q (.panic c) a w
section
variable{F:Fence} {n:Nat} {P:Program} {md:Region.Mode} {An:Array Oper} {Q:Exit->Act->World->Prop} {fuel:Nat} {listed:Array Bool} {a:Act} {w:World} {oi:Oper}
theorem G2(hP:HP Q)(i:Nat)(v:Value)(k:wpAnyIn F n P md An Q fuel (listed.setIfInBounds i true) (a.put oi.dst v) w)(h0:F.round=none:=by rfl)(h1:An[i]? =some oi:=by rfl)(h2:Region.noSelect An=true:=by(kernel_rfl))(h3:Region.free md An listed i=true:=by(kernel_rfl))(h4:(Region.ready md An listed).contains i=true:=by(kernel_rfl))(hy:YieldsFenced P An oi v a:=by exact⟨Or.inl ⟨by rfl,by(intro w;go_simp)⟩,fun _=>rfl⟩):wpAnyIn F n P md An Q (fuel+1) listed a w:=wpAnyIn_take h0 h1 h2 h3 h4 (fun c _ _ h=>hP c _ _ _ _ h) hy k
theorem Hy(hP:HP Q)(i:Nat)(k:wpAnyIn F n P md An Q fuel (listed.setIfInBounds i true) (a.put oi.dst undef) w)(h0:F.round=none:=by rfl)(h1:An[i]? =some oi:=by rfl)(h2:Region.noSelect An=true:=by(kernel_rfl))(h3:Region.free md An listed i=true:=by(kernel_rfl))(h4:(Region.ready md An listed).contains i=true:=by(kernel_rfl))(hy:YieldsFenced P An oi undef a:=by exact⟨Or.inr ⟨kR,rfl⟩,fun _=>by kernel_rfl⟩):wpAnyIn F n P md An Q (fuel+1) listed a w:=wpAnyIn_take h0 h1 h2 h3 h4 (fun c _ _ h=>hP c _ _ _ _ h) hy k
theorem rdA(i:Nat)(k:∀K':Act->World->Prop,(∀a w,wpAnyIn F n P md An Q fuel (listed.setIfInBounds i true) a w->K' a w)->if Region.wanted oi (yielded An a.tmps)=true then Oper.wpIn F n P oi a w K' Q else(∀f,oi.about P w a.eval=some f->F.fn f)/\K' (a.put oi.dst undef) w)(h1:An[i]? =some oi:=by rfl)(h4:Region.ready md An listed=[i]:=by(kernel_rfl)):wpAnyIn F n P md An Q (fuel+1) listed a w:=wpAnyIn_ready h4 DI (AllReadyIn.cons h1 k AllReadyIn.nil)
end
section
variable{ps:String} {w:World} {q5 q3 t2 b n k l m j:Nat} {o:Int} {R:List Rw} {ex:List Value} {r:Rw} {Q:Exit->Act->World->Prop} {x3 x5 x6 x7 x8 x9 x10 x11 x12 x13 x14 x15 x16 x17 x18 x19 x20 x21 x22 x23 x24 x25 zD x27 x28 x29 x30 x31 x32 x33 x34:Value}
theorem aCd(hI:It w q5 q3 t2 b n k o R ex)(hr:R[j]? =some r)(hn:R.length=n)(hn2:n<=4096)(ho:r.2.1≠o)
 (hP:∀c (a:Act) (d:Option Nat) (v:Value) (w:World),Q (.panic c) (a.put d v) w->Q (.panic c) a w) (hQ:∀yA y11 y12 y13 y14 y15 y16 y17 y18 y19 y20 y21 y22 y23 y24 y25 y26 y27 y28 y29 y30 y31 y32,Q .normal ⟨List.toArray (.func (.yield l) #[] #[]:: .pointer (some ⟨q5,0,none⟩):: .pointer (some ⟨q3,0,none⟩)::x3:: .int .i64 (j:Int)::x5::x6::x7::x8::x9::yA::y11::y12::y13::y14::y15::y16::y17::y18::y19::y20::y21::y22::y23::y24::y25::y26::y27::y28::y29::y30::y31::y32:: .bool false::x34::[]),[]⟩ w.drew):(Code.region 3 (mM ps) true).wpIn Fence.wide m Tryz.prog Q ⟨List.toArray (.func (.yield l) #[] #[]:: .pointer (some ⟨q5,0,none⟩):: .pointer (some ⟨q3,0,none⟩)::x3:: .int .i64 (j:Int)::x5::x6::x7::x8::x9::x10::x11::x12::x13::x14::x15::x16::x17::x18::x19::x20::x21::x22::x23::x24::x25::zD::x27::x28::x29::x30::x31::x32::x33::x34::[]),[]⟩ w:=by
 have hj:j<n:=by rw[<-hn];exact(Ae.1 hr).1
 have c5:w.cell? ⟨q5,0,none⟩=some (.pointer (some ⟨t2,0,none⟩)):=LS hI.c5 J;have c3:w.cell? ⟨q3,0,none⟩=some (.int .u64 o):=LS hI.c3 J;have c2:w.cell? ⟨t2,0,none⟩=some (.slice (some ⟨b,0,none⟩) n (n+k)):=LS hI.c2 J;have cb1:=LS hI.cb (i:=j*3+1) (v:=.int .u64 r.2.1) (by rw[Dx,BG (by rw[F3,hn];omega)];exact(MQ hr).2.1)
 clear hI;refine wpIn_region_any kR ?_;change wpAnyIn _ _ _ _ _ _ _ _ _ (World.drew _);have hb:(r.2.1==o)=false:=by simpa using ho
 refine G2 hP 4 (.int .i64 (j:Int)) ?_;refine wpAnyIn_ready (rs:=[0,8]) kR DI ?_;refine AllReadyIn.cons J (fun K hK=> ?_) ?_
 ·go_simp
  refine hK _ _ ?_;clear hK K;refine G2 hP 1 (.pointer (some ⟨t2,0,none⟩)) ?_;refine G2 hP 2 (.pointer (some ⟨t2,0,none⟩)) ?_;refine wpAnyIn_ready (rs:=[3,8]) kR DI ?_;refine AllReadyIn.cons J (fun K hK=> ?_) ?_
  ·go_simp
   refine hK _ _ ?_;clear hK K;refine wpAnyIn_ready (rs:=[5,8]) kR DI ?_;refine AllReadyIn.cons J (fun K hK=> ?_) ?_
   ·go_simp
    refine hK _ _ ?_;clear hK K;refine G2 hP 6 (.pointer (some ⟨b,j*3+1,none⟩)) ?_;refine wpAnyIn_ready (rs:=[7,8]) kR DI ?_;refine AllReadyIn.cons J (fun K hK=> ?_) ?_
    ·go_simp
     refine hK _ _ ?_;clear hK K;refine rdA 8 (fun K hK=> ?_)
     go_simp
     refine hK _ _ ?_;clear hK K;refine rdA 9 (fun K hK=> ?_)
     go_simp
     refine hK _ _ ?_;clear hK K;refine G2 hP 10 (.bool false) ?_;refine Hy hP 11 ?_;refine Hy hP 12 ?_;refine Hy hP 17 ?_;refine Hy hP 13 ?_;refine Hy hP 14 ?_;refine Hy hP 15 ?_;refine Hy hP 16 ?_;refine Hy hP 18 ?_;refine Hy hP 19 ?_;refine Hy hP 20 ?_;refine Hy hP 21 ?_;refine Hy hP 22 ?_;refine G2 hP 23 (.bool false) ?_;refine wpAnyIn_done kR ?_ _
     go_simp
     apply hQ
    refine AllReadyIn.cons J (fun K hK=> ?_) AllReadyIn.nil
    go_simp
    refine hK _ _ ?_;clear hK K;refine rdA 7 (fun K hK=> ?_)
    go_simp
    refine hK _ _ ?_;clear hK K;refine rdA 9 (fun K hK=> ?_)
    go_simp
    refine hK _ _ ?_;clear hK K;refine G2 hP 10 (.bool false) ?_;refine Hy hP 11 ?_;refine Hy hP 12 ?_;refine Hy hP 17 ?_;refine Hy hP 13 ?_;refine Hy hP 14 ?_;refine Hy hP 15 ?_;refine Hy hP 16 ?_;refine Hy hP 18 ?_;refine Hy hP 19 ?_;refine Hy hP 20 ?_;refine Hy hP 21 ?_;refine Hy hP 22 ?_;refine G2 hP 23 (.bool false) ?_;refine wpAnyIn_done kR ?_ _
    go_simp
    apply hQ
   refine AllReadyIn.cons J (fun K hK=> ?_) AllReadyIn.nil
   go_simp
   refine hK _ _ ?_;clear hK K;refine rdA 5 (fun K hK=> ?_)
   go_simp
   refine hK _ _ ?_;clear hK K;refine G2 hP 6 (.pointer (some ⟨b,j*3+1,none⟩)) ?_;refine rdA 7 (fun K hK=> ?_)
   go_simp
   refine hK _ _ ?_;clear hK K;refine rdA 9 (fun K hK=> ?_)
   go_simp
   refine hK _ _ ?_;clear hK K;refine G2 hP 10 (.bool false) ?_;refine Hy hP 11 ?_;refine Hy hP 12 ?_;refine Hy hP 17 ?_;refine Hy hP 13 ?_;refine Hy hP 14 ?_;refine Hy hP 15 ?_;refine Hy hP 16 ?_;refine Hy hP 18 ?_;refine Hy hP 19 ?_;refine Hy hP 20 ?_;refine Hy hP 21 ?_;refine Hy hP 22 ?_;refine G2 hP 23 (.bool false) ?_;refine wpAnyIn_done kR ?_ _
   go_simp
   apply hQ
  refine AllReadyIn.cons J (fun K hK=> ?_) AllReadyIn.nil
  go_simp
  refine hK _ _ ?_;clear hK K;refine rdA 3 (fun K hK=> ?_)
  go_simp
  refine hK _ _ ?_;clear hK K;refine rdA 5 (fun K hK=> ?_)
  go_simp
  refine hK _ _ ?_;clear hK K;refine G2 hP 6 (.pointer (some ⟨b,j*3+1,none⟩)) ?_;refine rdA 7 (fun K hK=> ?_)
  go_simp
  refine hK _ _ ?_;clear hK K;refine rdA 9 (fun K hK=> ?_)
  go_simp
  refine hK _ _ ?_;clear hK K;refine G2 hP 10 (.bool false) ?_;refine Hy hP 11 ?_;refine Hy hP 12 ?_;refine Hy hP 17 ?_;refine Hy hP 13 ?_;refine Hy hP 14 ?_;refine Hy hP 15 ?_;refine Hy hP 16 ?_;refine Hy hP 18 ?_;refine Hy hP 19 ?_;refine Hy hP 20 ?_;refine Hy hP 21 ?_;refine Hy hP 22 ?_;refine G2 hP 23 (.bool false) ?_;refine wpAnyIn_done kR ?_ _
  go_simp
  apply hQ
 refine AllReadyIn.cons J (fun K hK=> ?_) AllReadyIn.nil
 go_simp
 refine hK _ _ ?_;clear hK K;refine rdA 0 (fun K hK=> ?_)
 go_simp
 refine hK _ _ ?_;clear hK K;refine G2 hP 1 (.pointer (some ⟨t2,0,none⟩)) ?_;refine G2 hP 2 (.pointer (some ⟨t2,0,none⟩)) ?_;refine rdA 3 (fun K hK=> ?_)
 go_simp
 refine hK _ _ ?_;clear hK K;refine rdA 5 (fun K hK=> ?_)
 go_simp
 refine hK _ _ ?_;clear hK K;refine G2 hP 6 (.pointer (some ⟨b,j*3+1,none⟩)) ?_;refine rdA 7 (fun K hK=> ?_)
 go_simp
 refine hK _ _ ?_;clear hK K;refine rdA 9 (fun K hK=> ?_)
 go_simp
 refine hK _ _ ?_;clear hK K;refine G2 hP 10 (.bool false) ?_;refine Hy hP 11 ?_;refine Hy hP 12 ?_;refine Hy hP 17 ?_;refine Hy hP 13 ?_;refine Hy hP 14 ?_;refine Hy hP 15 ?_;refine Hy hP 16 ?_;refine Hy hP 18 ?_;refine Hy hP 19 ?_;refine Hy hP 20 ?_;refine Hy hP 21 ?_;refine Hy hP 22 ?_;refine G2 hP 23 (.bool false) ?_;refine wpAnyIn_done kR ?_ _
 go_simp
 apply hQ
theorem aCe(hI:It w q5 q3 t2 b n k o R ex)(hr:R[j]? =some r)(hn:R.length=n)(hn2:n<=4096)(ho:r.2.1=o){Po:Bool->World->Prop}(hy:YieldAt Fence.wide (m-1) Tryz.prog l #[.int .i64 (j:Int),.int .i64 r.1] w.drew (fun e W'=>∃bb,e=.returned (.bool bb)/\Po bb W'))
 (hP:∀c (a:Act) (d:Option Nat) (v:Value) (w:World),Q (.panic c) (a.put d v) w->Q (.panic c) a w) (hQ:∀(bb:Bool) (W3:World),Po bb W3->∀yA y11 y12 y13 y14 y15 y16 y17 y18 y19 y20 y21 y22 y23 y24 y25 y26 y27 y28 y29 y30 y31 y32,Q .normal ⟨List.toArray (.func (.yield l) #[] #[]:: .pointer (some ⟨q5,0,none⟩):: .pointer (some ⟨q3,0,none⟩)::x3:: .int .i64 (j:Int)::x5::x6::x7::x8::x9::yA::y11::y12::y13::y14::y15::y16::y17::y18::y19::y20::y21::y22::y23::y24::y25::y26::y27::y28::y29::y30::y31::y32:: .bool (!bb)::x34::[]),[]⟩ W3):(Code.region 3 (mM ps) true).wpIn Fence.wide m Tryz.prog Q ⟨List.toArray (.func (.yield l) #[] #[]:: .pointer (some ⟨q5,0,none⟩):: .pointer (some ⟨q3,0,none⟩)::x3:: .int .i64 (j:Int)::x5::x6::x7::x8::x9::x10::x11::x12::x13::x14::x15::x16::x17::x18::x19::x20::x21::x22::x23::x24::x25::zD::x27::x28::x29::x30::x31::x32::x33::x34::[]),[]⟩ w:=by
 have hj:j<n:=by rw[<-hn];exact(Ae.1 hr).1
 have c5:w.cell? ⟨q5,0,none⟩=some (.pointer (some ⟨t2,0,none⟩)):=LS hI.c5 J;have c3:w.cell? ⟨q3,0,none⟩=some (.int .u64 o):=LS hI.c3 J;have c2:w.cell? ⟨t2,0,none⟩=some (.slice (some ⟨b,0,none⟩) n (n+k)):=LS hI.c2 J;have cb1:=LS hI.cb (i:=j*3+1) (v:=.int .u64 r.2.1) (by rw[Dx,BG (by rw[F3,hn];omega)];exact(MQ hr).2.1)
 have cb0:=LS hI.cb (i:=j*3) (v:=.int .i64 r.1) (by rw[Dx,BG (by rw[F3,hn];omega)];exact(MQ hr).1)
 clear hI;refine wpIn_region_any kR ?_;change wpAnyIn _ _ _ _ _ _ _ _ _ (World.drew _);have hb:(r.2.1==o)=true:=by simpa using ho
 refine G2 hP 4 (.int .i64 (j:Int)) ?_;refine wpAnyIn_ready (rs:=[0,8]) kR DI ?_;refine AllReadyIn.cons J (fun K hK=> ?_) ?_
 ·go_simp
  refine hK _ _ ?_;clear hK K;refine G2 hP 1 (.pointer (some ⟨t2,0,none⟩)) ?_;refine G2 hP 2 (.pointer (some ⟨t2,0,none⟩)) ?_;refine wpAnyIn_ready (rs:=[3,8]) kR DI ?_;refine AllReadyIn.cons J (fun K hK=> ?_) ?_
  ·go_simp
   refine hK _ _ ?_;clear hK K;refine wpAnyIn_ready (rs:=[5,8]) kR DI ?_;refine AllReadyIn.cons J (fun K hK=> ?_) ?_
   ·go_simp
    refine hK _ _ ?_;clear hK K;refine G2 hP 6 (.pointer (some ⟨b,j*3+1,none⟩)) ?_;refine wpAnyIn_ready (rs:=[7,8]) kR DI ?_;refine AllReadyIn.cons J (fun K hK=> ?_) ?_
    ·go_simp
     refine hK _ _ ?_;clear hK K;refine rdA 8 (fun K hK=> ?_)
     go_simp
     refine hK _ _ ?_;clear hK K;refine rdA 9 (fun K hK=> ?_)
     go_simp
     refine hK _ _ ?_;clear hK K;refine G2 hP 10 (.bool true) ?_;refine G2 hP 11 (.func (.yield l) #[] #[]) ?_;refine G2 hP 12 (.int .i64 (j:Int)) ?_;refine G2 hP 17 (.int .i64 (j:Int)) ?_;refine rdA 13 (fun K hK=> ?_)
     go_simp
     refine hK _ _ ?_;clear hK K;refine G2 hP 14 (.pointer (some ⟨t2,0,none⟩)) ?_;refine G2 hP 15 (.pointer (some ⟨t2,0,none⟩)) ?_;refine rdA 16 (fun K hK=> ?_)
     go_simp
     refine hK _ _ ?_;clear hK K;refine rdA 18 (fun K hK=> ?_)
     go_simp
     refine hK _ _ ?_;clear hK K;refine G2 hP 19 (.pointer (some ⟨b,j*3,none⟩)) ?_;refine rdA 20 (fun K hK=> ?_)
     go_simp
     refine hK _ _ ?_;clear hK K;refine wpAnyIn_ready (rs:=[21]) kR DI ?_;refine AllReadyIn.cons J (fun K hK=> ?_) AllReadyIn.nil;obtain⟨fn,tmps,assign,body,yU,hR⟩:=hy
     go_simp
     refine⟨fun hh=>(by cases hh),hR.mono ?_⟩;rintro e W3 ⟨bb,rfl,hJ⟩;refine hK _ _ ?_;clear hK K;refine G2 hP 22 (.bool (!bb)) ?_;refine G2 hP 23 (.bool (!bb)) ?_;refine wpAnyIn_done kR ?_ _
     go_simp
     exact hQ bb W3 hJ _ _ _ _ _ _ _ _ _ _ _ _ _ _ _ _ _ _ _ _ _ _ _
    refine AllReadyIn.cons J (fun K hK=> ?_) AllReadyIn.nil
    go_simp
    refine hK _ _ ?_;clear hK K;refine rdA 7 (fun K hK=> ?_)
    go_simp
    refine hK _ _ ?_;clear hK K;refine rdA 9 (fun K hK=> ?_)
    go_simp
    refine hK _ _ ?_;clear hK K;refine G2 hP 10 (.bool true) ?_;refine G2 hP 11 (.func (.yield l) #[] #[]) ?_;refine G2 hP 12 (.int .i64 (j:Int)) ?_;refine G2 hP 17 (.int .i64 (j:Int)) ?_;refine rdA 13 (fun K hK=> ?_)
    go_simp
    refine hK _ _ ?_;clear hK K;refine G2 hP 14 (.pointer (some ⟨t2,0,none⟩)) ?_;refine G2 hP 15 (.pointer (some ⟨t2,0,none⟩)) ?_;refine rdA 16 (fun K hK=> ?_)
    go_simp
    refine hK _ _ ?_;clear hK K;refine rdA 18 (fun K hK=> ?_)
    go_simp
    refine hK _ _ ?_;clear hK K;refine G2 hP 19 (.pointer (some ⟨b,j*3,none⟩)) ?_;refine rdA 20 (fun K hK=> ?_)
    go_simp
    refine hK _ _ ?_;clear hK K;refine wpAnyIn_ready (rs:=[21]) kR DI ?_;refine AllReadyIn.cons J (fun K hK=> ?_) AllReadyIn.nil;obtain⟨fn,tmps,assign,body,yU,hR⟩:=hy
    go_simp
    refine⟨fun hh=>(by cases hh),hR.mono ?_⟩;rintro e W3 ⟨bb,rfl,hJ⟩;refine hK _ _ ?_;clear hK K;refine G2 hP 22 (.bool (!bb)) ?_;refine G2 hP 23 (.bool (!bb)) ?_;refine wpAnyIn_done kR ?_ _
    go_simp
    exact hQ bb W3 hJ _ _ _ _ _ _ _ _ _ _ _ _ _ _ _ _ _ _ _ _ _ _ _
   refine AllReadyIn.cons J (fun K hK=> ?_) AllReadyIn.nil
   go_simp
   refine hK _ _ ?_;clear hK K;refine rdA 5 (fun K hK=> ?_)
   go_simp
   refine hK _ _ ?_;clear hK K;refine G2 hP 6 (.pointer (some ⟨b,j*3+1,none⟩)) ?_;refine rdA 7 (fun K hK=> ?_)
   go_simp
   refine hK _ _ ?_;clear hK K;refine rdA 9 (fun K hK=> ?_)
   go_simp
   refine hK _ _ ?_;clear hK K;refine G2 hP 10 (.bool true) ?_;refine G2 hP 11 (.func (.yield l) #[] #[]) ?_;refine G2 hP 12 (.int .i64 (j:Int)) ?_;refine G2 hP 17 (.int .i64 (j:Int)) ?_;refine rdA 13 (fun K hK=> ?_)
   go_simp
   refine hK _ _ ?_;clear hK K;refine G2 hP 14 (.pointer (some ⟨t2,0,none⟩)) ?_;refine G2 hP 15 (.pointer (some ⟨t2,0,none⟩)) ?_;refine rdA 16 (fun K hK=> ?_)
   go_simp
   refine hK _ _ ?_;clear hK K;refine rdA 18 (fun K hK=> ?_)
   go_simp
   refine hK _ _ ?_;clear hK K;refine G2 hP 19 (.pointer (some ⟨b,j*3,none⟩)) ?_;refine rdA 20 (fun K hK=> ?_)
   go_simp
   refine hK _ _ ?_;clear hK K;refine wpAnyIn_ready (rs:=[21]) kR DI ?_;refine AllReadyIn.cons J (fun K hK=> ?_) AllReadyIn.nil;obtain⟨fn,tmps,assign,body,yU,hR⟩:=hy
   go_simp
   refine⟨fun hh=>(by cases hh),hR.mono ?_⟩;rintro e W3 ⟨bb,rfl,hJ⟩;refine hK _ _ ?_;clear hK K;refine G2 hP 22 (.bool (!bb)) ?_;refine G2 hP 23 (.bool (!bb)) ?_;refine wpAnyIn_done kR ?_ _
   go_simp
   exact hQ bb W3 hJ _ _ _ _ _ _ _ _ _ _ _ _ _ _ _ _ _ _ _ _ _ _ _
  refine AllReadyIn.cons J (fun K hK=> ?_) AllReadyIn.nil
  go_simp
  refine hK _ _ ?_;clear hK K;refine rdA 3 (fun K hK=> ?_)
  go_simp
  refine hK _ _ ?_;clear hK K;refine rdA 5 (fun K hK=> ?_)
  go_simp
  refine hK _ _ ?_;clear hK K;refine G2 hP 6 (.pointer (some ⟨b,j*3+1,none⟩)) ?_;refine rdA 7 (fun K hK=> ?_)
  go_simp
  refine hK _ _ ?_;clear hK K;refine rdA 9 (fun K hK=> ?_)
  go_simp
  refine hK _ _ ?_;clear hK K;refine G2 hP 10 (.bool true) ?_;refine G2 hP 11 (.func (.yield l) #[] #[]) ?_;refine G2 hP 12 (.int .i64 (j:Int)) ?_;refine G2 hP 17 (.int .i64 (j:Int)) ?_;refine rdA 13 (fun K hK=> ?_)
  go_simp
  refine hK _ _ ?_;clear hK K;refine G2 hP 14 (.pointer (some ⟨t2,0,none⟩)) ?_;refine G2 hP 15 (.pointer (some ⟨t2,0,none⟩)) ?_;refine rdA 16 (fun K hK=> ?_)
  go_simp
  refine hK _ _ ?_;clear hK K;refine rdA 18 (fun K hK=> ?_)
  go_simp
  refine hK _ _ ?_;clear hK K;refine G2 hP 19 (.pointer (some ⟨b,j*3,none⟩)) ?_;refine rdA 20 (fun K hK=> ?_)
  go_simp
  refine hK _ _ ?_;clear hK K;refine wpAnyIn_ready (rs:=[21]) kR DI ?_;refine AllReadyIn.cons J (fun K hK=> ?_) AllReadyIn.nil;obtain⟨fn,tmps,assign,body,yU,hR⟩:=hy
  go_simp
  refine⟨fun hh=>(by cases hh),hR.mono ?_⟩;rintro e W3 ⟨bb,rfl,hJ⟩;refine hK _ _ ?_;clear hK K;refine G2 hP 22 (.bool (!bb)) ?_;refine G2 hP 23 (.bool (!bb)) ?_;refine wpAnyIn_done kR ?_ _
  go_simp
  exact hQ bb W3 hJ _ _ _ _ _ _ _ _ _ _ _ _ _ _ _ _ _ _ _ _ _ _ _
 refine AllReadyIn.cons J (fun K hK=> ?_) AllReadyIn.nil
 go_simp
 refine hK _ _ ?_;clear hK K;refine rdA 0 (fun K hK=> ?_)
 go_simp
 refine hK _ _ ?_;clear hK K;refine G2 hP 1 (.pointer (some ⟨t2,0,none⟩)) ?_;refine G2 hP 2 (.pointer (some ⟨t2,0,none⟩)) ?_;refine rdA 3 (fun K hK=> ?_)
 go_simp
 refine hK _ _ ?_;clear hK K;refine rdA 5 (fun K hK=> ?_)
 go_simp
 refine hK _ _ ?_;clear hK K;refine G2 hP 6 (.pointer (some ⟨b,j*3+1,none⟩)) ?_;refine rdA 7 (fun K hK=> ?_)
 go_simp
 refine hK _ _ ?_;clear hK K;refine rdA 9 (fun K hK=> ?_)
 go_simp
 refine hK _ _ ?_;clear hK K;refine G2 hP 10 (.bool true) ?_;refine G2 hP 11 (.func (.yield l) #[] #[]) ?_;refine G2 hP 12 (.int .i64 (j:Int)) ?_;refine G2 hP 17 (.int .i64 (j:Int)) ?_;refine rdA 13 (fun K hK=> ?_)
 go_simp
 refine hK _ _ ?_;clear hK K;refine G2 hP 14 (.pointer (some ⟨t2,0,none⟩)) ?_;refine G2 hP 15 (.pointer (some ⟨t2,0,none⟩)) ?_;refine rdA 16 (fun K hK=> ?_)
 go_simp
 refine hK _ _ ?_;clear hK K;refine rdA 18 (fun K hK=> ?_)
 go_simp
 refine hK _ _ ?_;clear hK K;refine G2 hP 19 (.pointer (some ⟨b,j*3,none⟩)) ?_;refine rdA 20 (fun K hK=> ?_)
 go_simp
 refine hK _ _ ?_;clear hK K;refine wpAnyIn_ready (rs:=[21]) kR DI ?_;refine AllReadyIn.cons J (fun K hK=> ?_) AllReadyIn.nil;obtain⟨fn,tmps,assign,body,yU,hR⟩:=hy
 go_simp
 refine⟨fun hh=>(by cases hh),hR.mono ?_⟩;rintro e W3 ⟨bb,rfl,hJ⟩;refine hK _ _ ?_;clear hK K;refine G2 hP 22 (.bool (!bb)) ?_;refine G2 hP 23 (.bool (!bb)) ?_;refine wpAnyIn_done kR ?_ _
 go_simp
 exact hQ bb W3 hJ _ _ _ _ _ _ _ _ _ _ _ _ _ _ _ _ _ _ _ _ _ _ _
end
variable{t2 k:Nat}
theorem yV(h:w.heap[t2]? =some (.cells #[.slice (some ⟨b,0,none⟩) n (n+k)] 127 (0,0)))(hn:n<=4096):Calls Tryz.prog 67 #[.pointer (some ⟨t2,0,none⟩)] w fun e w'=>e=.returned (.int .i64 n)/\w=w':=by
 have c0:w.cell? ⟨t2,0,none⟩=some (.slice (some ⟨b,0,none⟩) n (n+k)):=LS h J
 go_enter Tryz.func67,Tryz.ntmps67
 go_wp2
 go_ret
 exact⟨rfl,rfl⟩
def Kq(N q7:Nat)(A B:World):Prop:=A.heap.size<=B.heap.size/\∀k,k<N->k≠q7->B.heap[k]? =A.heap[k]?
variable{N q7:Nat}
theorem Kq.trans{A B C:World}(h:Kq N q7 A B)(k:Kq N q7 B C):Kq N q7 A C:=⟨Nat.le_trans h.1 k.1,fun i hi hn=>(k.2 i hi hn).trans (h.2 i hi hn)⟩
variable{AG W':World}{q5 q3:Nat}{ex:List Value}
theorem It.keep(h:It AG q5 q3 t2 b n k o R ex)(h5:W'.heap[q5]? =AG.heap[q5]?)(h3:W'.heap[q3]? =AG.heap[q3]?)(h2:W'.heap[t2]? =AG.heap[t2]?)(hb:W'.heap[b]? =AG.heap[b]?):It W' q5 q3 t2 b n k o R ex:=⟨h5.trans h.c5,h3.trans h.c3,h2.trans h.c2,hb.trans h.cb⟩
theorem grown_drew(AG:World):AG.grownBy AG.drew none:=⟨rfl,rfl,rfl,Ao _,fun k _ _=>rfl⟩
def SB(x:Int×Int):Array Value:= #[.int .i64 x.1,.int .i64 x.2]
variable{m:Nat}
theorem mN(h:It w q5 q3 t2 b n k o R ex)(hn:R.length=n)(hn2:n<=4096)(n5:q5≠q7)(n3:q3≠q7)(n2:t2≠q7)(nb:b≠q7):
 SeqStopsK Fence.wide m Tryz.prog 199 #[.pointer (some ⟨q5,0,none⟩),.pointer (some ⟨q3,0,none⟩)] SB (Kq w.heap.size q7) (fun _=>True) (fun _=>True) n w:=fun l AC Jx AG hW hJ hJx hY h0=>by
 have l5:q5<w.heap.size:=(A1.1 h.c5).1;have l3:q3<w.heap.size:=(A1.1 h.c3).1;have l2:t2<w.heap.size:=(A1.1 h.c2).1;have lb:b<w.heap.size:=(A1.1 h.cb).1;have H:=Go.Lib.hid (h.keep (hW.block _ l5) (hW.block _ l3) (hW.block _ l2) (hW.block _ lb));have c5:AG.cell? ⟨q5,0,none⟩=some (.pointer (some ⟨t2,0,none⟩)):=LS H.out.c5 J;have H0:=Go.Lib.hid h0;have HJ:=Go.Lib.hid hY;have HA:=Go.Lib.hid hJ;clear hY hJ hJx h0 h hW;refine callsIn_of_wp Tryz.func199 J trivial ?_ J;simp only[Tryz.ntmps199,List.size_toArray,Bz,List.length_nil,Nat.reduceAdd,Nat.reduceSub,Array.replicate_succ,Array.replicate_zero,List.push_toArray,List.append_toArray,AS,AQ]
 gi_wp2_with (first|(refine⟨trivial,fun hh=>(by cases hh),?_⟩;gi_at_call 67;refine(callsIn_wide.2 (yV H.out.c2 hn2)).mono ?_;rintro e w1 ⟨rfl,rfl⟩))
 gi_loopw [7] (fun v wr=>∃j:Nat,v=.int .i64 j/\j<=n/\(∃pre,pre.length<=j/\AC pre wr)/\It wr q5 q3 t2 b n k o R ex) (fun v _=>n-(match v with| .int _ j=>j.toNat|_=>0))
 case atStart=>exact⟨0,rfl,Cj _,⟨[],Ao _,H0.out⟩,H.out⟩
 case round=>
  obtain⟨j,rfl,hj,⟨pre,hpl,hJp⟩,hIt⟩:=hrel;have HI:=Go.Lib.hid hIt;have HJj:=Go.Lib.hid hJp;clear hJp hIt c5 H H0;by_cases hjn:j<n
  ·have hr:R[j]? =some R[j]:=AZ I;generalize R[j]=r at hr
   gi_wp2
   by_cases ho:r.2.1=o
   ·have hg:AC pre wr.drew:=HA.out pre wr wr.drew none HJj.out (grown_drew wr) (fun r e=>by cases e);obtain⟨fn,tmps,assign,body,yU,hR⟩:=HJ.out pre ((j:Int),r.1) wr.drew hg I;refine aCe HI.out hr hn hn2 ho (Po:=fun bb W3=>(bb=true/\AC (pre++[((j:Int),r.1)]) W3/\Kq w.heap.size q7 wr.drew W3)\/(bb=false/\Jx (pre++[((j:Int),r.1)]) W3)) ⟨fn,tmps,assign,body,yU,hR.mono ?_⟩ (fun _ _ d _ _ h=>by cases d<;>exact h) ?_
    ·rintro e W' (⟨rfl,g1,g2⟩|⟨rfl,g1⟩)
     ·exact⟨true,rfl,.inl ⟨rfl,g1,g2⟩⟩
     ·exact⟨false,rfl,.inr ⟨rfl,g1⟩⟩
    clear yU hR hg HJj;rintro bb W3 (⟨rfl,g1,g2⟩|⟨rfl,g1⟩)
    ·intros
     gi_wp2
     refine⟨⟨j+1,rfl,I,⟨_,by simp;omega,g1⟩,HI.out.keep (g2.2 _ l5 n5) (g2.2 _ l3 n3) (g2.2 _ l2 n2) (g2.2 _ lb nb)⟩,?_⟩;simp;omega
    ·intros
     gi_wp2
     refine bodyPost_ret (results_none J _ _ _) J ?_;exact⟨⟨_,rfl⟩,.inr ⟨_,trivial,g1⟩⟩
   ·refine aCd HI.out hr hn hn2 ho (fun _ _ d _ _ h=>by cases d<;>exact h) ?_;intros
    gi_wp2
    refine⟨⟨j+1,rfl,I,⟨_,I,HA.out pre wr wr.drew none HJj.out (grown_drew wr) (fun r e=>by cases e)⟩,HI.out.keep rfl rfl rfl rfl⟩,?_⟩;simp;omega
  ·have aEB:j=n:=I;subst aEB
   gi_wp2
   go_end0
   exact⟨⟨_,rfl⟩,.inl ⟨_,trivial,HJj.out⟩⟩
section
abbrev VP(ps:String):Code:=Code.block 1
 (Code.region 5
  #[{dst:=some 27,op:=Op.load 3 (Operand.tmp 7),type:=3,pos:=ps,after:= #[],guard:=none},
   {dst:=some 28,op:=Op.binOp BinOp.add 3 (Operand.tmp 27) (Operand.const (Value.int IntKind.i64 1)) 3,type:=3,pos:=ps,after:= #[{on:=0,ground:=Ground.data}],guard:=none},
   {dst:=none,op:=Op.store 3 (Operand.tmp 7) (Operand.tmp 28),type:=0,pos:=ps,after:= #[{on:=1,ground:=Ground.data},{on:=0,ground:=Ground.phase},{on:=1,ground:=Ground.phase}],guard:=none}]
  false)
attribute [local go_sem] Oper.semAt_some
variable{ps:String}
theorem body5{l:Nat}{c:Int}{t:Array Value}{ds:List Deferred}(h7:t[7]?.getD undef=.pointer (some ⟨q7,0,none⟩))(hz:29<=t.size)(hc:AG.heap[q7]? =some (.cells #[.int .i64 c] 3 (0,0))):
 (VP ps).wpIn (Fence.wide.inRound l) m Tryz.prog (fun e a' W'=>e=.normal/\∃c':Int,W'=AG.setCell ⟨q7,0,none⟩ (.int .i64 c')/\-9223372036854775808<=c'/\c'<=9223372036854775807) ⟨t,ds⟩ AG:=by
 have c0:AG.cell? ⟨q7,0,none⟩=some (.int .i64 c):=LS hc J;have f0:AG.frozen? ⟨q7,0,none⟩=false:=by simp[World.frozen?,hc]
 have z27:27<t.size:=I;have z28:28<t.size:=I;unfold VP
 gi_wp2
 exact⟨_,rfl,by unfold RowKit.wrap64;omega,by unfold RowKit.wrap64;omega⟩
abbrev dR(q7:Nat)(c:Int)(F:A2):A2:=A7 q7 [.int .i64 c] 3::F
variable{A:Om}
theorem dS{S:A2}{row:Option Nat}(h:Ds A AG S)(hg:AG.grownBy W' row)(hN:∀x∈S.flatten,x.1<N)(hr:∀r,row=some r->N<=r):Ds A W' S:=⟨hg.os.trans h.os,hg.tape.trans h.tape,hg.output.trans h.output,Nat.le_trans h.size hg.size,h.nodup,fun x hx=>(hg.block x.1 (h.lt hx) (fun e=>by have:=hr _ e.symm;have:=hN x hx;omega)).trans (h.has x hx)⟩
theorem QB{q:Nat}{cs:Array Value}(hc:AG.heap[q]? =some (.cells cs t (0,0))):KeepsOthers AG (AG.setCell ⟨q,0,none⟩ v):=by
 refine⟨by simp[World.setCell],fun k o hk ho=> ?_⟩;rw[heap_setCell_other _ _ _ _ (fun e=> ?_)]
 ·exact hk
 ·have e:k=q:=e;subst e;rw[hc]at hk;cases hk;cases ho
variable{F:A2}
theorem qi{c c':Int}(h:Ds A AG (dR q7 c F)):Ds A (AG.setCell ⟨q7,0,none⟩ (.int .i64 c')) (dR q7 c' F):=by
 have hc:AG.heap[q7]? =some (.cells #[.int .i64 c] 3 (0,0)):=h.has (q7,.cells #[.int .i64 c] 3 (0,0)) (by simp[A7]);refine Ds.put (o:=.cells #[.int .i64 c] 3 (0,0)) h J J J (by simp[World.setCell]) ?_ ?_
 ·exact heap_setCell_same AG q7 0 _ _ _ hc
 ·intro k _ hk;exact heap_setCell_other _ _ _ _ hk
theorem mO{a:Act}{o c:Int}{Q:Exit->Act->World->Prop}
 (hs:Ds A w (dR q7 c F)) (hc1: -9223372036854775808<=c) (hc2:c<=9223372036854775807)
 (hF:∀x∈[A7 q5 [Au t2] 74,A7 q3 [.int .u64 o] 43,A7 t2 [.slice (some ⟨b,0,none⟩) n (n+k)] 127,A7 b (Ez R++ex) 93],∀y∈x,y∈F.flatten)
 (hn:R.length=n) (hn2:n<=4096) (J5:a.eval (.tmp 24)=.func (.func 199) #[] #[Au q5,Au q3]) (h7:a.tmps[7]? =some (Au q7)) (hz:29<=a.tmps.size)
 (hQ:∀(D:Nat) (c:Int) (AG:World),-9223372036854775808<=c->c<=9223372036854775807->Ds A AG ([(D,.deferred (some []))]::dR q7 c F)->Q .normal {a with defers:={target:=.collected D,args:= #[]}::a.defers} AG):
 (Code.block 0 (Code.rangeFunc (.tmp 24) #[25,26] Code.skip (VP ps))).wp Tryz.prog Q a w:=by
 have hN:∀c':Int,∀x∈(dR q7 c' F).flatten,x.1<w.heap.size:=fun c' x hx=>by
  rw[AW,Aj]at hx;rcases hx with hx|hx
  ·simp only[A7,AP]at hx;subst hx;exact hs.lt (x:=(q7,.cells #[.int .i64 c] 3 (0,0))) (by simp[A7])
  ·exact hs.lt (x:=x) (by rw[AW,Aj];exact .inr hx)
 have hne:∀y∈F.flatten,y.1≠q7:=fun y hy e=>by have:=hs.nodup;simp only[AW,A7,EJ,Ap,Bv]at this;exact this.1 (A8.2 ⟨y,hy,e⟩)
 have hat:∀y∈F.flatten,w.heap[y.1]? =some y.2:=fun y hy=>hs.has y (by rw[AW,Aj];exact .inr hy)
 have m5:=hF (A7 q5 [Au t2] 74) DI (q5,.cells #[Au t2] 74 (0,0)) (by simp[A7]);have m3:=hF (A7 q3 [.int .u64 o] 43) DI (q3,.cells #[.int .u64 o] 43 (0,0)) (by simp[A7]);have m2:=hF (A7 t2 [.slice (some ⟨b,0,none⟩) n (n+k)] 127) DI (t2,.cells #[.slice (some ⟨b,0,none⟩) n (n+k)] 127 (0,0)) (by simp[A7]);have mb:=hF (A7 b (Ez R++ex) 93) DI (b,.cells (Ez R++ex).toArray 93 (0,0)) (by simp[A7]);have hIt:It w q5 q3 t2 b n k o R ex:=⟨hat _ m5,hat _ m3,hat _ m2,hat _ mb⟩
 refine(wpIn_wide (n:=5)).1 (wpIn_block ?_);refine wpIn_rangeFunc_ownF (F:=Fence.wide) (n:=5) (α:=Int×Int) (encs:=SB) (Kp:=Kq w.heap.size q7) (S:=fun _=>True) (Sp:=fun _=>True) (N:=n) (w0:=w) J I (gf:=199) (lb:= #[Au q5,Au q3]) J5 trivial (fun args w=>KT kR _ _)
  (mN hIt hn hn2 (hne _ m5) (hne _ m3) (hne _ m2) (hne _ mb)) (fun h k=>h.trans k) ?_ (RowKit.Below.refl _ _) (fun x=>rfl)
  (fun _ AG=>∃c':Int,-9223372036854775808<=c'/\c'<=9223372036854775807/\Ds A AG (dR q7 c' F)) (fun _ _ _=>False) ?_ ?_ ⟨c,hc1,hc2,hs⟩ (fun x=>{tmps:=((#[25,26]:Array Nat).zip (SB x)).foldl (fun t (p,v)=>t.setIfInBounds p v) a.tmps,defers:=[]}) ?_ ?_ ?_ ?_
 ·intro AG l o1 o2 hl ho _ _;refine⟨by simp,fun k hk _=>World.putObj_heap_other I⟩
 ·rintro s AG W' row ⟨c',g1,g2,g3⟩ hg hr;exact⟨c',g1,g2,dS g3 hg (hN c') (fun r e=>(hr r e).1)⟩
 ·intro _ s AG W' row hs _ _;exact hs
 ·intro l x AG K hK;exact wpIn_skip hK
 ·rintro l pre x AG ⟨c',g1,g2,g3⟩ _;have hc:AG.heap[q7]? =some (.cells #[.int .i64 c'] 3 (0,0)):=g3.has (q7,.cells #[.int .i64 c'] 3 (0,0)) (by simp[A7]);refine wpIn_mono (body5 (c:=c') (q7:=q7) ?_ ?_ hc) ?_
  ·simp[SB,h7];try rfl
  ·simp[SB];omega
  ·rintro e a' W' ⟨rfl,c2,rfl,k1,k2⟩;exact⟨QB hc,⟨by simp[World.setCell],fun k _ hk=>heap_setCell_other _ _ _ _ hk⟩,c2,k1,k2,qi g3⟩
 ·rintro D xs AG hD _ ⟨c',g1,g2,g3⟩ hDo;refine hQ D c' AG g1 g2 ⟨g3.os,g3.tape,g3.output,g3.size,?_,fun x hx=> ?_⟩
  ·simp only[AW,EJ,Ap,Bv];refine⟨fun hm=> ?_,by have:=g3.nodup;simpa using this⟩;obtain⟨x,hx,he⟩:=A8.1 hm;have:=hN c' x (by simpa using hx);omega
  ·rw[AW,Aj]at hx;rcases hx with hx|hx
   ·simp only[AP]at hx;subst hx;exact hDo
   ·exact g3.has x hx
 ·rintro D c pre AG _ _ hI;exact hI.elim
end
variable{M:List Int}{D:List (List Int)}{ds:Value}{old:List CH}
theorem yi(hM:M.length=32)(hdr:tL D ds old)(hD:D.length<1099511627776):Fn Tryz.prog 18 [.bool true,.agg (bs M).toArray,ds] [old] (Dv (ι:=Nat×Nat×Value×List CH) (fun i=>SX D i.2.2.1 i.2.2.2) (fun i=>Au i.1) (fun i=>[oB i.1 M i.2.2.1 0 i.2.1 (.slice none 0 0),DX Gq i.2.1 [] 0,i.2.2.2,old])):=by
 refine Fn.of Tryz.func18 J J [_] J ?_
 (refine W ?_;intro b;refine W ?_;refine CW.dA (id:=1) [0,1,2,3,4,5,6,7] mixed hz kR nD ?_;refine W ?_)
 refine DL.GG tt J J J J J .here (by rw[Aa,hM]) ?_;refine W ?_;refine DL.B7 J J J (F:=[old]) (.cons (.there .here) .nil) (dX hdr hD) kR (fun _=>aP) (fun _=>Du pK) ?_;rintro⟨ds',vw⟩ hd';dsimp only at hd'⊢;obtain⟨p,cap,rfl⟩:∃p cap,ds'=.slice p D.length cap:=by
  obtain⟨_,⟨rfl,rfl,_⟩|⟨db,cap,ex,rfl,_⟩⟩:=hd'
  ·exact⟨none,0,rfl⟩
  ·exact⟨_,cap,rfl⟩
 refine DL.makeMap (enc:=Gq) J J ?_;intro kb;refine DL.build hz tt J J J J J J (ZR (Z:=BQ 32) hM J) ?_;refine DL.XI J J J (Du pK) ?_;intro nb;refine W ?_;exact BD (nb,kb,.slice p D.length cap,vw) hd' (DC (RV.tmp J)) (.cons .here (.cons .here (.cons .here (.cons .here .nil))))
abbrev SC(n:Nat)(b:Bool)(M:List Int)(ds v:Value):List Value:=[.int .i64 (n:Int),.bool b]++bs M++[ds,v]
theorem yj{b:Bool}(hM:M.length=32):((SC n b M ds v).drop (0+2)).take 32=bs M:=by simp[SC,Ar,Aa,hM,AX]
theorem rA{b:Bool}(hM:M.length=32):E1 (SC n b M ds v) (0+34)=some ds:=by rw[D5,BM];simp[SC,Aa,hM,BF]
theorem yk{b:Bool}(hM:M.length=32):E1 (SC n b M ds v) (0+35)=some v:=by rw[D5,BM];simp[SC,Aa,hM,BF]
def aEM(n:Nat)(old:List CH):Ending->A2->Prop:=fun e S'=>∃(mb m0 ab r0 rb ob x rl rc rm:Nat) (v':Value) (c2 c5:List CH),e=.returned (.tuple #[Au mb,.int .i64 0])/\G1 ob 0 [0] ob c2/\Ze v' c5/\S'=[Dy m0 ab n,EY ab (BQ (128*n)),Ei r0 rb n,Em rb (List.replicate n (0,0,0)),c2,JF rl ob rm 0,DX (Value.int .i64) rm [] 0,A7 x [Au m0,Au r0] 134,c5,A7 mb (X1 (Au ob) m0 r0 (Au x) (Au rl) (.map (some rc)) v' (.int .i64 0) (.int .u64 0) (.slice none 0 0)) 89,DX (Value.int .i64) rc [] 0,old]
theorem aEN(hn:1<=n/\n<=4096)(hM:M.length=32)(hMb:BN M)(hdr:tL D ds old)(ZG:∀x∈D,BN x)(hD:D.length<1099511627776)(hE:dW v old):
 Fn Tryz.prog 7 [.agg (SC n true M ds v).toArray] [old] (aEM n old):=by
 refine Fn.of Tryz.func7 J J [_,_] J ?_
 (refine W ?_;intro b;refine W ?_)
 refine DL.B7 J J J .nil (sj hn) kR (fun _=>aP) (fun _=>D9) ?_;rintro⟨m0,ab⟩-
 dsimp only;refine W ?_;refine DL.B7 J J J .nil (sn hn) kR (fun _=>aP) (fun _=>D9) ?_;rintro⟨r0,rb⟩-
 dsimp only;refine W ?_;refine DL.HQ tt (cs:=SC n true M ds v) (vs:=bs M) J J J J J (.tail _ (.tail _ (.tail _ (.tail _ (.head _))))) (yj hM) (by rw[Aa,hM]) ?_;refine W ?_;refine DL.ld1 tt J J J J J iN (rA hM) ?_;skip
 refine DL.B7 J J J pK (yi hM hdr hD) kR (fun _=>aP) (fun _=>D9) ?_;rintro⟨ob,kb,ds',vw⟩ hdr';dsimp only at hdr'⊢;have hor:G1 ob 0 [0] ob [oB ob M ds' 0 kb (.slice none 0 0),DX Gq kb [] 0,vw].flatten:=by refine⟨0,rfl,rfl,M,D,0,[],⟨ds',kb,0,.slice none 0 0,[],[],[],vw,[],by simp,hM,hdr',.inl ⟨rfl,rfl,rfl,rfl⟩,.nil,fun q=>rfl,fun e he=>by cases he⟩,hD,I,by simp,ZG,fun e he=>by cases he⟩
 refine W ?_;generalize hc2:[oB ob M ds' 0 kb (.slice none 0 0),DX Gq kb [] 0,vw].flatten=c2 at hor;refine CW.FK (T:=[c2,old,Ei r0 rb n,Em rb (List.replicate n (0,0,0)),Dy m0 ab n,EY ab (BQ (128*n)),A7 b (SC n true M ds v) 27]) (by rw[<-hc2];simp) ?_;refine CW.dA (id:=6) [0,1,2,3,4,6,10,11,5,7,8,12,9,13,14,15,16] mixed hz kR nD ?_;refine W ?_;refine DL.G8 tt J J J J J iN (yk hM) ?_;skip
 refine DL.B7 J J J .nil aBt kR (fun _=>aP) (fun _=>Du pK) ?_;rintro x-
 skip
 refine DL.call J J J pK (aBu (j:=0) Ba hor) kR (fun ch S1 hc=>by obtain⟨_,_,_,hc,_⟩:=hc;cases hc) ?_;rintro u S1 ⟨rl,rm,gc,hv,rfl⟩;cases hv;refine⟨Du (by simp only[AQ,AS];(repeat(first|with_reducible exact DV.nil|with_reducible exact Gg.here|with_reducible apply Gg.there|with_reducible apply DV.cons))),?_⟩;simp only[AQ,AS,Am,Dc];refine W ?_;refine DL.congr (fr:=[(39,.agg [Au ob,Au m0,Au r0,Au x,Au rl].toArray),(42,v),(3,.int .i64 0)]) ?_ sF (.refl _);refine DL.call J J J pK (mX hE) kR (fun ch S1 hc=>by obtain⟨_,_,hc,_⟩:=hc;cases hc) ?_;rintro u S1 ⟨v',c5,hv,hE',rfl⟩;cases hv;refine⟨Du (by simp only[AQ,AS];(repeat(first|with_reducible exact DV.nil|with_reducible exact Gg.here|with_reducible apply Gg.there|with_reducible apply DV.cons))),?_⟩;simp only[AQ,AS,Am,Dc];obtain⟨vp,vl,vc,rfl⟩:∃p l c,u=.slice p l c:=by
  rcases hE' with⟨rfl,_⟩|⟨_,_,_,_,_,rfl,_⟩
  ·exact⟨_,_,_,rfl⟩
  ·exact⟨_,_,_,rfl⟩
 refine DL.makeMap (enc:=Value.int .i64) J J ?_;intro rc
 (refine W ?_;intro b;refine W ?_)
 rename_i b0;have hp:DV [A7 b (X1 (Au ob) m0 r0 (Au x) (Au rl) (.map (some rc)) (.slice vp vl vc) (.int .i64 0) (.int .u64 0) (.slice none 0 0)) 89,DX (Value.int .i64) rc [] 0,old,c5,c2,JF rl ob rm 0,DX (Value.int .i64) rm [] 0,gc,A7 x [Au m0,Au r0] 134,Ei r0 rb n,Em rb (List.replicate n (0,0,0)),Dy m0 ab n,EY ab (BQ (128*n)),A7 b0 (SC n true M ds v) 27]
  [Dy m0 ab n,EY ab (BQ (128*n)),Ei r0 rb n,Em rb (List.replicate n (0,0,0)),c2,JF rl ob rm 0,DX (Value.int .i64) rm [] 0,A7 x [Au m0,Au r0] 134,c5,A7 b (X1 (Au ob) m0 r0 (Au x) (Au rl) (.map (some rc)) (.slice vp vl vc) (.int .i64 0) (.int .u64 0) (.slice none 0 0)) 89,DX (Value.int .i64) rc [] 0,old] [gc,A7 b0 (SC n true M ds v) 27]:=pK
 exact⟨_,_,_,Fb (RV.tmp J) (RV.tmp J),hp,b,m0,ab,r0,rb,ob,x,rl,rc,rm,.slice vp vl vc,c2,c5,rfl,hor,hE',rfl⟩
theorem rB{ρ:Nm}{c:List CH}(h:Ze v c):∃q k,NV ρ (some Bw) 43 q k c/\XT q k (GQ q) 0 1 2 v:=by
 rcases h with⟨rfl,rfl⟩|⟨b,off,len,cap,cs,rfl,hle,hcap,qt,rfl,hall⟩
 ·exact⟨0,0,.inl ⟨rfl,rfl⟩,.inl ⟨rfl,rfl,fun _=>rfl⟩⟩
 ·have e1:QH ((b+1)*4294967296+len)=b:=by unfold QH;omega
  have e2:GQ ((b+1)*4294967296+len)=len:=by unfold GQ;omega
  have hne:(b+1)*4294967296+len≠0:=I;refine⟨(b+1)*4294967296+len,cs.length,.inr ⟨hne,cs,rfl,fun x hx u hu=> ?_,by rw[e1]⟩,.inr ⟨hne,off,len,cap,by rw[e1],hle,by rw[e2];omega,I,(fun h=>by cases h),fun _=>by rw[e2]⟩⟩;cases hx;obtain⟨y,rfl,hy⟩:=hall u hu;exact QV hy
theorem mf{mb m0 ab r0 ob x rl rc rm:Nat}{v':Value}{c2 c5:List CH}(hor:G1 ob 0 [0] ob c2)(hE:Ze v' c5)(hn:1<=n/\n<=4096):
 ∃ρ:Nm,ρ[6]? =some (mb,0)/\IZ n ob 0 0 ρ (List.replicate n (0,0,0)) (BQ (128*n)) [Dy m0 ab n++EY ab (BQ (128*n)),Ei r0 rb n++Em rb (List.replicate n (0,0,0)),c2,[JF rl ob rm 0,DX (Value.int .i64) rm [] 0,[]].flatten,A7 x [Au m0,Au r0] 134,c5,A7 mb (X1 (Au ob) m0 r0 (Au x) (Au rl) (.map (some rc)) v' (.int .i64 0) (.int .u64 0) (.slice none 0 0)) 89,DX (Value.int .i64) rc [] 0]:=by
 obtain⟨q,k,h1,h2⟩:=rB (ρ:=[(m0,0),(r0,0),(ob,0),(rl,0),(x,0),(0,0),(mb,0),(rc,0)]) hE;have h1':NV [(m0,0),(r0,0),(ob,0),(rl,0),(x,0),(q,k),(mb,0),(rc,0)] (some Bw) 43 q k c5:=by
  rcases h1 with f0|⟨f0,ex,f1,f2,f3⟩
  ·exact .inl f0
  ·refine .inr ⟨f0,ex,f1,fun y hy u hu=> ?_,f3⟩;cases hy;have:=f2 _ J u hu;cases this with|int a b=>exact .int a b
 have hR:(∀r∈List.replicate n ((0,0,0):Rw),Lt r)/\(List.replicate n ((0,0,0):Rw)).length=n:=⟨fun r hr=>by obtain⟨_,rfl⟩:=D6.1 hr;decide,EK⟩
 refine⟨[(m0,0),(r0,0),(ob,0),(rl,0),(x,0),(q,k),(mb,0),(rc,0)],rfl,Ru.pn (.res J ((kq _ _).2 ⟨ab,_,rfl,Bn _,E0 _⟩)) (.res J ((YF _ _).2 ⟨rb,_,rfl,hR.2,hR.1,fun j r hr=>Tt hr⟩)) (.res J ((OY _ _ _).2 hor)) (.res J ((PP _ _ _).2 ⟨0,rfl,rm,0,[],0,[],rfl,Ba,Ba,?_⟩)) (.cells J (.cons (.Au J) (.cons (.Au J) .nil))) (.unk J h1') (.cells J (.cons (.Au J) (.cons (.Au J) (.cons (.Au J) (.cons (.Au J) (.cons (.Au J) (.cons (.mp J) (.cons (.GY J J h2) (.cons (.int Ba Ba) (.cons (.int ?_ ?_) (.cons (.junk J) .nil))))))))))) (.Hl J (fun p hp=>by cases hp)) rfl,hR,⟨Bn _,E0 _⟩,⟨_,_,ab,rfl,rfl⟩,⟨_,_,rb,rfl,rfl⟩⟩
 ·exact .nil
 ·rw[Fj];decide
 ·rw[F2];decide
structure Stp where
 kind:Int
 op:Int
 a:Nat->Nat
 ad:Nat
 wd:Nat
 bp:Option Addr
 bl:Nat
 bc:Nat
abbrev Stp.bv(s:Stp):Value:=.slice s.bp s.bl s.bc
abbrev Stp.cells(s:Stp):List Value:=[.int .i64 s.kind,.int .i64 s.op,.int .u64 (s.a 0:Int),.int .u64 (s.a 1:Int),.int .u64 (s.a 2:Int),.int .u64 (s.a 3:Int),.int .u64 (s.a 4:Int),.int .u64 (s.a 5:Int),.int .u64 (s.ad:Int),.int .u64 (s.wd:Int),s.bv]
def Nw(L:List Stp)(lv:Value)(lC:List CH):Prop:=(L=[]/\lv=.slice none 0 0)\/∃lb off cap,lv=.slice (some ⟨lb,off,none⟩) L.length cap/\QC lC lb off (L.map Stp.cells).flatten
theorem W1:∀{L:List Stp} {i:Nat} {s:Stp},L[i]? =some s->((L.map Stp.cells).flatten.drop (i*11)).take 11=s.cells
 |[],i,s,h=>by simp at h
 |x::L,0,s,h=>by simp only[Ci,AH]at h;subst h;rfl
 |x::L,i+1,s,h=>by
  have ih:=W1 (L:=L) (i:=i) (s:=s) (by simpa using h)
  have hl:x.cells.length=11:=rfl;rw[Ap,AW,CM,BJ I,AS,show(i+1)*11-x.cells.length=i*11 by omega];exact ih
variable{L:List Stp}{lC:List CH}
theorem mg{lb off i:Nat}{s:Stp}(h:QC lC lb off (L.map Stp.cells).flatten)(hs:L[i]? =some s):QC lC lb (off+i*11) s.cells:=h.sub (W1 hs) J
variable{lv:Value}
theorem LG(h:Nw L lv lC):∃p c,lv=.slice p L.length c:=by
 rcases h with⟨rfl,rfl⟩|⟨lb,off,cap,rfl,_⟩
 ·exact⟨_,_,rfl⟩
 ·exact⟨_,_,rfl⟩
abbrev setW(n:Int)(b:Bool)(M:List Int)(ds v:Value):List Value:=[.int .i64 n,.bool b]++bs M++[ds,v]
theorem rC{n:Int}{b:Bool}(hM:M.length=32):E1 (setW n b M ds v) (0+34)=some ds:=by rw[D5,BM];simp[setW,Aa,hM,BF]
theorem yl{n:Int}{b:Bool}(hM:M.length=32):E1 (setW n b M ds v) (0+35)=some v:=by rw[D5,BM];simp[setW,Aa,hM,BF]
theorem aEO{n:Int}{b:Bool}{dp ep:Option Addr}{dl dc el ec:Nat}(hM:M.length=32)(hL:Nw L lv lC)(hdl:dl<9223372036854775808)(hel:el<9223372036854775808)(tM:L.length<9223372036854775808):
 Fn Tryz.prog 4 [.agg (setW n b M (.slice dp dl dc) (.slice ep el ec)).toArray,lv] [lC] (Dv (ι:=Bool) (fun r=>r=true->1<=n/\n<=400/\dl<=300/\el<=100/\L.length<=120) (fun r=>.bool r) (fun _=>[lC])):=by
 obtain⟨lp,lc,rfl⟩:=LG hL;refine Fn.of Tryz.func4 J J [_] J ?_
 (refine W ?_;intro b;refine W ?_)
 by_cases h1:n<1
 ·refine W ?_;exact BD false (fun h=>by cases h) (DC (RV.tmp rfl)) pK
 refine W ?_;by_cases h2:n>400
 ·refine W ?_;exact BD false (fun h=>by cases h) (DC (RV.tmp rfl)) pK
 refine W ?_;refine DL.ld1 tt J J J J J iN (rC hM) ?_;refine W ?_;by_cases h3:(dl:Int)>300
 ·refine W ?_;exact BD false (fun h=>by cases h) (DC (RV.tmp rfl)) pK
 refine W ?_;refine DL.ld1 tt J J J J J iN (yl hM) ?_;refine W ?_;by_cases h4:(el:Int)>100
 ·refine W ?_;exact BD false (fun h=>by cases h) (DC (RV.tmp rfl)) pK
 refine W ?_;by_cases h5:(L.length:Int)>120
 ·refine W ?_;exact BD false (fun h=>by cases h) (DC (RV.tmp rfl)) pK
 refine W ?_;refine CW.loop (ι:=Nat) (fun i=>L.length-i) (fun i=>i<=L.length) (fun i=>[(1,.slice lp L.length lc),(5,.int .i64 (i:Int))]) (fun _=>[lC]) 0 (Cj _) sF pK ?_;intro i hi;refine W ?_;by_cases hiL:i<L.length
 ·refine CW.Gp J I ?_;refine W ?_;obtain⟨s,hs⟩:∃s,L[i]? =some s:=⟨_,AZ hiL⟩
  rcases hL with⟨rfl,_⟩|⟨lb,off,cap,hlv,hcs⟩
  ·simp at hiL
  ·cases hlv;have hc:=mg hcs hs;refine DL.C3 tt i J J J J J J hiL ?_;refine W ?_;refine DL.zI (k:=10) tt hc J J J J J UK J ?_;refine W ?_;by_cases g1:(s.bl:Int)>300
   ·refine W ?_;exact BD false (fun h=>by cases h) (DC (RV.tmp rfl)) pK
   refine W ?_;refine DL.C3 tt i J J J J J J hiL ?_;refine W ?_;refine DL.zI (k:=1) tt hc J J J J J UK J ?_;refine W ?_;by_cases g2:s.op=17
   ·refine W ?_;refine DL.C3 tt i J J J J J J hiL ?_;refine W ?_;refine DL.Fg tt 2 J J J J J J Ba ?_;skip
    refine DL.zI (k:=4) tt hc J J J J J UK J ?_;refine W ?_;by_cases g3:(s.a 2:Int)>300
    ·refine W ?_;refine DL.C3 tt i J J J J J J hiL ?_;refine W ?_;refine DL.Fg tt 2 J J J J J J Ba ?_;skip
     refine DL.zI (k:=4) tt hc J J J J J UK J ?_;refine W ?_;by_cases g4:(s.a 2:Int)<=10000
     ·refine W ?_;exact BD false (fun h=>by cases h) (DC (RV.tmp rfl)) pK
     ·refine W ?_;exact⟨i+1,_,I,I,sF,pK⟩
    ·refine W ?_;exact⟨i+1,_,I,I,sF,pK⟩
   ·refine W ?_;exact⟨i+1,_,I,I,sF,pK⟩
 ·refine CW.GM J I ?_;refine W ?_;exact BD true (fun _=>I) (DC (RV.tmp J)) pK
theorem rD(hL:Nw L lv lC)(tM:L.length<9223372036854775808):
 Fn Tryz.prog 5 [lv] [lC] (Dv (ι:=Nat) (fun c=>c<=L.length) (fun c=>.int .i64 (c:Int)) (fun _=>[lC])):=by
 obtain⟨lp,lc,rfl⟩:=LG hL;refine Fn.of Tryz.func5 J J [_] J ?_;refine W ?_;refine CW.loop (ι:=Nat×Nat) (fun i=>L.length-i.1) (fun i=>i.1<=L.length/\i.2<=i.1) (fun i=>[(0,.slice lp L.length lc),(4,.int .i64 (i.1:Int)),(3,.int .i64 (i.2:Int))]) (fun _=>[lC]) (0,0) ⟨Cj _,Cj _⟩ sF pK ?_;rintro⟨i,c⟩ ⟨hi,hcc⟩;dsimp only at hi hcc⊢;refine W ?_;by_cases hiL:i<L.length
 ·refine CW.Gp J I ?_;refine W ?_;obtain⟨s,hs⟩:∃s,L[i]? =some s:=⟨_,AZ hiL⟩
  rcases hL with⟨rfl,_⟩|⟨lb,off,cap,hlv,hcs⟩
  ·simp at hiL
  ·cases hlv;have hc:=mg hcs hs;refine DL.C3 tt i J J J J J J hiL ?_;refine W ?_;refine DL.zI (k:=0) tt hc J J J J J UK J ?_;refine W ?_;by_cases g1:s.kind=1
   ·refine W ?_;refine DL.C3 tt i J J J J J J hiL ?_;refine W ?_;refine DL.zI (k:=1) tt hc J J J J J UK J ?_;refine W ?_;by_cases g2:s.op=3
    ·refine W ?_;exact⟨(i+1,c+1),_,by dsimp only;omega,⟨by dsimp only;omega,by dsimp only;omega⟩,sF,pK⟩
    ·refine W ?_;exact⟨(i+1,c),_,by dsimp only;omega,⟨by dsimp only;omega,by dsimp only;omega⟩,sF,pK⟩
   ·refine W ?_;exact⟨(i+1,c),_,by dsimp only;omega,⟨by dsimp only;omega,by dsimp only;omega⟩,sF,pK⟩
 ·refine CW.GM J I ?_;refine W ?_;exact BD c I (DC (RV.tmp J)) pK
end
end Go.Proofs.YtfekkjbdcdnhlaaGreatDoor.Sep
