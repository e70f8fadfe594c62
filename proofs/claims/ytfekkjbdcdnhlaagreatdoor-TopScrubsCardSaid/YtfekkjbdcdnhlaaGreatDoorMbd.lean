/- Lemmas for TopScrubs. No condition but those that each states. -/
import Derived.Test.YtfekkjbdcdnhlaaGreatDoorMaz
import Derived.Test.YtfekkjbdcdnhlaaGreatDoorMbc
set_option linter.all false
set_option maxHeartbeats 8000000
set_option maxRecDepth 100000
namespace Go.Proofs.YtfekkjbdcdnhlaaGreatDoor.Sep
noncomputable section
section
variable{P:Program} {T:Tr} {n:Nat} {K:Option A2} {Q:EX} {fr:Fr} {S:A2} {rest:List FO}
variable{i ty d:Nat} {pos:String} {af:Array Edge} {gd g:Option (Nat×Bool)}
variable{s:ByteArray}
theorem DL.vj(hT:Dp P T=true){t sz l m c:Nat}{x:Operand}{lo hi:Option Operand}{SQ SG:Option Value}(hg:lg fr g=some true)(hn:Nat.blt d n=true)(ht:T.get t=some ⟨.str,sz⟩)(hx:Eg fr x=some (.string s))
 (hlo:F7 fr lo=some SQ) (hhi:F7 fr hi=some SG) (hb:Bd false s.size s.size SQ SG none l m c) (h:DL P n K Q rest ((d,.string (s.extract l m))::fr) S):
 DL P n K Q (⟨i,⟨some d,.slice t x lo hi none,ty,pos,af,gd⟩,g⟩::rest) fr S:=by
 refine DL.val J hg J hn (fun A R a w hk hs=> ?_) h;have hu:=Hh hT ht J;have hmx:F7 fr none=some none:=rfl;simp only[execOp,hk.eval hx,FX hk hlo,FX hk hhi,FX hk hmx,Instr.sliceAt,Ag,Ac hu,Ad,Instr.slice,hb.run,Option.isSome_none,Ce,Cc,BA]
end
variable{a b:ByteArray}
theorem f106(h:b.size<=a.size)(h2:a.size<=1000):Fn Tryz.prog 106 [.string a,.string b] [] (E4 (.bool ((a.extract (a.size-b.size) a.size).toList==b.toList)) []):=by refine Fn.of Tryz.func106 J J [_] J ?_;refine W ?_;refine DL.vj tt (l:=a.size-b.size) (m:=a.size) (c:=a.size) J J J J J J (.lo I I) ?_;exact W trivial
theorem f34(h:b.size<=a.size)(h2:a.size<=1000)(h3:((a.extract (a.size-b.size) a.size).toList==b.toList)=true):Fn Tryz.prog 34 [.string a,.string b] [] (E4 (.string (a.extract 0 (a.size-b.size))) []):=by
 have h57:Fn Tryz.prog 57 [.string a,.string b] [] (E4 (.string (a.extract 0 (a.size-b.size))) []):=by refine Fn.of Tryz.func57 J J [_] J ?_;refine W ?_;refine DL.BS J J J .nil (f106 h h2) kR .nil kO ?_;rw[h3];refine W ?_;refine DL.vj tt (l:=0) (m:=a.size-b.size) (c:=a.size) J J J J J J (.hi I I) ?_;exact W trivial
 refine Fn.of Tryz.func34 J J [_] J ?_;refine W ?_;refine DL.BS J J J .nil h57 kR .nil kO ?_;exact W trivial
theorem f176(h:b.size<=a.size)(h2:a.size<=1000):Fn Tryz.prog 176 [.string a,.string b] [] (E4 (.bool ((a.extract 0 b.size).toList==b.toList)) []):=by refine Fn.of Tryz.func176 J J [_] J ?_;refine W ?_;refine DL.vj tt (l:=0) (m:=b.size) (c:=a.size) J J J J J J (.hi I I) ?_;exact W trivial
theorem f59(h:b.size<=a.size)(h2:a.size<=1000):Fn Tryz.prog 59 [.string a,.string b] [] (E4 (.string (if(a.extract 0 b.size).toList==b.toList then a.extract b.size a.size else a)) []):=by
 have aCT:Fn Tryz.prog 108 [.string a,.string b] [] (E4 (.string (if(a.extract 0 b.size).toList==b.toList then a.extract b.size a.size else a)) []):=by
  refine Fn.of Tryz.func108 J J [_] J ?_;refine W ?_;refine DL.BS J J J .nil (f176 h h2) kR .nil kO ?_;generalize((a.extract 0 b.size).toList==b.toList)=t;cases t with
  |true=>refine W ?_;refine DL.vj tt (l:=b.size) (m:=a.size) (c:=a.size) J J J J J J (.lo I I) ?_;exact W trivial
  |false=>exact W trivial
 refine Fn.of Tryz.func59 J J [_] J ?_;refine W ?_;refine DL.BS J J J .nil aCT kR .nil kO ?_;exact W trivial
theorem aCU(s:ByteArray)(c:Int)(w:World):(callFunc 172 [Value.string s,Value.int .u8 c].toArray).run Tryz.prog w=.ok (.value (.int .i64 (Lib.countByte s.data.toList c.toNat.toUInt8))) w:=by rw[run_callFunc_extern Tryz.func172 kR kR kR (e:=Extern.BytealgCount.count) kR,Lib.run_countString];rfl
variable{s:ByteArray}
theorem f104{c:UInt8}:Fn Tryz.prog 104 [.string s,.string ⟨#[c]⟩] [] (E4 (.int .i64 (Lib.countByte s.data.toList c:Nat)) []):=by
 refine Fn.of Tryz.func104 J J [_] J ?_;refine W ?_;refine DL.val (v:=.int .u8 (c.toNat:Int)) J J J J (fun A R a w hk hs=> ?_) ?_
 ·have e2:a.eval (.tmp 17)=_:=hk.eval J;have e3:a.eval (.const (.int .i64 0))=.int .i64 0:=rfl;simp only[execOp,e2,e3,Ag];rw[run_index_string _ _ _ _ _ Tryz.underlying9];simp;rfl
 skip
 refine DL.ru J J J (aCU s c.toNat) kO ?_;rw[show((c.toNat:Int)).toNat.toUInt8=c by simp];exact W trivial
def MA:Nat->List (Int×AV)->Bool
 |k,[]=>Nat.beq k 22
 |k,(a,.fn f [] [])::r=>FN a (Int.ofNat k)&&Nat.beq f (Nat.add 69 k)&&MA (Nat.succ k) r
 |_,_=>false
theorem o8:OQ (DY []) (E3 (DY []) 100000) 48 (MA 1)=true:=kR
theorem Tj{ρ:Nm}:∀{L:List (Int×AV)} {L':List (Int×Value×Nat)} {i:Nat},MA i L=true->L'.map (·.1)=L.map (·.1)->Bt ρ (L.map (·.2)) (L'.map (·.2.1))->∀k:Nat,i<=k->k<=21->E9 L' (k:Int)=some (.func (.func (69+k)) #[] #[])
 |[],L',i,h,h1,h2,k,a1,a2=>by simp only[MA]at h;have:=AK h;omega
 |(a,x)::L,[],i,h,h1,h2,k,a1,a2=>by simp at h1
 |(a,x)::L,(b,v,z)::L',i,h,h1,h2,k,a1,a2=>by
  simp only[Ap,D1]at h1 h2;obtain⟨rfl,h1⟩:=h1;cases h2 with|cons g1 g2=>
  cases x with
  |fn f fa fc=>
   cases fa with
   |cons _ _=>simp[MA]at h
   |nil=>
    cases fc with
    |cons _ _=>simp[MA]at h
    |nil=>
     simp only[MA,AI,EO]at h;obtain⟨⟨e1,e2⟩,h⟩:=h;have e2:=AK e2;cases g1 with|fn c1 c2=>
     cases c1;cases c2;simp only[E9];by_cases e:k=i
     ·subst e;rw[BE (show(k:Int)=b from e1.symm),e2];rfl
     ·rw[Ah (by rw[e1];simp only[Int.ofNat_eq_natCast];omega)];exact Tj h h1 g2 k I a2
  |_=>simp[MA]at h
abbrev cC(r0 r1 r2 r3 r4 r5 r6 r7 pc:Int):List Value:=[.int .u64 r0,.int .u64 r1,.int .u64 r2,.int .u64 r3,.int .u64 r4,.int .u64 r5,.int .u64 r6,.int .u64 r7,.int .u64 pc]
theorem f302{r0 r1 r2 r3 r4 r5 r6 r7 pc x v:Int}:Fn Tryz.prog 302 [.agg (cC r0 r1 r2 r3 r4 r5 r6 r7 pc).toArray,.int .i64 x,.int .u64 v] [] (Dv (ι:=List Value×Int) (fun i=>(i.1=cC 0 0 0 0 0 0 0 0 0/\i.2=2)\/(∃j,j<8/\i.1=(cC r0 r1 r2 r3 r4 r5 r6 r7 pc).set j (.int .u64 v)/\i.2=0)) (fun i=>.tuple #[.agg i.1.toArray,.int .i64 i.2]) (fun _=>[])):=by
 refine Fn.of Tryz.func302 J J [_,_] J ?_
 (refine W ?_;intro b;refine W ?_;intro b;refine W ?_)
 obtain⟨q2,hq2⟩:∃q2,q2=b:=⟨_,rfl⟩
 subst hq2;by_cases hx:x<0
 ·rw[Bq hx];refine W ?_;refine DL.Bj tt J J J J uP J aL J kO ?_;refine W ?_;exact BD (cC 0 0 0 0 0 0 0 0 0,2) (.inl ⟨rfl,rfl⟩) (Fb (RV.D8 tt J J J (In.mem iN) J) (RV.tmp J)) .nil
 ·rw[BW hx];refine W ?_;by_cases hy:8<=x
  ·rw[Bq hy];refine W ?_;refine DL.Bj tt J J J J uP J aL J kO ?_;refine W ?_;exact BD (cC 0 0 0 0 0 0 0 0 0,2) (.inl ⟨rfl,rfl⟩) (Fb (RV.D8 tt J J J (In.mem iN) J) (RV.tmp J)) .nil
  ·rw[BW hy];refine W ?_;obtain⟨j,rfl⟩:=BO (show 0<=x by omega);have hj:j=0\/j=1\/j=2\/j=3\/j=4\/j=5\/j=6\/j=7:=I;clear hx hy;rcases hj with rfl|rfl|rfl|rfl|rfl|rfl|rfl|rfl
   all_goals
    refine DL.Fg tt _ J J J J J J Ba ?_;refine DL.Br tt J J J J J uP sTt J J lN kO ?_;refine W ?_;refine DL.LJ tt J J J J J iN J ?_;refine DL.Bj tt J J J J uP J aL J kO ?_;refine W ?_;first|exact BD ((cC r0 r1 r2 r3 r4 r5 r6 r7 pc).set 0 (.int .u64 v),0) (.inr ⟨0,Ba,rfl,rfl⟩) (Fb (RV.D8 tt J J J (In.mem iN) J) (RV.tmp J)) .nil|exact BD ((cC r0 r1 r2 r3 r4 r5 r6 r7 pc).set 1 (.int .u64 v),0) (.inr ⟨1,Ba,rfl,rfl⟩) (Fb (RV.D8 tt J J J (In.mem iN) J) (RV.tmp J)) .nil|exact BD ((cC r0 r1 r2 r3 r4 r5 r6 r7 pc).set 2 (.int .u64 v),0) (.inr ⟨2,Ba,rfl,rfl⟩) (Fb (RV.D8 tt J J J (In.mem iN) J) (RV.tmp J)) .nil|exact BD ((cC r0 r1 r2 r3 r4 r5 r6 r7 pc).set 3 (.int .u64 v),0) (.inr ⟨3,Ba,rfl,rfl⟩) (Fb (RV.D8 tt J J J (In.mem iN) J) (RV.tmp J)) .nil|exact BD ((cC r0 r1 r2 r3 r4 r5 r6 r7 pc).set 4 (.int .u64 v),0) (.inr ⟨4,Ba,rfl,rfl⟩) (Fb (RV.D8 tt J J J (In.mem iN) J) (RV.tmp J)) .nil|exact BD ((cC r0 r1 r2 r3 r4 r5 r6 r7 pc).set 5 (.int .u64 v),0) (.inr ⟨5,Ba,rfl,rfl⟩) (Fb (RV.D8 tt J J J (In.mem iN) J) (RV.tmp J)) .nil|exact BD ((cC r0 r1 r2 r3 r4 r5 r6 r7 pc).set 6 (.int .u64 v),0) (.inr ⟨6,Ba,rfl,rfl⟩) (Fb (RV.D8 tt J J J (In.mem iN) J) (RV.tmp J)) .nil|exact BD ((cC r0 r1 r2 r3 r4 r5 r6 r7 pc).set 7 (.int .u64 v),0) (.inr ⟨7,Ba,rfl,rfl⟩) (Fb (RV.D8 tt J J J (In.mem iN) J) (RV.tmp J)) .nil
def wT:F5:=fun args s=>match args with
 |[a,x,v]=>bif P3 a (.agg (List.replicate 9 Bw))&&P3 x CB&&P3 v Bw then some [.val (.Ec [.agg (List.replicate 9 Bw),EB]) s]else none
 |_=>none
theorem aBe{RS:EA}:ET Tryz.prog RS 302 wT:=by
 intro args s rs hc p hst hp vs hvs;subst hst;unfold wT at hc;split at hc
 ·rename_i a x v;cases hle:P3 a (.agg (List.replicate 9 Bw))&&P3 x CB&&P3 v Bw<;>rw[hle]at hc<;>simp only[AN,AO,reduceCtorEq,AH]at hc;subst hc;simp only[AI]at hle;cases hvs with|cons k0 hvs=>cases hvs with|cons k1 hvs=>cases hvs with|cons k2 hvs=>
  cases hvs;have k3:=IW k0 hle.1.1;have k4:=IW k1 hle.1.2;have k5:=IW k2 hle.2;clear k0 k1 k2;cases k4 with| @int _ _ _ x0 x1 x2=>
  cases k5 with| @int _ _ _ v0 v1 v2=>
  rename_i va;obtain⟨l,rfl,k6⟩:∃l:List Value,va=Value.agg l.toArray/\Bt p.ρ [Bw,Bw,Bw,Bw,Bw,Bw,Bw,Bw,Bw] l:=by cases k3 with| @agg _ l k=>exact⟨l,rfl,k⟩
  clear k3;have k7:=k6;cases k6 with|cons g0 h1=>cases h1 with|cons g1 h1=>cases h1 with|cons g2 h1=>cases h1 with|cons g3 h1=>cases h1 with|cons g4 h1=>cases h1 with|cons g5 h1=>cases h1 with|cons g6 h1=>cases h1 with|cons g7 h1=>cases h1 with|cons g8 h1=>
  cases h1;cases g0;cases g1;cases g2;cases g3;cases g4;cases g5;cases g6;cases g7;cases g8;intro A U w hs;refine(f302 (x:=x0) (v:=v0) A (p.S++U) w (by simpa using hs)).mono ?_;rintro e w' ⟨h0,S',hs1,⟨l',er⟩,hi,rfl,rfl⟩;refine⟨h0,p.S,by simpa using hs1,.inl ⟨_,_,AP.2 J,p,_,rfl,rfl,rfl,.refl p,hp,.Ec (.cons (.agg ?_) (.cons (Fa ?_) .nil)),rfl⟩⟩
  ·rcases hi with⟨rfl,_⟩|⟨j,hj,rfl,_⟩
   ·exact Bt.rep (n:=9) (.int (show(0:Int)<=0 by decide) (show(0:Int)<=18446744073709551615 by decide))
   ·have:=k7.set j (a:=Bw) (EM.int v1 v2);have e:[Bw,Bw,Bw,Bw,Bw,Bw,Bw,Bw,Bw].set j Bw=List.replicate 9 Bw:=by have hj':j=0\/j=1\/j=2\/j=3\/j=4\/j=5\/j=6\/j=7:=I;rcases hj' with rfl|rfl|rfl|rfl|rfl|rfl|rfl|rfl<;>rfl
    rw[e]at this;exact this
  ·have:er=2\/er=0:=by
    rcases hi with⟨_,h⟩|⟨_,_,_,h⟩
    ·exact .inl h
    ·exact .inr h
   show 0<=er/\er<=30;omega
 ·cases hc
variable{f:Nat}{vs:List Value}
theorem wy{DK:List AV}(h:(match B7 (DY []) (E3 (DY []) 100000) f DK (EC [])with|some [.val (.val (.slice none 0 0)) _]=>true|_=>false)=true)(hv:Bt [] DK vs):Fn Tryz.prog f vs [] (E4 (.slice none 0 0) []):=by
 split at h
 ·rename_i s hc;let p0:Pt:=⟨[],EC [],[],[],[],fun _=>[]⟩
  have hp0:p0.good (fun _ _ _ _=>True):=⟨fun s a hs=>by simp[p0,EC,C7.FC]at hs,⟨rfl,Do,fun k hk=>by simp[p0]at hk,EI _,fun k ab hk=>by simp[p0,EC,Gf,C7.FC]at hk⟩,by simp[p0,EC]⟩
  have h:=(FD (RS:=fun _ _ _ _=>True) (DU (l:=[]) trivial) (FG (DU (l:=[]) trivial) 100000) hp0 hc).2 _ hv;intro A U w hs;refine(h A U w hs).mono ?_;rintro e w' ⟨h0,S',hs1,hr⟩;rcases hr with⟨a,s,hm,q,v,_,_,rfl,hto,_,hcon,rfl⟩|⟨a,s,hm,_⟩
  ·simp at hm;obtain⟨rfl,rfl⟩:=hm;cases hcon;exact⟨h0,[],hs1.drops,rfl,rfl⟩
  ·simp at hm
 ·cases h
theorem f169:Fn Tryz.prog 169 [.slice none 0 0] [] (E4 (.slice none 0 0) []):=wy (DK:=[.val (.slice none 0 0)]) kR (.cons .val .nil)
variable{b0:Nat}{dm:Int}{comp:List CH}
theorem pV{M:List Int}{D:List (List Int)}{u:Nat}{es:List OE}(hdm:8<=dm/\dm<=9)(hO:Sj M D u es b0 comp)(hM:M.length=32)(hu:u<1099511627776)(hDl:D.length<1099511627776)(hn:es.length<4294967296):
 Fn Tryz.prog 101 [Au b0,.int .i64 dm,.slice none 0 0] [comp] (wG M D b0 [] (.tuple #[.agg (bs (Ff D u es (qk 3 M dm [] hM)).1).toArray,.int .i64 0]) (Ff D u es (qk 3 M dm [] hM)).2.1 (Ff D u es (qk 3 M dm [] hM)).2.2):=by
 have hO0:=hO;obtain⟨ds,kb,clk,ls,L,IH,lC,Hv,dH,rfl,_,hdr,M5,hds,hkn,hes⟩:=hO0;have ha:(Ff D u es (qk 3 M dm [] hM)).1.length=32:=IC hdr.1 (fun e he=>(hes e he).1);refine Fn.of Tryz.func101 J J [_,_] J ?_;refine CW.FK (T:=[oB b0 M ds u kb ls,[DX Gq kb L clk,lC,Hv,dH.flatten].flatten]) DI ?_
 (refine W ?_;intro b;refine W ?_)
 obtain⟨q2,hq2⟩:∃q2,q2=b:=⟨_,rfl⟩
 subst hq2;refine DL.BS J J J pK (Jr hM) kR aP kO ?_;refine W ?_;refine CW.db (id:=3) [0,1,2,3,4,5,6,7,8] [9,10,11,12,13] [oB b0 M ds u kb ls] [] mixed hz kR pK nD nD ?_;refine W ?_;refine DL.HQ tt (cs:=oL M ds u kb ls) (vs:=bs M) J J J J J BH (aAW hM) (by rw[Aa,hM]) ?_;refine W ?_;refine DL.BS J J J .nil f169 kR .nil kO ?_;refine DL.build hz tt J J J J J J (Uw hM) ?_;refine W ?_;refine Fe (Du pK) ?_;have hdat:G9 [] (.slice none 0 0) []:=.inl ⟨rfl,rfl,rfl⟩;refine DL.call J J J (F:=[oB b0 M ds u kb ls,[DX Gq kb L clk,lC,Hv,dH.flatten].flatten]) pK ((sD hdm hO hM hdat (fun _ h=>by cases h) DI hu hDl hn).Cd (F:=[]) DI (fun e S' h=>⟨S',h,by simp⟩)) kR (fun ch S1 hc=>by obtain⟨_,hc,_⟩:=hc;cases hc) ?_;rintro v S1 ⟨c',hv,rfl,Sr⟩;cases hv;refine⟨kO,?_⟩;simp only[AQ,AS,Dc];refine W ?_;refine DL.Bj tt J J J J uP (by rw[Aa,ha]) (BV _) HS kO ?_;refine W ?_;refine⟨_,[c'],_,Fb (RV.D8 tt J J J (In.mem iN) (by rw[Aa,ha])) (RV.tmp J),pK,c',rfl,rfl,Sr⟩
variable{K:Nat}
theorem Za{ob j:Nat}(hdm:8<=dm/\dm<=9)(hO:G1 ob K [j] b0 comp)(hK:K+j+1<=HM):
 Fn Tryz.prog 101 [Au b0,.int .i64 dm,.slice none 0 0] [comp] (Dv (ι:=rq) (fun i=>i.1.length=32/\BN i.1/\0<=i.2.1/\i.2.1<=30/\G1 ob K [j+1] b0 i.2.2) (fun i=>.tuple #[.agg (bs i.1).toArray,.int .i64 i.2.1]) (fun i=>[i.2.2])):=by
 obtain⟨j',e,hb,M,D,u,es,ZT,h1,h2,h3,h4,h5⟩:=hO;cases e;simp only[HM]at hK;have hO2:=ZT;obtain⟨ds,kb,clk,ls,L,IH,lC,Hv,dH,_,hM,hdr,M5,hds,hkn,hes⟩:=hO2;refine(pV hdm ZT hM I h1 I).mono ?_;rintro e S' ⟨c',rfl,rfl,h⟩;have g1:=Uj (D:=D) (u:=u) (es:=es) (q:=qk 3 M dm [] hM);have g2:=QN (D:=D) (u:=u) (es:=es) (q:=qk 3 M dm [] hM);exact⟨(_,0,c'),⟨IC hdr.1 (fun e he=>(hes e he).1),K5 h4 h5,(show(0:Int)<=0 by decide),(show(0:Int)<=30 by decide),⟨j+1,rfl,hb,M,D,_,_,h,h1,I,I,h4,OL h4 h5⟩⟩,rfl,rfl⟩
section
variable{ob K R:Nat} {RS:EA} (hO:∀d b cs,RS 2 d b cs↔G1 ob K d b cs)
include hO
def pW(R:Nat):F5:=fun args s=>match args with
 |[x,y,.val (.slice none 0 0)]=>(match s.hp.get 2 with
  |some (.res 2 [j])=>bif G0 [x,y] [.Au 2 0,iv 8 9]&&Nat.ble (Nat.add j 1) R then some [.val (.Ec [HW,EB]) (s.set 2 (.res 2 [Nat.add j 1]))]else none
  |_=>none)
 |_=>none
theorem aBm(I7:K+R<=HM):ET Tryz.prog RS 101 (pW R):=by
 intro args s rs hc p hst hp vs hvs;subst hst;unfold pW at hc;split at hc
 ·rename_i x y;split at hc
  ·rename_i j hget;cases hcond:G0 [x,y] [.Au 2 0,iv 8 9]&&Nat.ble (Nat.add j 1) R<;>rw[hcond]at hc<;>simp only[AN,AO,reduceCtorEq,AH]at hc;subst hc;simp only[AI]at hcond;obtain⟨hle,hj⟩:=hcond;have hj:j+1<=R:=AL hj;cases hvs with|cons k1 hvs=>cases hvs with|cons k2 hvs=>cases hvs with|cons k3 hvs=>
   cases hvs;cases k3;have hv:=GR (.cons k1 (.cons k2 .nil)) hle;cases hv with|cons h1 hv=>cases hv with|cons h2 hv=>
   cases hv;cases h2 with| @int _ _ _ z a1 a2=>
   obtain⟨hlive,hcb⟩:=hp.mem hget;generalize hC:p.C 2=ck at hcb;cases hcb with| @res _ b c _ cs0 hρ hr=>
   cases h1 with|Au h1=>
   rw[hρ]at h1;cases h1;have hS:=hp.H.pick hlive;rw[hC]at hS;intro A U w hs;have hs':Ds A w ([ck]++((p.live.erase 2).map p.C++U)):=hs.perm (hS.append_right U);refine(Za (dm:=z) ⟨a1,a2⟩ ((hO _ _ _).1 hr) I A _ w hs').mono ?_;rintro e' w' ⟨h0,S',hs1,⟨dg,er,c'⟩,⟨g1,g2,g3,g4,g5⟩,rfl,rfl⟩;exact⟨h0,c'::(p.live.erase 2).map p.C,by simpa using hs1,.inl ⟨_,_,AP.2 J,p.set 2 (.res 2 [Nat.add j 1]) c',_,rfl,rfl,rfl,.set p 2 _ _,hp.set hlive (.res hρ ((hO _ _ _).2 g5)),.Ec (.cons (.agg (by rw[<-g1];exact IX g2)) (.cons (.int g3 g4) .nil)),rfl⟩⟩
  ·cases hc
 ·cases hc
end
def Ru(R:EA)(ρ:Nm)(B:List AB)(S:A2):Prop:=ρ.length=B.length/\S.length=B.length/\∀(k:Nat) (hk:k<B.length) (hk':k<S.length),Da R ρ k B[k] S[k]
def ko(B2:List AB)(M:List Nat)(IB:RN)(δ:Nat):R1->Bool
 | .val a s=>IB.any (fun x=> !x.1&&gB a x.2)&&Tm δ 0 B2 s.hp&&s.md.all (fun k=>Nat.ble B2.length k||Gu k M)
 | .Eu a s=>IB.any (fun x=>x.1&&gB a x.2)&&Tm δ 0 B2 s.hp&&s.md.all (fun k=>Nat.ble B2.length k||Gu k M)
def LA(c:List AV->St->Option (List R1))(B B2:List AB)(M:List Nat)(args:List AV)(IB:RN)(δ:Nat):Bool:=O9 B2&&TY 0 B2&&B2.all (y8 B2.length)&&IB.all (fun x=>nL B2.length x.2)&&Nat.beq B.length B2.length&&Nat.ble B.length 16777216&&(match c args (EC B)with|some rs=>rs.all (ko B2 M IB δ)|none=>false)
theorem U9{P:Program}{RS:Nat->EA}(hR:GX RS){c:List AV->St->Option (List R1)}(hc:ET P (RS K) f c){B B2:List AB}{M:List Nat}{args:List AV}{IB:RN}{δ:Nat}(h:LA c B B2 M args IB δ=true){ρ:Nm}{S:A2}(hx:Ru (RS K) ρ B S)(hv:Bt ρ args vs):
 Fn P f vs S (fun e S'=>wU ρ IB e/\Ru (RS (K+δ)) ρ B2 S'/\∀(k:Nat) (hk:k<S.length) (hk':k<S'.length),k∉M->S'[k]=S[k]):=by
 unfold LA at h;simp only[AI]at h;obtain⟨⟨⟨⟨⟨⟨hbase,V7⟩,hnB⟩,hnr⟩,hlen⟩,J5⟩,hrun⟩:=h;have J5:B.length<=2^24:=AL J5;have hlen:B.length=B2.length:=AK hlen;rw[AY]at hnB hnr;have vO:∃(h2:2<B2.length) (h3:3<B2.length),B2[2]=.res 2 [0]/\B2[3]=.res 3 [0]:=by
  unfold O9 at hbase;simp only[AI]at hbase;obtain⟨a1,a2⟩:=hbase;split at a1
  ·rename_i e1;split at a2
   ·rename_i e2;rw[D5]at e1 e2;obtain⟨l1,e1⟩:=Ae.1 e1;obtain⟨l2,e2⟩:=Ae.1 e2;exact⟨l1,l2,e1,e2⟩
   ·cases a2
  ·cases a1
 obtain⟨hl2,hl3,hB2,hB3⟩:=vO;have Sl:∀k (hk:k<B2.length),k≠2->k≠3->IY B2[k]=true:=fun k hk n2 n3=>OJ V7 k hk I I
 obtain⟨hρ,hS,hB⟩:=hx;split at hrun
 ·rename_i rs hcall;rw[AY]at hrun;let N:=B.length
  let C0:Nat->List CH:=fun k=>S.getD k []
  have hC0:(List.range N).map C0=S:=by
   refine List.ext_getElem (by simp[N,hS]) fun i h1 h3=> ?_
   simp[C0,BR,AZ h3]
  have pZ:∀k (hk:k<S.length),C0 k=S[k]:=fun k hk=>by simp[C0,BR,AZ hk]
  let p0:Pt:=⟨ρ,EC B,[],S,List.range N,C0⟩
  have hget:∀k,(Gf 0 B .e).get k=if k<N then B[k]? else none:=fun k=>by rw[HL I];simp[C7.FC,N]
  have hp0:p0.good (RS K):=by
   refine⟨fun s a hs=>by simp[p0,EC,C7.FC]at hs,⟨hρ,Bc,fun k hk=>Ak.1 hk,?_,fun k ab hk=> ?_⟩,J5⟩
   ·show S.Perm ((List.range N).map C0);rw[hC0]
   ·have hk':(Gf 0 B .e).get k=some ab:=hk;rw[hget]at hk';by_cases hkN:k<N
    ·rw[BE hkN]at hk';obtain⟨_,e⟩:=Ae.1 hk';subst e;have gZ:k<S.length:=by rw[hS];exact hkN
     refine⟨Ak.2 hkN,?_⟩;have:=hB k hkN gZ;show Da (RS K) ρ k _ (C0 k);rw[pZ k gZ];exact this
    ·rw[Ah hkN]at hk';cases hk'
  have hfn:=hc args (EC B) rs hcall p0 J hp0 vs hv;have key:∀(s:St) (q:Pt),q.st=s->p0.to q->q.good (RS K)->Tm δ 0 B2 s.hp=true->s.md.all (fun k=>Nat.ble B2.length k||Gu k M)=true->SZ B2.length q.ρ ρ/\∃S',Ru (RS (K+δ)) ρ B2 S'/\(∀(k:Nat) (hk:k<S.length) (hk':k<S'.length),k∉M->S'[k]=S[k])/\∀A w (U:A2),Ds A w (q.S++U)->Ds A w (S'++U):=by
   intro s q hq hto hgood hsame hmd;rw[AY]at hmd;have I5:SZ B2.length q.ρ ρ:=fun n hn=>by obtain⟨σ,e⟩:=hto.ext;rw[e];show(ρ++σ)[n]? =_;rw[BG (by rw[hρ,hlen];exact hn)]
   have hin:∀k (hk:k<B2.length),k∈q.live/\Da (RS (K+δ)) ρ k B2[k] (q.C k):=fun k hk=>by
    obtain⟨a,h2,h5⟩:=WR hsame k hk;obtain⟨h3,h4⟩:=hgood.mem (k:=k) (ab:=a) (by rw[hq];simpa using h2);refine⟨h3,Hm I5 hk (hnB _ (B1 hk)) ?_⟩;rcases h5 with h5|h5
    ·by_cases n2:k=2
     ·subst n2;rw[hB2]at h5⊢;obtain⟨x,rfl,hx⟩:=Ig (.inl J) h5;cases h4 with|res f1 f2=>
      exact .res f1 ((hR.shift 2 (.inl J) K δ 0 _ _).1 (hR.mono 2 (.inl J) K x (δ+0) _ _ I f2))
     ·by_cases n3:k=3
      ·subst n3;rw[hB3]at h5⊢;obtain⟨x,rfl,hx⟩:=Ig (.inr J) h5;cases h4 with|res f1 f2=>
       exact .res f1 ((hR.shift 3 (.inr J) K δ 0 _ _).1 (hR.mono 3 (.inr J) K x (δ+0) _ _ I f2))
      ·obtain rfl:=K1 h5 (Sl k hk n2 n3);exact hR.non (Sl k hk n2 n3) h4
    ·generalize B2[k]=b2 at h5⊢;unfold leB at h5;split at h5
     ·rename_i x t y u;simp only[AI]at h5;obtain rfl:=AK h5.2;generalize q.C k=ck at h4⊢;cases h4 with
      |cells g1 g2=>exact .cells g1 (GR g2 h5.1)
     ·cases h5
   refine⟨I5,(List.range N).map q.C,⟨by rw[hρ,hlen],by simp[N,hlen],fun k hk hk'=> ?_⟩,fun k hk hk' hM=> ?_,fun A w U hs=> ?_⟩
   ·simp only[List.getElem_map,List.getElem_range];exact(hin k hk).2
   ·simp only[List.getElem_map,List.getElem_range];have hkN:k<B.length:=by rw[<-hS];exact hk
    have:=(hto.kept k (Ak.2 hkN) (fun hm=>by
     rw[hq]at hm;have:=hmd k hm;simp only[BI]at this;rcases this with h|h
     ·have:=AL h;omega
     ·exact hM (FZ.1 h))).2
    rw[this];exact pZ k hk
   ·let rest:=q.live.filter (fun k=> !decide (k<N))
    have hperm:q.live.Perm (List.range N++rest):=by
     have e1:q.live.Perm (q.live.filter (fun k=>decide (k<N))++rest):=(CO _ _).symm;refine e1.trans (Bm _ ?_);refine(B8 (hgood.H.nd.filter _) Bc).2 fun k=> ?_
     simp only[Bh,Ak,decide_eq_true_eq];exact⟨fun hk=>hk.2,fun hk=>⟨(hin k (by rw[<-hlen];exact hk)).1,hk⟩⟩
    have vT:q.S.Perm (rest.map q.C++(List.range N).map q.C):=by refine hgood.H.perm.trans ?_;have:=hperm.map q.C;rw[Ai]at this;exact this.trans CC
    have h5:=hs.perm (vT.append_right U);rw[AU]at h5;exact h5.drops
  intro A U w hs;refine(hfn A U w hs).mono ?_;rintro e w' ⟨hw,S',hs1,hret⟩;refine⟨hw,?_⟩;rcases hret with⟨a1,s,hm,q,v,e1,_,rfl,hto,hgood,hcon,rfl⟩|⟨a1,s,hm,q,v,e1,_,rfl,hto,hgood,hcon,rfl⟩
  ·have hr:=hrun _ hm;simp only[ko,AI]at hr;obtain⟨I5,S2,hy,hz,wz⟩:=key s q e1 hto hgood hr.1.2 hr.2;obtain⟨⟨hr,_⟩,_⟩:=hr;rw[Dq]at hr;obtain⟨z,hz1,hzl⟩:=hr;simp only[AI,Bo]at hzl;exact⟨S2,wz _ _ _ hs1,⟨v,z,hz1,JU I5 (hnr _ hz1) (Kz hcon hzl.2),.inl ⟨hzl.1,rfl⟩⟩,hy,hz⟩
  ·have hr:=hrun _ hm;simp only[ko,AI]at hr;obtain⟨I5,S2,hy,hz,wz⟩:=key s q e1 hto hgood hr.1.2 hr.2;obtain⟨⟨hr,_⟩,_⟩:=hr;rw[Dq]at hr;obtain⟨z,hz1,hzl⟩:=hr;simp only[AI]at hzl;exact⟨S2,wz _ _ _ hs1,⟨v,z,hz1,JU I5 (hnr _ hz1) (Kz hcon hzl.2),.inr ⟨hzl.1,rfl⟩⟩,hy,hz⟩
 ·cases hrun
def zE:AV->AV->Bool
 | .int k l h,.int k' l' h'=>I9 k k'&&FN l l'&&FN h h'
 | .Au n o,.Au m q=>Nat.beq n m&&Nat.beq o q
 | .mp n,.mp m=>Nat.beq n m
 | .G3 n l,.G3 m k=>Nat.beq n m&&Nat.beq l k
 | .sl n o l c,.sl m q k d=>Nat.beq n m&&Nat.beq o q&&Nat.beq l k&&Nat.beq c d
 | .junk,.junk=>true
 | .boo none,.boo none=>true
 | .boo (some b),.boo (some c)=>bif b then c else !c
 | .val (.slice none 0 0),.val (.slice none 0 0)=>true
 |_,_=>false
theorem YN{a b:AV}(h:zE a b=true):a=b:=by
 unfold zE at h;split at h
 ·simp only[AI,EO]at h;obtain⟨⟨h1,rfl⟩,rfl⟩:=h;rw[Fz h1]
 ·simp only[AI]at h;rw[AK h.1,AK h.2]
 ·rw[AK h]
 ·simp only[AI]at h;rw[AK h.1,AK h.2]
 ·simp only[AI]at h;have h4:=AK h.2;rw[AK h.1.1.1,AK h.1.1.2,AK h.1.2,h4]
 ·rfl
 ·rfl
 ·rename_i b c;cases b<;>cases c<;>simp at h<;>rfl
 ·rfl
 ·cases h
def Wi:List AV->List AV->Bool
 |[],[]=>true
 |a::l,b::m=>zE a b&&Wi l m
 |_,_=>false
theorem QY:∀{l m:List AV},Wi l m=true->l=m
 |[],[],_=>rfl
 |[],_::_,h=>by simp[Wi]at h
 |_::_,[],h=>by simp[Wi]at h
 |a::l,b::m,h=>by simp only[Wi,AI]at h;rw[YN h.1,QY h.2]
def eqE:AV->AV->Bool
 | .agg l,.agg m=>Wi l m
 |a,b=>zE a b
theorem YO{a b:AV}(h:eqE a b=true):a=b:=by
 unfold eqE at h;split at h
 ·rw[QY h]
 ·exact YN h
def YQ:List AV->List AV->Bool
 |[],[]=>true
 |a::l,b::m=>eqE a b&&YQ l m
 |_,_=>false
theorem Zl:∀{l m:List AV},YQ l m=true->l=m
 |[],[],_=>rfl
 |[],_::_,h=>by simp[YQ]at h
 |_::_,[],h=>by simp[YQ]at h
 |a::l,b::m,h=>by simp only[YQ,AI]at h;rw[YO h.1,Zl h.2]
def zF:List (Int×AV)->List (Int×AV)->Bool
 |[],[]=>true
 |a::l,b::m=>FN a.1 b.1&&eqE a.2 b.2&&zF l m
 |_,_=>false
theorem lU:∀{l m:List (Int×AV)},zF l m=true->l=m
 |[],[],_=>rfl
 |[],_::_,h=>by simp[zF]at h
 |_::_,[],h=>by simp[zF]at h
 |(x,a)::l,(y,b)::m,h=>by simp only[zF,AI,EO]at h;obtain⟨⟨rfl,h2⟩,h3⟩:=h;rw[YO h2,lU h3]
def eqF:AB->AB->Bool
 | .res i d,.res j e=>Nat.beq i j&&RJ d e
 | .cells l t,.cells m u=>Nat.beq t u&&Wi l m
 | .grown l t z,.grown m u y=>Nat.beq t u&&Nat.beq z y&&Wi l m
 | .map l,.map m=>zF l m
 |_,_=>false
theorem xe{a b:AB}(h:eqF a b=true):a=b:=by
 unfold eqF at h;split at h
 ·simp only[AI]at h;rw[AK h.1,OD h.2]
 ·simp only[AI]at h;rw[AK h.1,QY h.2]
 ·simp only[AI]at h;rw[AK h.1.1,AK h.1.2,QY h.2]
 ·rw[lU h]
 ·cases h
def dG(t:C7 AB):List (Nat×AB)->Bool
 |[]=>true
 |x::r=>(match t.get x.1 with|some b=>eqF b x.2|none=>false)&&dG t r
theorem VF{t:C7 AB}:∀{l:List (Nat×AB)},dG t l=true->∀x∈l,t.get x.1=some x.2
 |[],_,x,hx=>by cases hx
 |y::l,h,x,hx=>by
  simp only[dG,AI]at h;rcases Ab.1 hx with rfl|hx
  ·have h1:=h.1;split at h1
   ·rename_i b hb;rw[hb,xe h1]
   ·cases h1
  ·exact VF h.2 x hx
def dI(t:C7 AB):List (Nat×AB)->C7 AB
 |[]=>t
 |x::r=>(dI t r).put 24 x.1 none
def dJ(t:C7 AB):List (Nat×AB)->C7 AB
 |[]=>t
 |x::r=>(dJ t r).put 24 x.1 (some x.2)
theorem Wj{t:C7 AB}:∀{l:List (Nat×AB)},(∀x∈l,x.1<2^24)->∀k,(dI t l).get k=if k∈l.map (·.1)then none else t.get k
 |[],_,k=>by simp[dI]
 |x::r,h,k=>by
  rw[dI,C7.get_put 24 _ x.1 k _ (h x DI),Wj (fun y hy=>h y (Aw _ hy)) k];by_cases e:k=x.1
  ·simp[e]
  ·rw[Ah e];simp only[Ap,Ab,e,false_or]
theorem Wl{t:C7 AB}:∀{l:List (Nat×AB)},(∀x∈l,x.1<2^24)->∀{k:Nat} {ab:AB},(dJ t l).get k=some ab->(k,ab)∈l\/(k∉l.map (·.1)/\t.get k=some ab)
 |[],_,k,ab,h=>by simp only[dJ]at h;exact .inr ⟨by simp,h⟩
 |x::r,hl,k,ab,h=>by
  rw[dJ,C7.get_put 24 _ x.1 k _ (hl x DI)]at h;by_cases e:k=x.1
  ·subst e;simp at h;subst h;exact .inl DI
  ·rw[Ah e]at h;rcases Wl (fun y hy=>hl y (Aw _ hy)) h with h|⟨h1,h2⟩
   ·exact .inl (Aw _ h)
   ·exact .inr ⟨by simp[e,h1],h2⟩
def ndN:List Nat->Bool
 |[]=>true
 |a::r=> !Gu a r&&ndN r
theorem YR:∀{l:List Nat},ndN l=true->l.Nodup
 |[],_=>Do
 |a::r,h=>by simp only[ndN,AI,Bo]at h;refine Bv.2 ⟨fun hm=> ?_,YR h.2⟩;rw[FZ.2 hm]at h;simp at h
structure YP where
 f:Nat
 vs:List AV
 L:List (Nat×AB)
 nx:Nat
 ret:AV
 L2:List (Nat×AB)
 lV:Nat
def yC(y:YP):List AV->St->Option (List R1):=fun args s=>bif YQ args y.vs&&Nat.beq s.nx y.nx&&dG s.hp y.L then some [.val y.ret {s with hp:=dJ (dI s.hp y.L) y.L2,nx:=y.lV,md:=y.L.map (·.1)++s.md}]else none
def xg(y:YP):R1->Bool
 | .val a s=>eqE a y.ret&&Nat.beq s.nx y.lV&&dG s.hp y.L2
 | .Eu _ _=>false
def dK(E:GI)(ih:Ih)(y:YP):Bool:=ndN (y.L.map (·.1))&&ndN (y.L2.map (·.1))&&Nat.ble y.lV 16777216&&Nat.ble y.nx y.lV&&y.L.all (fun x=>Nat.blt x.1 y.nx)&&y.L2.all (fun x=>Nat.blt x.1 y.lV&&(Nat.ble y.nx x.1||Gu x.1 (y.L.map (·.1))))
 &&(match B7 E ih y.f y.vs ⟨.e,dt y.L,y.nx,[]⟩with|some rs=>rs.all (xg y)|none=>false)
section
variable{P:Program} {RS:EA} {E:GI}
theorem R2(hE:En P RS E){ih:Ih}(hih:GK P RS ih){y:YP}(h:dK E ih y=true):ET P RS y.f (yC y):=by
 intro args s rs hc p hst hp vs hvs;subst hst;unfold yC at hc;cases hcond:YQ args y.vs&&Nat.beq p.st.nx y.nx&&dG p.st.hp y.L<;>rw[hcond]at hc<;>simp only[AN,AO,reduceCtorEq,AH]at hc;subst hc;simp only[AI]at hcond;obtain⟨⟨hargs,hnx⟩,hhas⟩:=hcond;have hargs:=Zl hargs;have hnx:=AK hnx;have hhas:=VF hhas;unfold dK at h;simp only[AI,AY,BI]at h;obtain⟨⟨⟨⟨⟨⟨h1,h2⟩,h3⟩,h4⟩,h5⟩,h6⟩,h7⟩:=h;have h1:=YR h1;have h2:=YR h2;have h3:y.lV<=2^24:=AL h3;have h4:=AL h4;have h5:∀x∈y.L,x.1<y.nx:=fun x hx=>by simpa using h5 x hx
 have h6:∀x∈y.L2,x.1<y.lV/\(y.nx<=x.1\/x.1∈y.L.map (·.1)):=fun x hx=>by obtain⟨a1,a2⟩:=h6 x hx;exact⟨by simpa using a1,a2.imp AL FZ.1⟩
 have lW:∀k∈y.L.map (·.1),k∈p.live:=fun k hk=>by obtain⟨x,hx,rfl⟩:=A8.1 hk;exact(hp.mem (hhas x hx)).1
 let p0:Pt:=⟨p.ρ,⟨.e,dt y.L,y.nx,[]⟩,[],(y.L.map (·.1)).map p.C,y.L.map (·.1),p.C⟩
 have hp0:p0.good RS:=by
  refine⟨fun s a hs=>by simp[p0,C7.FC]at hs,⟨hp.H.len.trans hnx,h1,fun k hk=> ?_,.refl _,fun k ab hk=> ?_⟩,by show y.nx<=_;omega⟩
  ·obtain⟨x,hx,rfl⟩:=A8.1 hk;exact h5 x hx
  ·have hm:=QR (fun x hx=>by have:=h5 x hx;omega) hk;exact⟨A8.2 ⟨_,hm,rfl⟩,(hp.mem (hhas _ hm)).2⟩
 split at h7
 ·rename_i rs0 hcall;rw[AY]at h7;have hfn:=(FD hE hih hp0 hcall).2 vs (by rw[<-hargs];exact hvs);let rest:=p.live.filter (fun k=> !decide (k∈y.L.map (·.1)))
  have hrest:∀k,k∈rest↔k∈p.live/\k∉y.L.map (·.1):=fun k=>by simp[rest]
  have hperm:p.live.Perm (y.L.map (·.1)++rest):=by
   have e1:p.live.Perm (p.live.filter (fun k=>decide (k∈y.L.map (·.1)))++rest):=(CO _ _).symm;refine e1.trans (Bm _ ?_);refine(B8 (hp.H.nd.filter _) h1).2 fun k=> ?_
   simp only[Bh,decide_eq_true_eq];exact⟨fun hk=>hk.2,fun hk=>⟨lW k hk,hk⟩⟩
  have hS:p.S.Perm ((y.L.map (·.1)).map p.C++rest.map p.C):=by
   refine hp.H.perm.trans ?_;have:=hperm.map p.C
   rwa [Ai]at this
  intro A U w hs;have hs':Ds A w (p0.S++(rest.map p.C++U)):=by
   have:=hs.perm (hS.append_right U)
   rwa [AU]at this
  refine(hfn A _ w hs').mono ?_;rintro e w' ⟨hw,S',hs1,hret⟩;refine⟨hw,?_⟩;rcases hret with⟨a,s0,hm,q0,v,e1,e2,e3,hto,hgood,hcon,rfl⟩|⟨a,s0,hm,q0,v,e1,e2,e3,hto,hgood,hcon,rfl⟩
  ·have hr:=h7 _ hm;simp only[xg,AI]at hr;obtain⟨⟨r1,r2⟩,r3⟩:=hr;have r1:=YO r1;have r2:=AK r2;have r3:=VF r3;subst e1;subst e3;have hL2:∀k∈y.L2.map (·.1),k∈q0.live:=fun k hk=>by obtain⟨x,hx,rfl⟩:=A8.1 hk;exact(hgood.mem (r3 x hx)).1
   have hdis:∀k∈rest,k∉y.L2.map (·.1):=fun k hk hk2=>by
    obtain⟨g1,g2⟩:=(hrest k).1 hk;obtain⟨x,hx,rfl⟩:=A8.1 hk2;rcases(h6 x hx).2 with g|g
    ·have:=hp.H.lt _ g1;omega
    ·exact g2 g
   let C':Nat->List CH:=fun k=>if k∈y.L2.map (·.1)then q0.C k else p.C k
   have hT:(y.L2.map (·.1)++rest).map C'=(y.L2.map (·.1)).map q0.C++rest.map p.C:=by
    rw[Ai];congr 1
    ·exact BB fun k hk=>BE hk
    ·exact BB fun k hk=>Ah (hdis k hk)
   obtain⟨σ,hσ⟩:=hto.ext;have hσ:q0.ρ=p.ρ++σ:=hσ;obtain⟨gar,aDy⟩:=JG h2 hgood.H.nd hL2;refine⟨(y.L2.map (·.1)++rest).map C',?_,.inl ⟨y.ret,_,AP.2 J,⟨q0.ρ,{p.st with hp:=dJ (dI p.st.hp y.L) y.L2,nx:=y.lV,md:=y.L.map (·.1)++p.st.md},p.fr,(y.L2.map (·.1)++rest).map C',y.L2.map (·.1)++rest,C'⟩,v,rfl,rfl,rfl,?_,?_,by rw[<-r1];exact hcon,rfl⟩⟩
   ·rw[hT];have h8:Ds A w' (gar.map q0.C++(((y.L2.map (·.1)).map q0.C++rest.map p.C)++U)):=hs1.perm (by have:=hgood.H.perm.trans (aDy.map q0.C);rw[Ai]at this;refine(this.append_right _).trans ?_;refine(Bm _ CC).trans ?_;simp only[AU];exact .refl _)
    exact h8.drops
   ·refine⟨⟨σ,hσ⟩,fun k hk hn=> ?_,fun k hk hlt=> ?_,by show p.st.nx<=y.lV;omega,fun k hk=>BK _ hk⟩
    ·have hn1:k∉y.L.map (·.1):=fun hm=>hn (A3 _ hm)
     have hr:=(hrest k).2 ⟨hk,hn1⟩;exact⟨BK _ hr,Ah (hdis k hr)⟩
    ·rcases Aj.1 hk with hk|hk
     ·obtain⟨x,hx,rfl⟩:=A8.1 hk;rcases(h6 x hx).2 with g|g
      ·omega
      ·exact lW _ g
     ·exact((hrest k).1 hk).1
   ·have J5:∀x∈y.L2,x.1<2^24:=fun x hx=>by have:=(h6 x hx).1;omega
    refine⟨by rw[hσ];exact hp.F.mono σ,⟨by show q0.ρ.length=y.lV;rw[hgood.H.len,r2],?_,fun k hk=> ?_,.refl _,fun k ab hk=> ?_⟩,h3⟩
    ·rw[Bg];exact⟨h2,hp.H.nd.filter _,fun a ha b hb e=>hdis b hb (e▸ha)⟩
    ·show k<y.lV;rcases Aj.1 hk with hk|hk
     ·obtain⟨x,hx,rfl⟩:=A8.1 hk;exact(h6 x hx).1
     ·have:=hp.H.lt k ((hrest k).1 hk).1;omega
    ·rcases Wl J5 hk with hk|⟨g1,g2⟩
     ·have hm:k∈y.L2.map (·.1):=A8.2 ⟨_,hk,rfl⟩;refine⟨A3 _ hm,?_⟩;show Da RS q0.ρ k ab (C' k);rw[show C' k=q0.C k from BE hm];exact(hgood.mem (r3 _ hk)).2
     ·rw[Wj (fun x hx=>by have:=h5 x hx;omega)]at g2;by_cases Xj:k∈y.L.map (·.1)
      ·rw[BE Xj]at g2;cases g2
      ·rw[Ah Xj]at g2;obtain⟨g3,g4⟩:=hp.mem g2;refine⟨BK _ ((hrest k).2 ⟨g3,Xj⟩),?_⟩;show Da RS q0.ρ k ab (C' k);rw[show C' k=p.C k from Ah g1,hσ];exact g4.mono σ
  ·have hr:=h7 _ hm;simp[xg]at hr
 ·cases h7
end
end
end Go.Proofs.YtfekkjbdcdnhlaaGreatDoor.Sep
