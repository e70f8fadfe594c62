/- Lemmas for TopScrubs. No condition but those that each states. -/
import Derived.Laws.IdiomCopy
import Derived.Laws.IdiomStrings
import Derived.Test.YtfekkjbdcdnhlaaGreatDoorMbg
import Derived.Test.YtfekkjbdcdnhlaaGreatDoorMbf
set_option linter.all false
set_option maxHeartbeats 8000000
set_option maxRecDepth 100000
namespace Go.Proofs.YtfekkjbdcdnhlaaGreatDoor.Sep
noncomputable section
def x16:F5:=fun args s=>match args with
 |[a]=>match Tv a with
  |some n=>bif Nat.ble 1 n&&Nat.ble n 4096&&s.room then some [.val (.Ec [.Au s.nx 0,Cb 0]) (s.new (.res 0 [n,0]))]else none
  |none=>none
 |_=>none
def x17:F5:=fun args s=>match args with
 |[a]=>match Tv a with
  |some n=>bif Nat.ble 1 n&&Nat.ble n 4096&&s.room then some [.val (.Ec [.Au s.nx 0,Cb 0]) (s.new (.res 1 (List.replicate n 0)))]else none
  |none=>none
 |_=>none
def x18:F5:=fun args s=>match args with
 |[.boo (some true),.agg l,.val (.slice none 0 0)]=>match S3 l with
  |some 0=>bif Nat.beq l.length 32&&s.room then some [.val (.Au s.nx 0) (s.new (.res 2 []))]else none
  |_=>none
 |_=>none
def x42:F5:=fun args s=>match args with
 |[.Au k 0]=>match sq (s.hp.get k)with
  |some _=>bif s.room then some [.val (.Au s.nx 0) (s.new (.res 9 []))]else none
  |none=>none
 |_=>none
def x101:F5:=fun args s=>match args with
 |[.Au k 0,dm,.sl n 0 1 1]=>match sq (s.hp.get k)with
  |some d=>match Tv dm with
   |some 8=>match s.hp.get n with
    |some (.cells [.G3 w 8] 53)=>match s.hp.get w with
     |some (.grown l 5 1)=>match S3 l with
      |some y=>bif Nat.beq l.length 8 then(match Oc (qN 3 0 8 8 y) d with
       |some (a,d')=>some [.val (.Ec [.agg (MD a 32 0),Cb 0]) (s.set k (.res 2 d'))]
       |none=>none)else none
      |none=>none
     |_=>none
    |_=>none
   |_=>none
  |none=>none
 |_=>none
variable{RS:EA}{d:List Nat}{vs:List Value}
theorem VG{p:Pt}(hp:p.good RS)(hroom:p.st.room=true){f i:Nat}{a:AV}
 (H:Fn Tryz.prog f vs [] (fun e S'=>∃(b:Nat) (v:Value) (c:List CH),e=.returned v/\S'.flatten.Perm c/\RS i d b c/\∀ρ:Nm,ρ[p.st.nx]? =some (b,0)->EM ρ a v)):Fn Tryz.prog f vs p.S (Ij RS p [.val a (p.st.new (.res i d))]):=by
 refine H.Cd (F:=p.S) DI ?_;rintro e S' ⟨b,v,c,rfl,hperm,hr,hcon⟩;refine⟨c::p.S,.inl ⟨_,_,AP.2 J,p.new (b,0) (.res i d) c,_,rfl,rfl,rfl,.new hp _ _ _,hp.new hroom _ (.res (Pt.EZ hp _) hr),hcon _ (Pt.EZ hp _),rfl⟩,?_⟩;rw[AW,A6];exact hperm.symm.append_right _
theorem aDG(n:Nat):(List.replicate n 0).map Pv=List.replicate n ((0:Int),(0:Int),(0:Int)):=by rw[List.map_replicate];rfl
section
variable{RS:EA} (hM:∀d b cs,RS 0 d b cs↔LQ d b cs) (hT:∀d b cs,RS 1 d b cs↔Zm d b cs) (hO:∀d b cs,RS 2 d b cs↔Im d b cs) (h9:∀d b cs,RS 9 d b cs)
include hM in
theorem aDH:ET Tryz.prog RS 16 x16:=by
 intro args s rs hc p hst hp vs hvs;subst hst;unfold x16 at hc;split at hc
 ·rename_i a;split at hc
  ·rename_i n hn;cases hb:Nat.ble 1 n&&Nat.ble n 4096&&p.st.room<;>rw[hb]at hc<;>simp only[AN,AO,reduceCtorEq,AH]at hc;subst hc;simp only[AI]at hb;obtain⟨⟨h1,h2⟩,hroom⟩:=hb;have h1:=AL h1;have h2:=AL h2;cases hvs with|cons a1 hvs=>
   cases hvs;obtain rfl:=Gw hn a1;refine VG hp hroom ((sj ⟨h1,h2⟩).mono ?_);rintro e S' ⟨⟨mb,ab⟩,-,rfl,rfl⟩;exact⟨mb,_,Dy mb ab n++EY ab (BQ (128*n)),rfl,by simp,(hM _ _ _).2 ⟨n,0,ab,BQ (128*n),rfl,h1,h2,rfl,Bn _,(fun x hx=>by simp only[BQ,D6]at hx;omega),Jb _⟩,fun ρ hρ=>.Ec (.cons (.Au hρ) (.cons (Ea _ 0) .nil))⟩
  ·cases hc
 ·cases hc
include hT in
theorem aDI:ET Tryz.prog RS 17 x17:=by
 intro args s rs hc p hst hp vs hvs;subst hst;unfold x17 at hc;split at hc
 ·rename_i a;split at hc
  ·rename_i n hn;cases hb:Nat.ble 1 n&&Nat.ble n 4096&&p.st.room<;>rw[hb]at hc<;>simp only[AN,AO,reduceCtorEq,AH]at hc;subst hc;simp only[AI]at hb;obtain⟨⟨h1,h2⟩,hroom⟩:=hb;have h1:=AL h1;have h2:=AL h2;cases hvs with|cons a1 hvs=>
   cases hvs;obtain rfl:=Gw hn a1;refine VG hp hroom ((sn ⟨h1,h2⟩).mono ?_);rintro e S' ⟨⟨tb,rb⟩,-,rfl,rfl⟩;exact⟨tb,_,Ei tb rb n++Em rb (List.replicate n (0,0,0)),rfl,by simp,(hT _ _ _).2 ⟨rb,by rw[EK];exact h1,by rw[EK];exact h2,by rw[EK,aDG]⟩,fun ρ hρ=>.Ec (.cons (.Au hρ) (.cons (Ea _ 0) .nil))⟩
  ·cases hc
 ·cases hc
include hO in
theorem aDJ:ET Tryz.prog RS 18 x18:=by
 intro args s rs hc p hst hp vs hvs;subst hst;unfold x18 at hc;split at hc
 ·rename_i l;split at hc
  ·rename_i hnum;cases hb:Nat.beq l.length 32&&p.st.room<;>rw[hb]at hc<;>simp only[AN,AO,reduceCtorEq,AH]at hc;subst hc;rw[AI]at hb;have hl:=AK hb.1;cases hvs with|cons a1 hvs=>cases hvs with|cons a2 hvs=>cases hvs with|cons a3 hvs=>
   cases hvs;cases a1;cases a3;cases a2 with|agg a2=>
   obtain⟨X,rfl,hX,sr,Hw⟩:=Ja hnum a2;have hz:X=BQ 32:=VD hX (fun x hx=>by simp only[BQ,D6]at hx;omega) (by rw[Hw,hl,Bn]) (by rw[sr,Jb]);subst hz;refine VG hp hb.2 ?_;refine(sC (M:=BQ 32) (D:=[]) (ds:=.slice none 0 0) (Hv:=[]) (Bn _) ⟨by simp,.inl ⟨rfl,rfl,rfl⟩⟩ DI).Cd (F:=[]) DI ?_;rintro e S' ⟨⟨b,kb,ds,Hv⟩,hdr,rfl,rfl⟩;refine⟨[oB b (BQ 32) ds 0 kb (.slice none 0 0),DX Gq kb [] 0,Hv,[]],⟨b,_,[oB b (BQ 32) ds 0 kb (.slice none 0 0),DX Gq kb [] 0,[],Hv,([]:A2).flatten].flatten,rfl,?_,(hO _ _ _).2 ⟨[],⟨ds,kb,0,.slice none 0 0,[],[],[],Hv,[],rfl,Bn _,hdr,.inl ⟨rfl,rfl,rfl,rfl⟩,.nil,(fun q=>rfl),(fun e (he:e∈([]:List OE))=>by cases he)⟩,rfl,(fun i (hi:i<([]:List OE).length)=>by simp at hi),(fun e (he:e∈([]:List OE))=>by cases he),by simp⟩,fun ρ hρ=>.Au hρ⟩,?_⟩
   ·simp
   ·simp
  ·cases hc
 ·cases hc
variable{b:Nat}{comp:List CH}
theorem qI(h:Im d b comp):G1 b 0 [60000] b comp:=by obtain⟨es,hO,_,h1,h2,h3⟩:=h;refine⟨60000,rfl,rfl,BQ 32,[],es.length,es,hO,by simp,I,I,fun x hx=>by simp at hx,fun e he=> ?_⟩;obtain⟨i,hi,rfl⟩:=List.getElem_of_mem he;rw[h1 i hi];exact Jc (VE i)
include hO h9 in
theorem aDK:ET Tryz.prog RS 42 x42:=by
 intro args s rs hc p hst hp vs hvs;subst hst;unfold x42 at hc;split at hc
 ·rename_i k;split at hc
  ·rename_i d hd;cases hroom:p.st.room<;>rw[hroom]at hc<;>simp only[AN,AO,reduceCtorEq,AH]at hc;subst hc;have hget:=MX hd;cases hvs with|cons h1 hvs=>
   cases hvs;obtain⟨hlive,hcb⟩:=hp.mem hget;generalize hC:p.C k=ck at hcb;cases hcb with| @res _ b c _ cs0 hρ hr=>
   cases h1 with|Au h1=>
   rw[hρ]at h1;cases h1;have hr:=qI ((hO _ _ _).1 hr);have hS:=(hp.H.pick hlive).flatten;rw[hC]at hS;refine(Ut Ba hr).Cd (F:=(p.live.erase k).map p.C) (by simpa using hS) ?_;rintro e S' ⟨nb,cc,rfl,rfl⟩;refine⟨cc::p.S,.inl ⟨_,_,AP.2 J,p.new (nb,0) (.res 9 []) cc,_,rfl,rfl,rfl,.new hp _ _ _,hp.new hroom _ (.res (Pt.EZ hp _) (h9 _ _ _)),.Au (Pt.EZ hp _),rfl⟩,?_⟩;have:=hS.append_left cc;rw[AW];refine this.trans ?_;refine C2 fun _ x=> ?_
   simp only[AW,A0,Am,AQ,AS,Ax];omega
  ·cases hc
 ·cases hc
include hO in
theorem aBL:ET Tryz.prog RS 101 x101:=by
 intro args s rs hc p hst hp vs hvs;subst hst;unfold x101 at hc;split at hc
 ·rename_i k dma n;split at hc
  ·rename_i d hd;split at hc
   ·rename_i hdm;split at hc
    ·rename_i w hn;split at hc
     ·rename_i l hw;split at hc
      ·rename_i y hnum;cases hb:Nat.beq l.length 8<;>rw[hb]at hc<;>simp only[AN,AO,reduceCtorEq]at hc;have hl:=AK hb;split at hc
       ·rename_i a d' hask;cases hc;have hget:=MX hd;cases hvs with|cons a1 hvs=>cases hvs with|cons a2 hvs=>cases hvs with|cons a3 hvs=>
        cases hvs;obtain rfl:=Gw hdm a2;have hnk:n≠k:=fun e=>by subst e;rw[hget]at hn;cases hn
        have hwk:w≠k:=fun e=>by subst e;rw[hget]at hw;cases hw
        have hwn:w≠n:=fun e=>by subst e;rw[hw]at hn;cases hn
        obtain⟨hlk,hck⟩:=hp.mem hget;obtain⟨hln,hcn⟩:=hp.mem hn;obtain⟨hlw,hcw⟩:=hp.mem hw;generalize hCk:p.C k=ck at hck;generalize hCn:p.C n=cn at hcn;generalize hCw:p.C w=cw at hcw;cases hck with| @res _ b c _ cs0 hρ hr=>
        cases hcn with| @cells _ _ bp c2 vs2 IJ hl2=>
        cases hcw with| @grown _ _ _ wb c3 vs3 ex3 Np hl3 hx3=>
        cases a1 with|Au a1=>
        rw[hρ]at a1;cases a1;cases a3 with|sl a3=>
        rw[IJ]at a3;cases a3;cases hl2 with|cons b1 hl2=>
        cases hl2;cases b1 with|G3 b1 b2=>
        rw[Np]at b1;cases b1;obtain⟨X,rfl,hX,rfl,Hw⟩:=Ja hnum hl3;rw[hl]at Hw;obtain⟨es,ZT,rfl,g2,g3,g4⟩:=(hO _ _ _).1 hr;have hz:(BQ 32).length=32:=Bn _;have hiq:=gU (k:=3) (dm:=8) (key:=BQ 32) hz (Jc hX);have hzA:FB (BQ 32):=fun x hx=>by simp only[BQ,D6]at hx;omega
        have hq:NI (qk 3 (BQ 32) 8 X hz):=⟨(show(0:Int)<=3 by decide),(show(3:Int)<8 by decide),(show(0:Int)<=8 by decide),(show(8:Int)<256 by decide),hzA,by simp[Vh,Hw]⟩
        have hN:NB (qk 3 (BQ 32) 8 X hz)=qN 3 0 8 8 (nB X):=by unfold NB;rw[hiq];simp[Vh,Hw,Jb]
        rw[<-hN]at hask;obtain⟨k1,k2,k3,k4,k5,k6,i,rfl,k7⟩:=sw g3 hq g2 g4 hask;have hdr:P9 i-P9 0=i:=by show i+452312848583266388373324160190187140051835877600158453279131187530910662656-(0+452312848583266388373324160190187140051835877600158453279131187530910662656)=i;omega
        rw[hdr]at k6;have hS:p.S.Perm (p.C k::p.C n::p.C w::(((p.live.erase k).erase n).erase w).map p.C):=by
         refine(Pt.two hp hlk hln hnk).trans (List.Perm.cons _ (List.Perm.cons _ ?_));have:=((CL ((Be hwn).2 ((Be hwk).2 hlw))).map p.C)
         simpa using this
        rw[hCk,hCn,hCw]at hS;have hS2:∀c':List CH,(c'::(p.live.erase k).map p.C).Perm (c'::p.C n::p.C w::(((p.live.erase k).erase n).erase w).map p.C):=fun c'=>by
         refine List.Perm.cons _ ?_;have h1:=((CL ((Be hnk).2 hln)).map p.C)
         have h2:=((CL ((Be hwn).2 ((Be hwk).2 hlw))).map p.C)
         rw[Ap]at h1 h2;exact h1.trans (List.Perm.cons _ h2)
        rw[hCn,hCw]at hS2;refine(iz (M:=BQ 32) (D:=[]) (u:=es.length) (es:=es) (bp:=bp) (wb:=wb) (ED:=c3) (IU:=ex3) (X:=X) ZT hz Hw (Jc hX) ⟨b2,by have:=hx3;simp[Aa,Hw]at this;omega⟩ I DI I).Cd (F:=(((p.live.erase k).erase n).erase w).map p.C) (by have:=hS.flatten;simpa using this) ?_;rintro e S' ⟨c',rfl,rfl,h⟩;rw[k1]at h;rw[k6];refine⟨_,.inl ⟨_,_,AP.2 J,p.set k (.res 2 d') c',_,rfl,rfl,rfl,.set p k _ _,hp.set hlk (.res hρ ((hO _ _ _).2 ⟨_,h,k2,k3,k4,k5⟩)),.Ec (.cons (.agg (su I)) (.cons (Ea _ 0) .nil)),rfl⟩,?_⟩;show(c'::(p.live.erase k).map p.C).flatten.Perm _;refine(hS2 c').flatten.trans (List.Perm.of_eq ?_);simp only[AW,AQ,AS]
       ·cases hc
      ·cases hc
     ·cases hc
    ·cases hc
   ·cases hc
  ·cases hc
 ·cases hc
end
def an8:R1->Option R1
 | .val (.agg out) s=>bif G0 out [Bw,Bw,Bw,Bw]then some (.val (.agg (Cb 0::(out++[BZ 0,.boo (some false),BZ 0]))) s)else none
 |_=>none
def y27(E:GI)(ih:Ih):F5:=fun args s=>match args with
 |[.Au m 0,.agg [op,b0,b1,b2,b3,b4,b5]]=>match s.hp.get m with
  |some (.cells [a0,a1,a2,a3,a4,.mp r,a6,a7,_,_] 89)=>match Tv op with
   |some k=>bif Nat.ble 1 k&&Nat.ble k 21&&G0 [b0,b1,b2,b3,b4,b5] [Bw,Bw,Bw,Bw,Bw,Bw]&&[b0,b1,b2,b3,b4,b5].all (Y7 0)then(match B7 E ih 47 [.agg [op,b0,b1,b2,b3,b4,b5]] (EC [])with
    |some [.val (.boo (some true)) _]=>match B7 E ih (Nat.add 69 k) [.Au m 0,.agg [b0,b1,b2,b3,b4,b5]] (s.set m (.cells [a0,a1,a2,a3,a4,.mp r,a6,a7,BZ 0,.val (.slice none 0 0)] 89))with
     |some rs=>lJ an8 rs
     |none=>none
    |_=>none)else none
   |none=>none
  |_=>none
 |_=>none
theorem VH{α β:Type}{f:α->Option β}:∀{l:List α} {m:List β},lJ f l=some m->∀x∈l,∃y∈m,f x=some y
 |[],_,_,x,hx=>by cases hx
 |a::r,m,h,x,hx=>by
  simp only[lJ]at h;split at h
  ·rename_i y hy;split at h
   ·rename_i l hl;cases h;rcases Ab.1 hx with rfl|hx
    ·exact⟨y,BH,hy⟩
    ·obtain⟨z,h1,h2⟩:=VH hl x hx;exact⟨z,Aw _ h1,h2⟩
   ·cases h
  ·cases h
variable{ρ:Nm}{l:List AV}
theorem qK(hv:Bt ρ l vs)(h:G0 l [Bw,Bw,Bw,Bw,Bw,Bw]=true):∃a0 a1 a2 a3 a4 a5:Int,vs=[.int .u64 a0,.int .u64 a1,.int .u64 a2,.int .u64 a3,.int .u64 a4,.int .u64 a5]:=by
 have h1:=GR hv h;cases h1 with|cons c0 h1=>cases h1 with|cons c1 h1=>cases h1 with|cons c2 h1=>cases h1 with|cons c3 h1=>cases h1 with|cons c4 h1=>cases h1 with|cons c5 h1=>
 cases h1;cases c0;cases c1;cases c2;cases c3;cases c4;cases c5;exact⟨_,_,_,_,_,_,rfl⟩
theorem lh(hv:Bt ρ l vs)(h:G0 l [Bw,Bw,Bw,Bw]=true):∃a0 a1 a2 a3:Int,vs=[.int .u64 a0,.int .u64 a1,.int .u64 a2,.int .u64 a3]:=by
 have h1:=GR hv h;cases h1 with|cons c0 h1=>cases h1 with|cons c1 h1=>cases h1 with|cons c2 h1=>cases h1 with|cons c3 h1=>
 cases h1;cases c0;cases c1;cases c2;cases c3;exact⟨_,_,_,_,rfl⟩
theorem aDL{E:GI}(hE:En Tryz.prog RS E){ih:Ih}(hih:GK Tryz.prog RS ih):ET Tryz.prog RS 27 (y27 E ih):=by
 intro args s rs' hc p hst hp vs hvs;subst hst;unfold y27 at hc;split at hc
 ·rename_i m op b0 b1 b2 b3 b4 b5;split at hc
  ·rename_i a0 a1 a2 a3 a4 r a6 a7 a8 a9 hget;split at hc
   ·rename_i k hk;cases hb:Nat.ble 1 k&&Nat.ble k 21&&G0 [b0,b1,b2,b3,b4,b5] [Bw,Bw,Bw,Bw,Bw,Bw]&&[b0,b1,b2,b3,b4,b5].all (Y7 0)<;>rw[hb]at hc<;>simp only[AN,AO,reduceCtorEq]at hc;simp only[AI]at hb;obtain⟨⟨⟨hk1,hk2⟩,hle⟩,hnm⟩:=hb;have hk1:=AL hk1;have hk2:=AL hk2;split at hc
    ·rename_i s47 hc47;split at hc
     ·rename_i rs hcf;cases hvs with|cons h1 hvs=>cases hvs with|cons h2 hvs=>
      cases hvs;cases h2 with|agg h2=>
      cases h2 with|cons h3 h2=>
      obtain rfl:=Gw hk h3;obtain⟨z0,z1,z2,z3,z4,z5,rfl⟩:=qK h2 hle;obtain⟨hlive,hcb⟩:=hp.mem hget;generalize hC:p.C m=cm at hcb;cases hcb with| @cells _ _ mb c vs hρ hl=>
      cases h1 with|Au h1=>
      rw[hρ]at h1;cases h1;cases hl with|cons g0 hl=>cases hl with|cons g1 hl=>cases hl with|cons g2 hl=>cases hl with|cons g3 hl=>cases hl with|cons g4 hl=>cases hl with|cons g5 hl=>cases hl with|cons g6 hl=>cases hl with|cons g7 hl=>cases hl with|cons g8 hl=>cases hl with|cons g9 hl=>
      cases hl;have g5':=g5;cases g5 with|mp g5=>
      have hcell:Bt p.ρ [a0,a1,a2,a3,a4,.mp r,a6,a7,BZ 0,.val (.slice none 0 0)] _:=.cons g0 (.cons g1 (.cons g2 (.cons g3 (.cons g4 (.cons g5' (.cons g6 (.cons g7 (.cons (Ea .u64 0) (.cons .val .nil)))))))));have hp2:=hp.set hlive (ab:=.cells [a0,a1,a2,a3,a4,.mp r,a6,a7,BZ 0,.val (.slice none 0 0)] 89) (.cells hρ hcell);obtain⟨hok,hfn⟩:=FD hE hih hp2 hcf;have hS:=(hp.H.pick hlive).flatten;rw[hC]at hS;have hnil:Bt [] [.agg [op,b0,b1,b2,b3,b4,b5]] [.agg [Value.int .i64 (k:Int),.int .u64 z0,.int .u64 z1,.int .u64 z2,.int .u64 z3,.int .u64 z4,.int .u64 z5].toArray]:=by
       refine .cons (.agg (.cons ?_ (Ky (N:=0) (fun n hn=>I) hnm h2))) .nil;have:op=Cb k:=by
        unfold Tv at hk;split at hk
        ·rename_i lo hi;unfold VU at hk;split at hk
         ·rename_i heq;cases heq;rename_i a b;cases hab:Nat.beq a b<;>rw[hab]at hk<;>simp only[AN,AO,reduceCtorEq,AH]at hk;obtain rfl:=AK hab;subst hk;rfl
         ·cases hk
        ·cases hk
       rw[this];exact Ea _ _
      have H47:Fn Tryz.prog 47 [.agg [Value.int .i64 (k:Int),.int .u64 z0,.int .u64 z1,.int .u64 z2,.int .u64 z3,.int .u64 z4,.int .u64 z5].toArray] [] (Dv (ι:=Bool) (fun b=>b=true) (fun b=>.bool b) (fun _=>[])):=by
       let p0:Pt:=⟨[],EC [],[],[],[],fun _=>[]⟩
       have hp0:p0.good RS:=⟨fun s a hs=>by simp[p0,EC,C7.FC]at hs,⟨rfl,Do,fun k hk=>by simp[p0]at hk,EI _,fun k ab hk=>by simp[p0,EC,Gf,C7.FC]at hk⟩,by simp[p0,EC]⟩
       have h:=(FD hE hih hp0 hc47).2 _ hnil;intro A U w hs;refine(h A U w hs).mono ?_;rintro e w' ⟨h0,S',hs1,hr⟩;rcases hr with⟨a,s,hm,q,v,_,_,rfl,_,_,hcon,rfl⟩|⟨a,s,hm,_⟩
       ·simp at hm;obtain⟨rfl,rfl⟩:=hm;cases hcon;exact⟨h0,[],hs1.drops,true,rfl,rfl,rfl⟩
       ·simp at hm
      refine(aAP (okB:=fun b=>b=true) (R:=Ij RS p rs') (RC:=Ij RS (p.set m (.cells [a0,a1,a2,a3,a4,.mp r,a6,a7,BZ 0,.val (.slice none 0 0)] 89) _) rs) H47 H48 (fun _=>⟨k,hk1,hk2,rfl,hok,hfn _ (.cons (.Au hρ) (.cons (.agg h2) .nil))⟩) (fun h=>by cases h) ?_).Cd (F:=[]) (by simpa using hS) (fun e S' h=>⟨S',h,by simp⟩);rintro e S' (⟨a,s,hm,q,v,e1,e2,rfl,hto,hgood,hcon,rfl⟩|⟨a,s,hm,_⟩)
      ·obtain⟨y,hy,hy2⟩:=VH hc _ hm;simp only[an8]at hy2;split at hy2
       ·rename_i out s2 heq;cases heq;cases aBN:G0 out [Bw,Bw,Bw,Bw]<;>rw[aBN]at hy2<;>simp only[AN,AO,reduceCtorEq,AH]at hy2;subst hy2;cases hcon with|agg hcon=>
        obtain⟨y0,y1,y2,y3,rfl⟩:=lh hcon aBN;exact .inl ⟨y0,y1,y2,y3,rfl,.inl ⟨_,_,hy,q,_,e1,e2,rfl,Pt.to.trans (.set p m _ _) hto,hgood,.agg (.cons (Ea _ 0) (hcon.app (.cons (Ea _ 0) (.cons .boo (.cons (Ea _ 0) .nil))))),rfl⟩⟩
       ·cases hy2
      ·obtain⟨y,hy,hy2⟩:=VH hc _ hm;simp[an8]at hy2
     ·cases hc
    ·cases hc
   ·cases hc
  ·cases hc
 ·cases hc
variable{w:World}{b t:Nat}{fz:Nat×Nat}
theorem MF{cs:List Value}(h:w.heap[b]? =some (.cells cs.toArray t fz))(i:Nat):w.cell? ⟨b,i,none⟩=cs[i]? :=by simp[World.cell?,h]
variable{P:Program}{T:Tr}{S:A2}
theorem DO.aDM(hT:Dp P T=true){tx e sz b off m c t:Nat}{cs news:List Value}(ht:T.get tx=some ⟨.sl e 1,sz⟩)(hm:(b,Obj.cells cs.toArray t fz)∈S.flatten)(hv:(cs.drop off).take m=news)(hl:news.length=m)(h1:∀u∈news,u.oneCell'=true):
 DO P 1 S tx (.slice (some ⟨b,off,none⟩) m c) m news:=fun A U w hs=>by
 have hb:w.heap[b]? =some (.cells cs.toArray t fz):=hs.has (b,.cells cs.toArray t fz) (by rw[A6];exact A3 _ hm);have hc:=MF hb;refine Src.ofSlice w (Et hT ht J).1 _ m c news (by simpa using hl) (fun j u hj=> ?_) h1;rw[DD,hc];rw[<-hv,Bf]at hj;split at hj
 ·rw[CG]at hj;exact hj
 ·cases hj
variable{n:Nat}
theorem CW.aDN{c:Code}{Q:EX}{fr:Fr}(h:CW P n c Q fr ([]::S)):CW P n c Q fr S:=fun A R a w hd hk hs=>h A R a w hd hk (hs.FK DI)
def YT(F:List CH)(v:Value)(X:List Int):Prop:=∃(b off cap:Nat) (cs:List Value) (t:Nat) (fz:Nat×Nat),v=.slice (some ⟨b,off,none⟩) X.length cap/\0<X.length/\X.length<=1000/\(b,Obj.cells cs.toArray t fz)∈F/\(cs.drop off).take X.length=bs X
variable{m:Nat}
theorem xk{vals:List Value}{Xs:List (List Int)}{F:List CH}(hn:vals.length=m)(hX:Xs.length=m)(hm:m<=100)(hp:∀(r:Nat) (h1:r<vals.length) (h2:r<Xs.length),YT F vals[r] Xs[r]):
 Fn Tryz.prog 63 [.slice (some ⟨n,0,none⟩) m m] [A7 n vals 53,F] (Dv (ι:=Value×List CH) (fun i=>IK Xs.flatten i.1 i.2) (fun i=>i.1) (fun i=>[i.2,A7 n vals 53,F])):=by
 have hlen:∀r,r<=m->((Xs.take r).flatten).length<=1000*r:=by
  intro r;induction r with
  |zero=>intro _;simp
  |succ r ih=>intro hr;have h1:=ih I;obtain⟨_,_,_,_,_,_,_,_,h4,_⟩:=hp r I I;rw[List.take_succ_eq_append_getElem I,A6,Aq];simp only[AW,A0,Am];omega
 refine Fn.of Tryz.func63 J J [_] J ?_;refine W ?_;refine CW.aDN ?_;refine CW.loop (ι:=Nat×Value×List CH) (fun i=>m-i.1) (fun i=>i.1<=m/\IK (Xs.take i.1).flatten i.2.1 i.2.2) (fun i=>[(0,.slice (some ⟨n,0,none⟩) m m),(3,i.2.1),(4,.int .i64 i.1)]) (fun i=>[i.2.2,A7 n vals 53,F]) (0,.slice none 0 0,[]) ⟨Cj _,.inl ⟨by simp,rfl,rfl⟩⟩ sF pK ?_;rintro⟨r,v,c⟩ ⟨h1,h2⟩;dsimp only at h1 h2⊢;obtain⟨p,cap,rfl⟩:=h2.form;refine W ?_;by_cases h:r<m
 ·refine CW.Gp J I ?_;refine W ?_;have hr1:r<vals.length:=I;have hr2:r<Xs.length:=I;obtain⟨b,off,cap2,cs,t,fz,hv,hl0,hl1,hmem,hcs⟩:=hp r hr1 hr2;have hl2:=hlen r I;have hnv:E1 vals (0+r*1)=some (.slice (some ⟨b,off,none⟩) Xs[r].length cap2):=by rw[D5,BM,Dk,AZ hr1,hv]
  refine DL.C3 tt r J J J J J J h ?_;refine DL.ld1 tt J J J J J iN hnv ?_;refine Js tt (v:=.slice p (Xs.take r).flatten.length cap) (X:=(Xs.take r).flatten) (c:=c) (Y:=Xs[r]) J J J W5 J h2 Es (DO.aDM (cs:=cs) (t:=t) (fz:=fz) (news:=bs Xs[r]) tt J (by simp[hmem]) hcs (Aa _) (BV _)) hl0 J I I (fun _=>kO) ?_;intro v3 c3 hc3;refine W ?_;refine⟨(r+1,v3,c3),_,by dsimp only;omega,⟨by dsimp only;omega,?_⟩,sF,pK⟩;dsimp only;rw[List.take_succ_eq_append_getElem hr2,A6];simpa using hc3
 ·obtain rfl:r=m:=I;rw[AX I]at h2⊢;refine CW.GM J I ?_;refine W ?_;exact BD (_,c) h2 (DC (RV.tmp J)) pK
theorem setCells_at(b t:Nat)(fz:Nat×Nat):∀(vs:List Value) (o:Nat) (cs:List Value) (w:World),w.heap[b]? =some (.cells cs.toArray t fz)->o+vs.length<=cs.length->
 (w.setCells b o vs).os=w.os/\(w.setCells b o vs).tape=w.tape/\(w.setCells b o vs).output=w.output/\(w.setCells b o vs).heap.size=w.heap.size/\(w.setCells b o vs).heap[b]? =some (.cells (cs.take o++vs++cs.drop (o+vs.length)).toArray t fz)/\∀k,k≠b->(w.setCells b o vs).heap[k]? =w.heap[k]?
 |[],o,cs,w,h,hl=>⟨rfl,rfl,rfl,rfl,by simpa[World.setCells]using h,fun _ _=>rfl⟩
 |v::r,o,cs,w,h,hl=>by
  have hlen:o<cs.length:=by simp at hl;omega
  have e1:(w.setCell ⟨b,o,none⟩ v).heap[b]? =some (.cells (cs.set o v).toArray t fz):=by simp[World.setCell,Array.getElem?_modify,h]
  obtain⟨i1,i2,i3,i4,i5,i6⟩:=setCells_at b t fz r (o+1) (cs.set o v) (w.setCell ⟨b,o,none⟩ v) e1 (by simp at hl⊢;omega);refine⟨i1,i2,i3,?_,?_,fun k hk=> ?_⟩
  ·rw[World.setCells,i4];simp[World.setCell]
  ·rw[World.setCells,i5];congr 2
   have e2:(cs.set o v).take (o+1)=cs.take o++[v]:=by rw[List.set_eq_take_append_cons_drop,BE hlen,C4,BP,Nat.min_eq_left I,AX (by simp;omega)];simp
   rw[e2,List.drop_set_of_lt I,AU,AU,AU,Bz,show o+1+r.length=o+(r.length+1) by omega];rfl
  ·rw[World.setCells,i6 k hk];simp[World.setCell,Array.getElem?_modify,Ne.symm hk]
section
variable{P:Program} {n:Nat} {fr:Fr} {S:A2}
def NC(s:ByteArray):List Int:=s.data.toList.map fun b=>(b.toNat:Int)
variable{o:Oper}{sz:Nat}{x:Operand}
theorem Px(hT:Dp P T=true){s e sz' t7:Nat}{str:ByteArray}(ho:o.op=.convert s t x)(hs:T.get s=some ⟨.str,sz⟩)(ht:T.get t=some ⟨.sl e 1,sz'⟩)(he:T.get e=some ⟨.int .u8,t7⟩)(hx:Eg fr x=some (.string str)):
 Eff P n o fr S (fun v S'=>∃(b cap:Nat) (ex:List Value),v=.slice (some ⟨b,0,none⟩) str.size cap/\str.size<=cap/\ex.length=cap-str.size/\S'=[(b,Obj.cells (bs (NC str)++ex).toArray e (cap,cap+1))]::S) (fun _ _=>False):=by
 intro A V a w hk hs';have hu:=(Et hT ht J).1;have hue:=HF hT he J;have hus:=Hh hT hs J;have hr:=run_bytes_of_string (P:=P) w s t e str hus hu hue;have hval:(execOp a.eval o).run P w=.ok (.value (.slice (some ⟨w.heap.size,0,none⟩) str.size (grownCap w str.size 0 e))) (w.drew.alloc (.cells (bytesRow str (grownCap w str.size 0 e)) e ((bytesRow str (grownCap w str.size 0 e)).size,(bytesRow str (grownCap w str.size 0 e)).size+1))):=by simp only[execOp,ho,hk.eval hx,Ag,hr,Ad,BA]
 rw[Fq,hval];have hcap:str.size<=grownCap w str.size 0 e:=by unfold grownCap;simp only[Question.cut];omega
 have hsz:(bytesRow str (grownCap w str.size 0 e)).size=grownCap w str.size 0 e:=by simp only[bytesRow,Array.size_append,Array.size_map,Array.size_replicate];have:str.data.size=str.size:=rfl;omega
 have hrow:bytesRow str (grownCap w str.size 0 e)=(bs (NC str)++List.replicate (grownCap w str.size 0 e-str.size) (Value.int .u8 0)).toArray:=by apply Array.ext';simp[bytesRow,NC,bs]
 rw[hsz,hrow];have hs2:Ds A w.drew (S++V):=hs'.drawn _;refine⟨[(w.heap.size,Obj.cells (bs (NC str)++List.replicate (grownCap w str.size 0 e-str.size) (Value.int .u8 0)).toArray e (grownCap w str.size 0 e,grownCap w str.size 0 e+1))]::S,?_,w.heap.size,grownCap w str.size 0 e,List.replicate (grownCap w str.size 0 e-str.size) (Value.int .u8 0),rfl,hcap,by simp,rfl⟩;exact hs2.new _
variable{X:List Int}{U:A2}
theorem VI(hT:Dp P T=true){av:Array Operand}{tx GN k cap:Nat}{ti:TI}{ex:List Value}{ts:Array TypeId}{kn:IntKind}(ho:o.op=.call ⟨.builtin .append,av,ts⟩)(hts:ts= #[t,tx])
 (ht:T.get t=some ⟨.sl 5 1,sz⟩) (htx:T.get tx=some ti) (hti:ti.kd=.int kn) (hE:Ew P 5 1 GN=true) (hz:(P.info? 5).bind (·.zero)=some (.int .u8 0)) (ha:FP fr av.toList=some [.slice (some ⟨b,0,none⟩) m cap,.int .i64 (k:Int)])
 (hp:Gg [(b,Obj.cells (bs X++ex).toArray 5 (cap,cap+1))] S U) (hX:X.length=m) (hle:m<=cap) (hex:ex.length=cap-m) (hk0:0<k) (hbd:m+k<=1000) (hby:GN=1):
 Eff P n o fr S (fun v S'=>∃(b' cap':Nat) (cs:List Value) (fz:Nat×Nat) (c:List CH),v=.slice (some ⟨b',0,none⟩) (m+k) cap'/\m+k<=cap'/\(b',Obj.cells cs.toArray 5 fz)∈c/\cs.take (m+k)=bs (X++BQ k)/\S'=c::U) (fun _ _=>False):=by
 subst hby;intro A V a w hk hs;obtain⟨ie,z',hi,h1,h2,hz',h3⟩:=Gy hE;have hzz:z'=.int .u8 0:=by rw[hi]at hz;simp only[Option.bind_some]at hz;rw[hz']at hz;exact Option.some.inj hz
 subst hzz;obtain⟨hu,_⟩:=Et hT ht J;have hux:=HF hT htx hti;have hargs:av.map a.eval= #[.slice (some ⟨b,0,none⟩) m cap,.int .i64 (k:Int)]:=Bl.1 (by simpa using EV hk ha);have hrun:(execOp a.eval o).run P w=((Builtin.append_ #[t,tx] o.type #[.slice (some ⟨b,0,none⟩) m cap,.int .i64 (k:Int)]).run P w).andThen fun v w'=>.ok (.value v) w':=by simp only[execOp,ho,resolve,invoke,builtin,Ag,BA,Ad,hargs,hts]
 have hs1:=hs.perm (hp.perm.append_right V);have hblk:w.heap[b]? =some (.cells (bs X++ex).toArray 5 (cap,cap+1)):=hs1.has (b,_) DI;have hcells:∀j u,(bs X)[j]? =some u->w.drew.cell? ⟨b,0+j,none⟩=some u:=fun j u hj=>by have hb2:w.drew.heap[b]? =some (.cells (bs X++ex).toArray 5 (cap,cap+1)):=hblk;rw[MF hb2,BM,BG (Ae.1 hj).1,hj]
 have hzc:∀q:Nat,(Builtin.zeroCells (Value.int .u8 0).cells q).toList=List.replicate q (Value.int .u8 0):=fun q=>by simp only[Builtin.zeroCells];simp[Nat.mod_one,Value.cells];rw[List.map_const',List.length_range]
 have hzs:bs (BQ k)=List.replicate k (Value.int .u8 0):=by simp[bs,BQ]
 by_cases hroom:m+k<=cap
 ·have hk:k≠0:=I;have hw:IntKind.i64.wrap (k:Int)=k:=by rw[IntKind.wrap_i64];omega
  have hneg:¬((k:Int)<0):=I;have h48i:¬(281474976710656<(k:Int)*(ie.bytes:Int)):=by rw[h2];omega
  have hns:¬(k*ie.size=0):=Nat.mul_ne_zero hk (by rw[h1];decide);have hlen:(bs X++ex).length=cap:=by rw[Aq,Aa];omega
  have hst:=run_storeCells_cells (P:=P) b m (Builtin.zeroCells (Value.int .u8 0).cells k).toList 0 w (fun q hq=>by
   rw[hzc,EK]at hq;rw[MF hblk,AZ I];rfl) (fun q hq=>by
   rw[hzc,EK]at hq;simp only[World.frozen?,hblk];simp;omega) (fun v hv=>by rw[hzc]at hv;rw[List.eq_of_mem_replicate hv];rfl)
  have hval:(Builtin.append_ #[t,tx] o.type #[.slice (some ⟨b,0,none⟩) m cap,.int .i64 (k:Int)]).run P w=.ok (.slice (some ⟨b,0,none⟩) (m+k) cap) (w.setCells b m (Builtin.zeroCells (Value.int .u8 0).cells k).toList):=by
   have hadd:(⟨b,0,none⟩:Addr).add (m*ie.size)=⟨b,m,none⟩:=by rw[h1];simp[Addr.add];exact fun h=>h.symm
   simp only[CV]at hst;simp[Builtin.append_,Ac hu,Ac hux,sizeOf,typeInfo,zeroValue,hi,hz',asInt,asIntOf,hw,hneg,hns,h48i,hroom,hadd,hst]
  rw[Fq,hrun,hval,hzc];obtain⟨i1,i2,i3,i4,i5,i6⟩:=setCells_at b 5 (cap,cap+1) (List.replicate k (Value.int .u8 0)) m (bs X++ex) w hblk (by rw[EK,hlen];exact hroom);refine⟨[(b,Obj.cells ((bs X++ex).take m++List.replicate k (Value.int .u8 0)++(bs X++ex).drop (m+(List.replicate k (Value.int .u8 0)).length)).toArray 5 (cap,cap+1))]::U,?_,b,cap,_,_,_,rfl,hroom,AP.2 J,?_,rfl⟩
  ·exact Ds.put (o:=.cells (bs X++ex).toArray 5 (cap,cap+1)) hs1 i1 i2 i3 I i5 (fun q _ hq=>i6 q hq)
  ·have hT1:(bs X++ex).take m=bs X:=by rw[Ar (by rw[Aa];omega),AX (by rw[Aa];omega)]
   rw[hT1,<-H8,hzs,Ar (by simp[Aa,hX]),AX (by simp[Aa,hX])]
 ·have hold:(Builtin.firstCells ie.size m (.slice (some ⟨b,0,none⟩) m cap)).run P w.drew=.ok (bs X).toArray w.drew:=by refine run_firstCells_some w.drew ie.size m _ m cap (bs X) (by rw[Aa,h1];omega) (fun j u hj=> ?_);have:=hcells j u hj;rw[DD];exact this
  have hval:=Lib.run_append_grow_zeros w t tx o.type 5 ie (.int .u8 0) .i64 kn hu hux hi hz' (some ⟨b,0,none⟩) m cap (bs X) hold k hk0 (by rw[h1];decide) I I (by rw[h2];omega) (growslice_fits I (by rw[h2];omega));rw[Fq,hrun,hval];have hcap:m+k<=grownCap w (m+k) cap 5:=by unfold grownCap;simp only[Question.cut];omega
  have hs2:Ds A w.drew (U++V):=hs1.drop.drawn _;have UG:(bs X).toArray++Builtin.zeroCells (Value.int .u8 0).cells k++Builtin.zeroCells (Value.int .u8 0).cells (grownCap w (m+k) cap 5-(m+k))=(bs X++List.replicate k (Value.int .u8 0)++List.replicate (grownCap w (m+k) cap 5-(m+k)) (Value.int .u8 0)).toArray:=by apply Array.ext';rw[Array.toList_append,Array.toList_append,hzc,hzc]
  rw[UG];refine⟨[(w.heap.size,Obj.cells (bs X++List.replicate k (Value.int .u8 0)++List.replicate (grownCap w (m+k) cap 5-(m+k)) (Value.int .u8 0)).toArray 5 (0,0))]::U,?_,w.heap.size,grownCap w (m+k) cap 5,_,_,_,rfl,hcap,AP.2 J,?_,rfl⟩
  ·exact hs2.new _
  ·rw[<-H8,hzs,Ar (by simp[Aa,hX]),AX (by simp[Aa,hX])]
end
theorem f39{a:ByteArray}(hm:a.size=m)(h1:1<=m)(h7:m<=7):Fn Tryz.prog 39 [.string a] [] (fun e S'=>∃(b cap:Nat) (cs:List Value) (fz:Nat×Nat) (c:List CH),e=.returned (.slice (some ⟨b,0,none⟩) 8 cap)/\8<=cap/\(b,Obj.cells cs.toArray 5 fz)∈c/\cs.take 8=bs (NC a++BQ (8-m))/\S'=[c]):=by
 have hl:(NC a).length=m:=by rw[<-hm];simp[NC]
 refine Fn.of Tryz.func39 J J [_] J ?_;refine W ?_;refine .eff _ _ (.inr J) J (fun e he=>by cases he;decide) (Px tt J J J J J) (fun _ _ h=>h.elim) (fun _ _ _=>D9) ?_;rintro v S' ⟨b,cap,ex,rfl,g1,g2,rfl⟩;rw[hm]at g1 g2⊢;simp only[Dc];refine W ?_;rw[hm,show(8:Int)-(m:Int)=((8-m:Nat):Int) by omega];refine .eff _ _ (.inr J) J (fun e he=>by cases he;decide) (VI (GN:=1) (kn:=.i64) (k:=8-m) tt J J J J J W5 (hz 5 _ J) J .here hl g1 g2 I I J) (fun _ _ h=>h.elim) (fun _ _ _=>D9) ?_;rintro v S' ⟨b',cap',cs,fz,c,rfl,k1,k2,k3,rfl⟩;rw[show m+(8-m)=8 by omega]at k1 k3⊢;simp only[Dc];refine W ?_;exact⟨_,[c],_,DC (RV.tmp J),pK,b',cap',cs,fz,c,rfl,k1,k2,k3,rfl⟩
def aBR:List (Nat×Nat)->Nat
 |[]=>0
 |(g,v)::r=>Nat.add (Nat.shiftLeft v (Nat.mul 1024 g)) (aBR r)
def ovr(g v:Nat):List (Nat×Nat)->Nat
 |[]=>v
 |(h,u)::r=>bif Nat.beq g h then u else ovr g v r
def tC(o:List (Nat×Nat)):List (Nat×Nat)->Nat
 |[]=>0
 |(g,v)::r=>Nat.add (Nat.shiftLeft (ovr g v o) (Nat.mul 1024 g)) (tC o r)
def lu(l:List (Nat×Nat)):List (Nat×Nat)->Nat
 |[]=>0
 |(g,v)::r=>bif Nat.beq (ovr g 0 l) 0 then Nat.add (Nat.shiftLeft v (Nat.mul 1024 g)) (lu l r)else lu l r
def VJ(o l:List (Nat×Nat)):Nat:=Nat.add (tC o l) (lu l o)
def lw(op:Nat)(l:List AV):AV:=.agg ([Cb 1,Cb op]++l++[BZ 0,BZ 0,.val (.slice none 0 0)])
def hx:List (Nat×Nat)->Nat
 |[]=>0
 |(v,s)::r=>Nat.add (Nat.shiftLeft v (Nat.mul 4 s)) (hx r)
def rp{α:Type}(n:Nat)(x:α):List α:=List.replicate n x
def qS:List (Nat×Nat):=[(90,(hx [(50,82),(469969757554,0)])),(91,0x10000001000000000000400030000000003030404000000000000030b),(92,21),(93,(hx [(0x10000000000000000000000000000000000000000000000000000000000000000000000000000000000000000000000000000000000000000000000000000008,33),(6514034,0)])),(100,(hx [(0x1000000000000000000000000000000000000000000000000000000000000fe01,190),(255,128)])),(101,(hx [(0x1000000000000000000000000000000000000000000000000000000000000fa01,190),(64257,126),(64513,62),(253,0)])),(102,(hx [(0x1000000000000000000000000000000000000000000000000000000000000f601,190),(63233,126),(63489,62),(249,0)])),(103,(hx [(0x1000000000000000000000000000000000000000000000000000000000000f201,190),(62209,126),(62465,62),(245,0)])),(104,(hx [(0x1000000000000000000000000000000000000000000000000000000000000ee01,190),(61185,126),(61441,62),(241,0)])),(105,(hx [(0x1000000000000000000000000000000000000000000000000000000000000ea01,190),(60161,126),(60417,62),(237,0)])),(106,(hx [(0x1000000000000000000000000000000000000000000000000000000000000e601,190),(59137,126),(59393,62),(233,0)])),(107,(hx [(0x1000000000000000000000000000000000000000000000000000000000000e201,190),(58113,126),(58369,62),(229,0)])),(108,(hx [(0x1000000000000000000000000000000000000000000000000000000000000de01,190),(57089,126),(57345,62),(225,0)])),(109,(hx [(0x1000000000000000000000000000000000000000000000000000000000000da01,190),(56065,126),(56321,62),(221,0)])),(110,(hx [(0x1000000000000000000000000000000000000000000000000000000000000d601,190),(55041,126),(55297,62),(217,0)])),(111,(hx [(0x1000000000000000000000000000000000000000000000000000000000000d201,190),(54017,126),(54273,62),(213,0)])),(112,(hx [(0x1000000000000000000000000000000000000000000000000000000000000ce01,190),(52993,126),(53249,62),(209,0)])),(113,(hx [(0x1000000000000000000000000000000000000000000000000000000000000ca01,190),(51969,126),(52225,62),(205,0)])),(114,(hx [(0x1000000000000000000000000000000000000000000000000000000000000c601,190),(50945,126),(51201,62),(201,0)])),(115,(hx [(0x1000000000000000000000000000000000000000000000000000000000000c201,190),(49921,126),(50177,62),(197,0)])),(116,(hx [(0x1000000000000000000000000000000000000000000000000000000000000be01,190),(48897,126),(49153,62),(193,0)])),(117,(hx [(0x1000000000000000000000000000000000000000000000000000000000000ba01,190),(47873,126),(48129,62),(189,0)])),(118,(hx [(0x1000000000000000000000000000000000000000000000000000000000000b601,190),(46849,126),(47105,62),(185,0)])),(119,(hx [(0x1000000000000000000000000000000000000000000000000000000000000b201,190),(45825,126),(46081,62),(181,0)])),(120,(hx [(0x1000000000000000000000000000000000000000000000000000000000000ae01,190),(44801,126),(45057,62),(177,0)])),(121,(hx [(0x1000000000000000000000000000000000000000000000000000000000000aa01,190),(43777,126),(44033,62),(173,0)])),(122,(hx [(0x1000000000000000000000000000000000000000000000000000000000000a601,190),(42753,126),(43009,62),(169,0)])),(123,(hx [(0x1000000000000000000000000000000000000000000000000000000000000a201,190),(41729,126),(41985,62),(165,0)])),(124,(hx [(0x10000000000000000000000000000000000000000000000000000000000009e01,190),(40705,126),(40961,62),(161,0)])),(125,(hx [(0x10000000000000000000000000000000000000000000000000000000000009a01,190),(39681,126),(39937,62),(157,0)])),(126,(hx [(0x10000000000000000000000000000000000000000000000000000000000009601,190),(38657,126),(38913,62),(153,0)])),(127,(hx [(0x10000000000000000000000000000000000000000000000000000000000009201,190),(37633,126),(37889,62),(149,0)])),(128,(hx [(0x10000000000000000000000000000000000000000000000000000000000008e01,190),(36609,126),(36865,62),(145,0)])),(129,(hx [(0x10000000000000000000000000000000000000000000000000000000000008a01,190),(35585,126),(35841,62),(141,0)])),(130,(hx [(0x10000000000000000000000000000000000000000000000000000000000008601,190),(34561,126),(34817,62),(137,0)])),(131,(hx [(0x10000000000000000000000000000000000000000000000000000000000008201,190),(33537,126),(33793,62),(133,0)])),(132,(hx [(0x10000000000000000000000000000000000000000000000000000000000000501,190),(1025,126),(769,62),(2,0)])),(133,(hx [(0x10000000000000000000000000000000000000000000000000000000000000901,190),(2049,126),(1793,62),(6,0)])),(134,(hx [(0x10000000000000000000000000000000000000000000000000000000000000d01,190),(3073,126),(2817,62),(10,0)])),(135,(hx [(0x10000000000000000000000000000000000000000000000000000000000001101,190),(4097,126),(3841,62),(14,0)])),(136,(hx [(0x10000000000000000000000000000000000000000000000000000000000001501,190),(5121,126),(4865,62),(18,0)])),(137,(hx [(0x10000000000000000000000000000000000000000000000000000000000001901,190),(6145,126),(5889,62),(22,0)])),(138,(hx [(0x10000000000000000000000000000000000000000000000000000000000001d01,190),(7169,126),(6913,62),(26,0)])),(139,(hx [(0x10000000000000000000000000000000000000000000000000000000000002101,190),(8193,126),(7937,62),(30,0)])),(140,(hx [(0x10000000000000000000000000000000000000000000000000000000000002501,190),(9217,126),(8961,62),(34,0)])),(141,(hx [(0x10000000000000000000000000000000000000000000000000000000000002901,190),(10241,126),(9985,62),(38,0)])),(142,(hx [(0x10000000000000000000000000000000000000000000000000000000000002d01,190),(11265,126),(11009,62),(42,0)])),(143,(hx [(0x10000000000000000000000000000000000000000000000000000000000003101,190),(12289,126),(12033,62),(46,0)])),(144,(hx [(0x10000000000000000000000000000000000000000000000000000000000003501,190),(13313,126),(13057,62),(50,0)])),(145,(hx [(0x10000000000000000000000000000000000000000000000000000000000003901,190),(14337,126),(14081,62),(54,0)])),(146,(hx [(0x10000000000000000000000000000000000000000000000000000000000003d01,190),(15361,126),(15105,62),(58,0)])),(147,(hx [(0x10000000000000000000000000000000000000000000000000000000000004101,190),(16385,126),(16129,62),(62,0)])),(148,(hx [(0x10000000000000000000000000000000000000000000000000000000000004501,190),(17409,126),(17153,62),(66,0)])),(149,(hx [(0x10000000000000000000000000000000000000000000000000000000000004901,190),(18433,126),(18177,62),(70,0)])),(150,(hx [(0x10000000000000000000000000000000000000000000000000000000000004d01,190),(19457,126),(19201,62),(74,0)])),(151,(hx [(0x10000000000000000000000000000000000000000000000000000000000005101,190),(20481,126),(20225,62),(78,0)])),(152,(hx [(0x10000000000000000000000000000000000000000000000000000000000005501,190),(21505,126),(21249,62),(82,0)])),(153,(hx [(0x10000000000000000000000000000000000000000000000000000000000005901,190),(22529,126),(22273,62),(86,0)])),(154,(hx [(0x10000000000000000000000000000000000000000000000000000000000005d01,190),(23553,126),(23297,62),(90,0)])),(155,(hx [(0x10000000000000000000000000000000000000000000000000000000000006101,190),(24577,126),(24321,62),(94,0)])),(156,(hx [(0x10000000000000000000000000000000000000000000000000000000000006501,190),(25601,126),(25345,62),(98,0)])),(157,(hx [(0x10000000000000000000000000000000000000000000000000000000000006901,190),(26625,126),(26369,62),(102,0)])),(158,(hx [(0x10000000000000000000000000000000000000000000000000000000000006d01,190),(27649,126),(27393,62),(106,0)])),(159,(hx [(0x10000000000000000000000000000000000000000000000000000000000007101,190),(28673,126),(28417,62),(110,0)])),(160,(hx [(0x10000000000000000000000000000000000000000000000000000000000007501,190),(29697,126),(29441,62),(114,0)])),(161,(hx [(0x10000000000000000000000000000000000000000000000000000000000007901,190),(30721,126),(30465,62),(118,0)])),(162,(hx [(0x10000000000000000000000000000000000000000000000000000000000007d01,190),(31745,126),(31489,62),(122,0)])),(163,(hx [(0x10000000000000000000000000000000000000000000000000000000000008101,190),(32769,126),(32513,62),(126,0)]))]
def Ws:List Nat:=[0x100000000000000000000000000000000000000000000000000000000000000000009,(hx [(524292,67),(67,0)]),0x40000000000000000000000000000000000000000000000000000000000000000031,(hx [(524292,67),(49,0)]),(hx [(1048580,67),(49,0)]),(hx [(1572868,67),(49,0)]),(hx [(2097156,67),(49,0)]),(hx [(2621444,67),(49,0)]),(hx [(3145732,67),(49,0)]),(hx [(3670020,67),(49,0)]),(hx [(4194308,67),(49,0)]),(hx [(4718596,67),(49,0)]),(hx [(5242884,67),(49,0)]),(hx [(5767172,67),(49,0)]),(hx [(6291460,67),(49,0)]),(hx [(6815748,67),(49,0)]),(hx [(7340036,67),(49,0)]),(hx [(7864324,67),(49,0)]),(hx [(8388612,67),(49,0)]),(hx [(8912900,67),(49,0)]),(hx [(9437188,67),(49,0)]),(hx [(9961476,67),(49,0)]),(hx [(10485764,67),(49,0)]),(hx [(11010052,67),(49,0)]),(hx [(11534340,67),(49,0)]),(hx [(12058628,67),(49,0)]),(hx [(12582916,67),(49,0)]),(hx [(13107204,67),(49,0)]),(hx [(13631492,67),(49,0)]),(hx [(14155780,67),(49,0)]),(hx [(14680068,67),(49,0)]),(hx [(15204356,67),(49,0)]),(hx [(15728644,67),(49,0)]),(hx [(16252932,67),(49,0)]),(hx [(16777220,67),(49,0)]),(hx [(17301508,67),(49,0)]),(hx [(17825796,67),(49,0)]),(hx [(18350084,67),(49,0)]),(hx [(18874372,67),(49,0)]),(hx [(19398660,67),(49,0)]),(hx [(19922948,67),(49,0)]),(hx [(20447236,67),(49,0)]),(hx [(20971524,67),(49,0)]),(hx [(21495812,67),(49,0)]),(hx [(22020100,67),(49,0)]),(hx [(22544388,67),(49,0)]),(hx [(23068676,67),(49,0)]),(hx [(23592964,67),(49,0)]),(hx [(24117252,67),(49,0)]),(hx [(24641540,67),(49,0)]),(hx [(25165828,67),(49,0)]),(hx [(25690116,67),(49,0)]),(hx [(26214404,67),(49,0)]),(hx [(26738692,67),(49,0)]),(hx [(27262980,67),(49,0)]),(hx [(27787268,67),(49,0)]),(hx [(28311556,67),(49,0)]),(hx [(28835844,67),(49,0)]),(hx [(29360132,67),(49,0)]),(hx [(29884420,67),(49,0)]),(hx [(30408708,67),(49,0)]),(hx [(30932996,67),(49,0)]),(hx [(31457284,67),(49,0)]),(hx [(31981572,67),(49,0)]),(hx [(32505860,67),(49,0)]),(hx [(33030148,67),(49,0)]),(hx [(33554436,67),(49,0)]),(hx [(34078724,67),(49,0)]),(hx [(34603012,67),(49,0)]),(hx [(35127300,67),(49,0)]),(hx [(35651588,67),(49,0)]),(hx [(36175876,67),(49,0)]),(hx [(36700164,67),(49,0)]),(hx [(37224452,67),(49,0)]),(hx [(37748740,67),(49,0)]),(hx [(38273028,67),(49,0)]),(hx [(38797316,67),(49,0)]),(hx [(39321604,67),(49,0)]),(hx [(39845892,67),(49,0)]),(hx [(40370180,67),(49,0)]),(hx [(40894468,67),(49,0)]),(hx [(41418756,67),(49,0)]),(hx [(41943044,67),(49,0)]),(hx [(42467332,67),(49,0)]),(hx [(42991620,67),(49,0)]),(hx [(43515908,67),(49,0)]),(hx [(44040196,67),(49,0)]),(hx [(44564484,67),(49,0)]),(hx [(45088772,67),(49,0)]),(hx [(45613060,67),(49,0)]),(hx [(46137348,67),(49,0)]),(hx [(46661636,67),(49,0)]),(hx [(47185924,67),(49,0)]),(hx [(47710212,67),(49,0)]),(hx [(48234500,67),(49,0)]),(hx [(48758788,67),(49,0)]),(hx [(49283076,67),(49,0)]),(hx [(49807364,67),(49,0)]),(hx [(50331652,67),(49,0)]),(hx [(50855940,67),(49,0)]),(hx [(51380228,67),(49,0)]),(hx [(51904516,67),(49,0)]),(hx [(52428804,67),(49,0)]),(hx [(52953092,67),(49,0)]),(hx [(53477380,67),(49,0)]),(hx [(54001668,67),(49,0)]),(hx [(54525956,67),(49,0)]),(hx [(55050244,67),(49,0)]),(hx [(55574532,67),(49,0)]),(hx [(56098820,67),(49,0)]),(hx [(56623108,67),(49,0)]),(hx [(57147396,67),(49,0)]),(hx [(57671684,67),(49,0)]),(hx [(58195972,67),(49,0)]),(hx [(58720260,67),(49,0)]),(hx [(59244548,67),(49,0)]),(hx [(59768836,67),(49,0)]),(hx [(60293124,67),(49,0)]),(hx [(60817412,67),(49,0)]),(hx [(61341700,67),(49,0)]),(hx [(61865988,67),(49,0)]),(hx [(62390276,67),(49,0)]),(hx [(62914564,67),(49,0)]),(hx [(63438852,67),(49,0)]),(hx [(63963140,67),(49,0)]),(hx [(64487428,67),(49,0)]),(hx [(65011716,67),(49,0)]),(hx [(65536004,67),(49,0)]),(hx [(66060292,67),(49,0)]),(hx [(66584580,67),(49,0)]),(hx [(0x80000000000000000000000000000000000000000000000000000000000040808,149),(0x40000000000000003f80024,67),(41,0)]),(hx [(0x8000000000000000000000000000000000000000000000000000000000003f808,149),(63,88),(66060324,67),(41,0)]),(hx [(0x8000000000000000000000000000000000000000000000000000000000003e808,149),(62,88),(65536036,67),(41,0)]),(hx [(0x8000000000000000000000000000000000000000000000000000000000003d808,149),(61,88),(65011748,67),(41,0)]),(hx [(0x8000000000000000000000000000000000000000000000000000000000003c808,149),(60,88),(64487460,67),(41,0)]),(hx [(0x8000000000000000000000000000000000000000000000000000000000003b808,149),(59,88),(63963172,67),(41,0)]),(hx [(0x8000000000000000000000000000000000000000000000000000000000003a808,149),(58,88),(63438884,67),(41,0)]),(hx [(0x80000000000000000000000000000000000000000000000000000000000039808,149),(57,88),(62914596,67),(41,0)]),(hx [(0x80000000000000000000000000000000000000000000000000000000000038808,149),(56,88),(62390308,67),(41,0)]),(hx [(0x80000000000000000000000000000000000000000000000000000000000037808,149),(55,88),(61866020,67),(41,0)]),(hx [(0x80000000000000000000000000000000000000000000000000000000000036808,149),(54,88),(61341732,67),(41,0)]),(hx [(0x80000000000000000000000000000000000000000000000000000000000035808,149),(53,88),(60817444,67),(41,0)]),(hx [(0x80000000000000000000000000000000000000000000000000000000000034808,149),(52,88),(60293156,67),(41,0)]),(hx [(0x80000000000000000000000000000000000000000000000000000000000033808,149),(51,88),(59768868,67),(41,0)]),(hx [(0x80000000000000000000000000000000000000000000000000000000000032808,149),(50,88),(59244580,67),(41,0)]),(hx [(0x80000000000000000000000000000000000000000000000000000000000031808,149),(49,88),(58720292,67),(41,0)]),(hx [(0x80000000000000000000000000000000000000000000000000000000000030808,149),(0x30000000000000003780024,67),(41,0)]),(hx [(0x8000000000000000000000000000000000000000000000000000000000002f808,149),(47,88),(57671716,67),(41,0)]),(hx [(0x8000000000000000000000000000000000000000000000000000000000002e808,149),(46,88),(57147428,67),(41,0)]),(hx [(0x8000000000000000000000000000000000000000000000000000000000002d808,149),(45,88),(56623140,67),(41,0)]),(hx [(0x8000000000000000000000000000000000000000000000000000000000002c808,149),(44,88),(56098852,67),(41,0)]),(hx [(0x8000000000000000000000000000000000000000000000000000000000002b808,149),(43,88),(55574564,67),(41,0)]),(hx [(0x8000000000000000000000000000000000000000000000000000000000002a808,149),(42,88),(55050276,67),(41,0)]),(hx [(0x80000000000000000000000000000000000000000000000000000000000029808,149),(41,88),(54525988,67),(41,0)]),(hx [(0x80000000000000000000000000000000000000000000000000000000000028808,149),(40,88),(54001700,67),(41,0)]),(hx [(0x80000000000000000000000000000000000000000000000000000000000027808,149),(39,88),(53477412,67),(41,0)]),(hx [(0x80000000000000000000000000000000000000000000000000000000000026808,149),(38,88),(52953124,67),(41,0)]),(hx [(0x80000000000000000000000000000000000000000000000000000000000025808,149),(37,88),(52428836,67),(41,0)]),(hx [(0x80000000000000000000000000000000000000000000000000000000000024808,149),(36,88),(51904548,67),(41,0)]),(hx [(0x80000000000000000000000000000000000000000000000000000000000023808,149),(35,88),(51380260,67),(41,0)]),(hx [(0x80000000000000000000000000000000000000000000000000000000000022808,149),(34,88),(50855972,67),(41,0)]),(hx [(0x80000000000000000000000000000000000000000000000000000000000021808,149),(33,88),(50331684,67),(41,0)]),(hx [(0x80000000000000000000000000000000000000000000000000000000000020808,149),(0x20000000000000002f80024,67),(41,0)]),(hx [(0x8000000000000000000000000000000000000000000000000000000000001f808,149),(31,88),(49283108,67),(41,0)]),(hx [(0x8000000000000000000000000000000000000000000000000000000000001e808,149),(30,88),(48758820,67),(41,0)]),(hx [(0x8000000000000000000000000000000000000000000000000000000000001d808,149),(29,88),(48234532,67),(41,0)]),(hx [(0x8000000000000000000000000000000000000000000000000000000000001c808,149),(28,88),(47710244,67),(41,0)]),(hx [(0x8000000000000000000000000000000000000000000000000000000000001b808,149),(27,88),(47185956,67),(41,0)]),(hx [(0x8000000000000000000000000000000000000000000000000000000000001a808,149),(26,88),(46661668,67),(41,0)]),(hx [(0x80000000000000000000000000000000000000000000000000000000000019808,149),(25,88),(46137380,67),(41,0)]),(hx [(0x80000000000000000000000000000000000000000000000000000000000018808,149),(24,88),(45613092,67),(41,0)]),(hx [(0x80000000000000000000000000000000000000000000000000000000000017808,149),(23,88),(45088804,67),(41,0)]),(hx [(0x80000000000000000000000000000000000000000000000000000000000016808,149),(22,88),(44564516,67),(41,0)]),(hx [(0x80000000000000000000000000000000000000000000000000000000000015808,149),(21,88),(44040228,67),(41,0)]),(hx [(0x80000000000000000000000000000000000000000000000000000000000014808,149),(20,88),(43515940,67),(41,0)]),(hx [(0x80000000000000000000000000000000000000000000000000000000000013808,149),(19,88),(42991652,67),(41,0)]),(hx [(0x80000000000000000000000000000000000000000000000000000000000012808,149),(18,88),(42467364,67),(41,0)]),(hx [(0x80000000000000000000000000000000000000000000000000000000000011808,149),(17,88),(41943076,67),(41,0)]),(hx [(0x80000000000000000000000000000000000000000000000000000000000010808,149),(0x10000000000000002780024,67),(41,0)]),(hx [(0x8000000000000000000000000000000000000000000000000000000000000f808,149),(0xf000000000000002700024,67),(41,0)]),(hx [(0x8000000000000000000000000000000000000000000000000000000000000e808,149),(0xe000000000000002680024,67),(41,0)]),(hx [(0x8000000000000000000000000000000000000000000000000000000000000d808,149),(0xd000000000000002600024,67),(41,0)]),(hx [(0x8000000000000000000000000000000000000000000000000000000000000c808,149),(0xc000000000000002580024,67),(41,0)]),(hx [(0x8000000000000000000000000000000000000000000000000000000000000b808,149),(0xb000000000000002500024,67),(41,0)]),(hx [(0x8000000000000000000000000000000000000000000000000000000000000a808,149),(0xa000000000000002480024,67),(41,0)]),(hx [(0x80000000000000000000000000000000000000000000000000000000000009808,149),(0x9000000000000002400024,67),(41,0)]),(hx [(0x80000000000000000000000000000000000000000000000000000000000008808,149),(0x8000000000000002380024,67),(41,0)]),(hx [(0x80000000000000000000000000000000000000000000000000000000000007808,149),(0x7000000000000002300024,67),(41,0)]),(hx [(0x80000000000000000000000000000000000000000000000000000000000006808,149),(0x6000000000000002280024,67),(41,0)]),(hx [(0x80000000000000000000000000000000000000000000000000000000000005808,149),(0x5000000000000002200024,67),(41,0)]),(hx [(0x80000000000000000000000000000000000000000000000000000000000004808,149),(0x4000000000000002180024,67),(41,0)]),(hx [(0x80000000000000000000000000000000000000000000000000000000000003808,149),(0x3000000000000002100024,67),(41,0)]),(hx [(0x80000000000000000000000000000000000000000000000000000000000002808,149),(0x2000000000000002080024,67),(41,0)]),(hx [(0x80000000000000000000000000000000000000000000000000000000000001808,149),(0x1000000000000002000024,67),(41,0)]),(hx [(0x80000000000000000000000000000000000000000000000000000000000041008,149),(1048,87),(33030180,67),(41,0)]),(hx [(0x80000000000000000000000000000000000000000000000000000000000042008,149),(1064,87),(32505892,67),(41,0)]),(hx [(0x80000000000000000000000000000000000000000000000000000000000043008,149),(1080,87),(31981604,67),(41,0)]),(hx [(0x80000000000000000000000000000000000000000000000000000000000044008,149),(1096,87),(31457316,67),(41,0)]),(hx [(0x80000000000000000000000000000000000000000000000000000000000045008,149),(1112,87),(30933028,67),(41,0)]),(hx [(0x80000000000000000000000000000000000000000000000000000000000046008,149),(1128,87),(30408740,67),(41,0)]),(hx [(0x80000000000000000000000000000000000000000000000000000000000047008,149),(1144,87),(29884452,67),(41,0)]),(hx [(0x80000000000000000000000000000000000000000000000000000000000048008,149),(1160,87),(29360164,67),(41,0)]),(hx [(0x80000000000000000000000000000000000000000000000000000000000049008,149),(1176,87),(28835876,67),(41,0)]),(hx [(0x8000000000000000000000000000000000000000000000000000000000004a008,149),(1192,87),(28311588,67),(41,0)]),(hx [(0x8000000000000000000000000000000000000000000000000000000000004b008,149),(1208,87),(27787300,67),(41,0)]),(hx [(0x8000000000000000000000000000000000000000000000000000000000004c008,149),(1224,87),(27263012,67),(41,0)]),(hx [(0x8000000000000000000000000000000000000000000000000000000000004d008,149),(1240,87),(26738724,67),(41,0)]),(hx [(0x8000000000000000000000000000000000000000000000000000000000004e008,149),(1256,87),(26214436,67),(41,0)]),(hx [(0x8000000000000000000000000000000000000000000000000000000000004f008,149),(1272,87),(25690148,67),(41,0)]),(hx [(0x80000000000000000000000000000000000000000000000000000000000050008,149),(1288,87),(25165860,67),(41,0)]),(hx [(0x80000000000000000000000000000000000000000000000000000000000051008,149),(1304,87),(24641572,67),(41,0)]),(hx [(0x80000000000000000000000000000000000000000000000000000000000052008,149),(1320,87),(24117284,67),(41,0)]),(hx [(0x80000000000000000000000000000000000000000000000000000000000053008,149),(1336,87),(23592996,67),(41,0)]),(hx [(0x80000000000000000000000000000000000000000000000000000000000054008,149),(1352,87),(23068708,67),(41,0)]),(hx [(0x80000000000000000000000000000000000000000000000000000000000055008,149),(1368,87),(22544420,67),(41,0)]),(hx [(0x80000000000000000000000000000000000000000000000000000000000056008,149),(1384,87),(22020132,67),(41,0)]),(hx [(0x80000000000000000000000000000000000000000000000000000000000057008,149),(1400,87),(21495844,67),(41,0)]),(hx [(0x80000000000000000000000000000000000000000000000000000000000058008,149),(1416,87),(20971556,67),(41,0)]),(hx [(0x80000000000000000000000000000000000000000000000000000000000059008,149),(1432,87),(20447268,67),(41,0)]),(hx [(0x8000000000000000000000000000000000000000000000000000000000005a008,149),(1448,87),(19922980,67),(41,0)]),(hx [(0x8000000000000000000000000000000000000000000000000000000000005b008,149),(1464,87),(19398692,67),(41,0)]),(hx [(0x8000000000000000000000000000000000000000000000000000000000005c008,149),(1480,87),(18874404,67),(41,0)]),(hx [(0x8000000000000000000000000000000000000000000000000000000000005d008,149),(1496,87),(18350116,67),(41,0)]),(hx [(0x8000000000000000000000000000000000000000000000000000000000005e008,149),(1512,87),(17825828,67),(41,0)]),(hx [(0x8000000000000000000000000000000000000000000000000000000000005f008,149),(1528,87),(17301540,67),(41,0)]),(hx [(0x80000000000000000000000000000000000000000000000000000000000060008,149),(1544,87),(16777252,67),(41,0)]),(hx [(0x80000000000000000000000000000000000000000000000000000000000061008,149),(1560,87),(16252964,67),(41,0)]),(hx [(0x80000000000000000000000000000000000000000000000000000000000062008,149),(1576,87),(15728676,67),(41,0)]),(hx [(0x80000000000000000000000000000000000000000000000000000000000063008,149),(1592,87),(15204388,67),(41,0)]),(hx [(0x80000000000000000000000000000000000000000000000000000000000064008,149),(1608,87),(14680100,67),(41,0)]),(hx [(0x80000000000000000000000000000000000000000000000000000000000065008,149),(1624,87),(14155812,67),(41,0)]),(hx [(0x80000000000000000000000000000000000000000000000000000000000066008,149),(1640,87),(13631524,67),(41,0)]),(hx [(0x80000000000000000000000000000000000000000000000000000000000067008,149),(1656,87),(13107236,67),(41,0)]),(hx [(0x80000000000000000000000000000000000000000000000000000000000068008,149),(1672,87),(12582948,67),(41,0)]),(hx [(0x80000000000000000000000000000000000000000000000000000000000069008,149),(1688,87),(12058660,67),(41,0)]),(hx [(0x8000000000000000000000000000000000000000000000000000000000006a008,149),(1704,87),(11534372,67),(41,0)]),(hx [(0x8000000000000000000000000000000000000000000000000000000000006b008,149),(1720,87),(11010084,67),(41,0)]),(hx [(0x8000000000000000000000000000000000000000000000000000000000006c008,149),(1736,87),(10485796,67),(41,0)]),(hx [(0x8000000000000000000000000000000000000000000000000000000000006d008,149),(1752,87),(9961508,67),(41,0)]),(hx [(0x8000000000000000000000000000000000000000000000000000000000006e008,149),(1768,87),(9437220,67),(41,0)]),(hx [(0x8000000000000000000000000000000000000000000000000000000000006f008,149),(1784,87),(8912932,67),(41,0)]),(hx [(0x80000000000000000000000000000000000000000000000000000000000070008,149),(1800,87),(8388644,67),(41,0)]),(hx [(0x80000000000000000000000000000000000000000000000000000000000071008,149),(1816,87),(7864356,67),(41,0)]),(hx [(0x80000000000000000000000000000000000000000000000000000000000072008,149),(1832,87),(7340068,67),(41,0)]),(hx [(0x80000000000000000000000000000000000000000000000000000000000073008,149),(1848,87),(6815780,67),(41,0)]),(hx [(0x80000000000000000000000000000000000000000000000000000000000074008,149),(1864,87),(6291492,67),(41,0)]),(hx [(0x80000000000000000000000000000000000000000000000000000000000075008,149),(1880,87),(5767204,67),(41,0)]),(hx [(0x80000000000000000000000000000000000000000000000000000000000076008,149),(1896,87),(5242916,67),(41,0)]),(hx [(0x80000000000000000000000000000000000000000000000000000000000077008,149),(1912,87),(4718628,67),(41,0)]),(hx [(0x80000000000000000000000000000000000000000000000000000000000078008,149),(1928,87),(4194340,67),(41,0)]),(hx [(0x80000000000000000000000000000000000000000000000000000000000079008,149),(1944,87),(3670052,67),(41,0)]),(hx [(0x8000000000000000000000000000000000000000000000000000000000007a008,149),(1960,87),(3145764,67),(41,0)]),(hx [(0x8000000000000000000000000000000000000000000000000000000000007b008,149),(1976,87),(2621476,67),(41,0)]),(hx [(0x8000000000000000000000000000000000000000000000000000000000007c008,149),(1992,87),(2097188,67),(41,0)]),(hx [(0x8000000000000000000000000000000000000000000000000000000000007d008,149),(2008,87),(1572900,67),(41,0)]),(hx [(0x8000000000000000000000000000000000000000000000000000000000007e008,149),(2024,87),(1048612,67),(41,0)]),(hx [(0x8000000000000000000000000000000000000000000000000000000000007f008,149),(2040,87),(524324,67),(41,0)])]
def dy:Nat×AB:=(4,.cells [.Au 1 0,.Au 2 0] 134)
def lx:Nat×AB:=(9,.cells [.Au 3 0,.Au 1 0,.Au 2 0,.Au 4 0,.Au 7 0,.mp 8,.val (.slice none 0 0),Cb 0,BZ 0,.val (.slice none 0 0)] 89)
def lL0:List (Nat×AB):=[(1,.res 0 [170,aBR [(90,(hx [(50,82),(469969757554,0)])),(91,0x10000001000000000000400030000000003030404000000000000030b),(92,21),(93,(hx [(0x10000000000000000000000000000000000000000000000000000000000000000000000000000000000000000000000000000000000000000000000000000008,33),(6514034,0)]))]]),(2,.res 1 ((rp 9 1)++List.replicate 161 0)),(3,.res 2 []),dy,(6,.map []),(7,.cells [.Au 3 0,.mp 6,BZ 0] 138),(8,.map []),lx]
def yE2:Nat×AB:=(6,.map [(.ofNat 0,.agg ([BZ 1,Cb 1,Cb 1,BZ 12800]++rp 31 (D7 0)++[D7 1,.sl 910 0 1 1,D7 1]++rp 30 (D7 0)++[D7 1,BZ 0,D7 0,D7 1]++rp 29 (D7 0)++[D7 1,Cb 0]))])
def ly:Nat×AB:=(7,.cells [.Au 3 0,.mp 6,BZ 1] 138)
def yE4:Nat×AB:=(910,.cells ([Cb 1]++rp 32 (D7 0)++[Cb 0]++rp 128 (D7 0)++rp 9 (BZ 0)++[.boo (some false)]) 301)
def lL1:List (Nat×AB):=[(1,.res 0 [170,VJ [] qS]),(2,.res 1 (([0x1000000002,0x1000000004,1,1,1,1,1,1,1]++rp 91 0++rp 64 16)++List.replicate 6 0)),(3,.res 2 (Ws++[])),dy,yE2,ly,(8,.map []),lx,yE4]
def yp0:YP:=⟨9,[.Au 9 0,lw 3 [BZ 0,BZ 128,BZ 11520,BZ 0,BZ 0,BZ 0]],lL0,719,.agg [Cb 0,BZ 0,BZ 0,BZ 0,BZ 0,BZ 0,.boo (some false),BZ 0],lL1,1047⟩
def lL2:List (Nat×AB):=[(1,.res 0 [170,VJ [(1,0x201)] qS]),(2,.res 1 (([0x1000000002,0x1000000004,0x1000000004,1,1,1,1,1,1]++rp 91 0++rp 64 16)++List.replicate 6 0)),(3,.res 2 (Ws++[])),dy,yE2,ly,(8,.map []),lx,yE4]
def yp1:YP:=⟨9,[.Au 9 0,lw 7 [BZ 0,BZ 256,BZ 0,BZ 1,BZ 0,BZ 0]],lL1,1048,.agg [Cb 0,BZ 0,BZ 0,BZ 0,BZ 0,BZ 0,.boo (some false),BZ 0],lL2,1116⟩
def lL3:List (Nat×AB):=[(1,.res 0 [170,VJ [(1,0x201),(2,0x301)] qS]),(2,.res 1 (([0x1000000002,0x1000000004,0x1000000004,0x1000000004,1,1,1,1,1]++rp 91 0++rp 64 16)++List.replicate 6 0)),(3,.res 2 (Ws++[])),dy,yE2,ly,(8,.map []),lx,yE4]
def yp2:YP:=⟨9,[.Au 9 0,lw 7 [BZ 0,BZ 384,BZ 0,BZ 2,BZ 0,BZ 0]],lL2,1117,.agg [Cb 0,BZ 0,BZ 0,BZ 0,BZ 0,BZ 0,.boo (some false),BZ 0],lL3,1196⟩
def lL4:List (Nat×AB):=[(1,.res 0 [170,VJ [(1,0x201),(2,0x301),(3,0x401)] qS]),(2,.res 1 (([0x1000000002,0x1000000004,0x1000000004,0x1000000004,0x1000000004,1,1,1,1]++rp 91 0++rp 64 16)++List.replicate 6 0)),(3,.res 2 (Ws++[])),dy,yE2,ly,(8,.map []),lx,yE4]
def yp3:YP:=⟨9,[.Au 9 0,lw 7 [BZ 0,BZ 512,BZ 0,BZ 3,BZ 0,BZ 0]],lL3,1197,.agg [Cb 0,BZ 0,BZ 0,BZ 0,BZ 0,BZ 0,.boo (some false),BZ 0],lL4,1287⟩
def lL5:List (Nat×AB):=[(1,.res 0 [170,VJ [(1,0x201),(2,0x301),(3,0x401),(4,0x502),(5,0x10000001000000000000400030000000003030404000000000000030b)] qS]),(2,.res 1 (([0x1000000002,0x1000000004,0x1000000004,0x1000000004,0x1000000004,0x1000000005,1,1,1]++rp 91 0++rp 64 16)++List.replicate 6 0)),(3,.res 2 (Ws++[(hx [(2147483656,200),(2097176,183),(25264642,168),(6232,151),(0x8000000000000000000000000000000000000000000000000000000000000000054,67),(17,0)])])),dy,(6,.map [(.ofNat 0,.agg ([BZ 1,Cb 1,Cb 1,BZ 12800,D7 1,D7 1]++rp 29 (D7 0)++[D7 1,.G3 1469 2,D7 1]++rp 30 (D7 0)++[D7 1,BZ 0,D7 0,D7 1]++rp 29 (D7 0)++[D7 1,Cb 0]))]),ly,(8,.map []),lx,(1469,.grown ([Cb 1]++rp 32 (D7 0)++[Cb 0]++rp 128 (D7 0)++rp 9 (BZ 0)++[.boo (some false),Cb 2]++rp 32 (D7 0)++[Cb 0,D7 11,D7 3,D7 0,D7 0,D7 0,D7 0,D7 0,D7 0,D7 4,D7 4,D7 3,D7 3,D7 0,D7 0,D7 0,D7 0,D7 3,D7 0,D7 4,D7 0,D7 0,D7 0,D7 0,D7 0,D7 16,D7 0,D7 0,D7 0,D7 1]++rp 99 (D7 0)++rp 9 (BZ 0)++[.boo (some false)]) 301 172)]
def yp4:YP:=⟨9,[.Au 9 0,lw 10 [BZ 0,BZ 640,BZ 0,BZ 11648,BZ 0,BZ 0]],lL4,1288,.agg [Cb 0,BZ 0,BZ 0,BZ 0,BZ 0,BZ 0,.boo (some false),BZ 0],lL5,1531⟩
def yE5:Nat×AB:=(1,.res 0 [170,VJ [(1,0x201),(2,0x301),(3,0x401),(4,0x6020000000000000502),(5,0x10000001000000000000400030000000003030404000000000000030b),(6,21)] qS])
def lL6:List (Nat×AB):=[yE5,(2,.res 1 (([0x1000000002,0x1000000004,0x1000000004,0x1000000004,0x1000000004,0x1000000005,0x1000000005,1,1]++rp 91 0++rp 64 16)++List.replicate 6 0)),(3,.res 2 (Ws++[(hx [(2147483656,200),(2097176,183),(25264642,168),(6232,151),(0x8000000000000000000000000000000000000000000000000000000000000000054,67),(17,0)]),(hx [(168,151),(2056,133),(134742100,67),(17,0)])])),dy,(6,.map [(.ofNat 0,.agg ([BZ 1,Cb 1,Cb 1,BZ 12800,D7 2,D7 1]++rp 29 (D7 0)++[D7 1,.G3 1713 3,D7 1]++rp 30 (D7 0)++[D7 1,BZ 0,D7 0,D7 1]++rp 29 (D7 0)++[D7 1,Cb 0]))]),ly,(8,.map []),lx,(1713,.grown ([Cb 1]++rp 32 (D7 0)++[Cb 0]++rp 128 (D7 0)++rp 9 (BZ 0)++[.boo (some false),Cb 2]++rp 32 (D7 0)++[Cb 0,D7 11,D7 3,D7 0,D7 0,D7 0,D7 0,D7 0,D7 0,D7 4,D7 4,D7 3,D7 3,D7 0,D7 0,D7 0,D7 0,D7 3,D7 0,D7 4,D7 0,D7 0,D7 0,D7 0,D7 0,D7 16,D7 0,D7 0,D7 0,D7 1]++rp 99 (D7 0)++rp 9 (BZ 0)++[.boo (some false),Cb 2]++rp 32 (D7 0)++[Cb 1,D7 21]++rp 127 (D7 0)++rp 9 (BZ 0)++[.boo (some false)]) 301 172)]
def yp5:YP:=⟨9,[.Au 9 0,lw 10 [BZ 0,BZ 768,BZ 1,BZ 11776,BZ 0,BZ 0]],lL5,1532,.agg [Cb 0,BZ 0,BZ 0,BZ 0,BZ 0,BZ 0,.boo (some false),BZ 0],lL6,1775⟩
def yE6:Nat×AB:=(2,.res 1 (([0x1000000002,0x1000000004,0x1000000004,0x1000000004,0x1000000004,0x1000000005,0x1000000005,0x1000000003,1]++rp 91 0++rp 64 16)++List.replicate 6 0))
def yE7:Nat×AB:=(3,.res 2 (Ws++[(hx [(2147483656,200),(2097176,183),(25264642,168),(6232,151),(0x8000000000000000000000000000000000000000000000000000000000000000054,67),(17,0)]),(hx [(168,151),(2056,133),(134742100,67),(17,0)]),(hx [(0x8000000000000000000000000000000000000000000000000000000000000000000000000000000000000000000000000000000000000000000000000000004,169),(13340741640,133),(8454149,68),(25,0)])]))
def yE8:Nat×AB:=(8,.map [(.ofNat 7,.agg ([Cb 0,BZ 1,BZ 128]++rp 8 (BZ 0)++[.boo (some true),Cb 0]))])
def yE9:Nat×AB:=(2154,.grown ([Cb 1]++rp 32 (D7 0)++[Cb 0]++rp 128 (D7 0)++rp 9 (BZ 0)++[.boo (some false),Cb 2]++rp 32 (D7 0)++[Cb 0,D7 11,D7 3,D7 0,D7 0,D7 0,D7 0,D7 0,D7 0,D7 4,D7 4,D7 3,D7 3,D7 0,D7 0,D7 0,D7 0,D7 3,D7 0,D7 4,D7 0,D7 0,D7 0,D7 0,D7 0,D7 16,D7 0,D7 0,D7 0,D7 1]++rp 99 (D7 0)++rp 9 (BZ 0)++[.boo (some false),Cb 2]++rp 32 (D7 0)++[Cb 1,D7 21]++rp 127 (D7 0)++rp 9 (BZ 0)++[.boo (some false),Cb 3]++rp 32 (D7 0)++[Cb 0]++rp 128 (D7 0)++[BZ 0,BZ 128,BZ 0,BZ 0,BZ 0,BZ 0,BZ 0,BZ 0,BZ 0,.boo (some true)]) 301 172)
def lL7:List (Nat×AB):=[yE5,yE6,yE7,dy,(6,.map [(.ofNat 0,.agg ([BZ 1,Cb 1,Cb 1,BZ 12800,D7 3,D7 1]++rp 29 (D7 0)++[D7 1,.G3 2154 4,D7 1]++rp 30 (D7 0)++[D7 1,BZ 0,D7 0,D7 1]++rp 29 (D7 0)++[D7 1,Cb 1]))]),ly,yE8,lx,yE9]
def yp6:YP:=⟨9,[.Au 9 0,lw 15 [BZ 0,BZ 896,BZ 11904,BZ 0,BZ 0,BZ 0]],lL6,1776,.agg [Cb 0,BZ 0,BZ 0,BZ 0,BZ 0,BZ 0,.boo (some false),BZ 0],lL7,2157⟩
def lL8:List (Nat×AB):=[yE5,yE6,yE7,dy,(6,.map [(.ofNat 0,.agg ([BZ 1,Cb 2,Cb 1,BZ 12800,D7 3,D7 1]++rp 29 (D7 0)++[D7 1,.G3 2154 4,D7 1]++rp 30 (D7 0)++[D7 1,BZ 0,D7 0,D7 1]++rp 29 (D7 0)++[D7 1,Cb 1]))]),ly,yE8,lx,yE9]
def yp7:YP:=⟨9,[.Au 9 0,lw 4 [BZ 0,BZ 0,BZ 0,BZ 0,BZ 0,BZ 0]],lL7,2158,.agg [Cb 0,BZ 0,BZ 0,BZ 0,BZ 0,BZ 0,.boo (some false),BZ 0],lL8,2172⟩
def xr:Nat×AB:=(3,.res 2 (Ws++[(hx [(2147483656,200),(2097176,183),(25264642,168),(6232,151),(0x8000000000000000000000000000000000000000000000000000000000000000054,67),(17,0)]),(hx [(168,151),(2056,133),(134742100,67),(17,0)]),(hx [(0x8000000000000000000000000000000000000000000000000000000000000000000000000000000000000000000000000000000000000000000000000000004,169),(13340741640,133),(8454149,68),(25,0)]),(hx [(0x80000000000000008000c008,64),(2132,0)]),(hx [(0x80000000000000008,87),(2147532808,64),(2132,0)]),(hx [(0x100000000000000008,87),(2147532808,64),(2132,0)]),(hx [(24,103),(0x80000000000000008000c008,64),(2132,0)]),(hx [(0x80000000000000000000000000000000000000000000000000000000000083808,293),(536584,229),(534536,165),(2184,103),(0x800000000000000080048,67),(33,0)]),(hx [(0x80000000000000000000000000000000000000000000000000000000000084008,149),(0x1000000000000002000024,67),(41,0)]),(hx [(0x80000000000000000000000000000000000000000000000000000000000060008,149),(2120,87),(16777252,67),(41,0)]),(hx [(0x80000000000000000000000000000000000000000000000000000000000070008,149),(133,88),(8388644,67),(41,0)]),(hx [(0x80000000000000000000000000000000000000000000000000000000000078008,149),(2136,87),(4194340,67),(41,0)]),(hx [(0x8000000000000000000000000000000000000000000000000000000000007c008,149),(134,88),(2097188,67),(41,0)]),(hx [(0x8000000000000000000000000000000000000000000000000000000000007e008,149),(2152,87),(1048612,67),(41,0)]),(hx [(0x8000000000000000000000000000000000000000000000000000000000007f008,149),(135,88),(524324,67),(41,0)])]))
def lL9:List (Nat×AB):=[(1,.res 0 [170,VJ [(1,0x201),(2,0x301),(3,0x401),(4,0x40000000000000502),(5,0x10000001000000000000400030000000003030404000000000000030b),(94,(hx [(0x10000000000000000000000000000000000000000000000000000000000010701,190),(67073,126),(66817,62),(273,0)])),(100,(hx [(0x1000000000000000000000000000000000000000000000000000000000000fe01,190),(270,128)])),(101,(hx [(0x1000000000000000000000000000000000000000000000000000000000000fa01,190),(64257,126),(64513,62),(269,0)])),(102,(hx [(0x1000000000000000000000000000000000000000000000000000000000000f601,190),(63233,126),(63489,62),(268,0)])),(104,(hx [(0x1000000000000000000000000000000000000000000000000000000000000ee01,190),(61185,126),(61441,62),(267,0)])),(108,(hx [(0x1000000000000000000000000000000000000000000000000000000000000de01,190),(57089,126),(57345,62),(266,0)])),(116,(hx [(0x1000000000000000000000000000000000000000000000000000000000000be01,190),(48897,126),(49153,62),(265,0)])),(132,(hx [(0x10000000000000000000000000000000000000000000000000000000000000501,190),(1025,126),(67585,62),(2,0)]))] qS]),(2,.res 1 (([0x1000000002,0x1000000004,0x1000000004,0x1000000004,0x1000000004,0x1000000005,1,0x1000000003,1]++rp 91 0++rp 64 16)++List.replicate 6 0)),xr,dy,(6,.map [(.ofNat 0,.agg ([BZ 1,Cb 2,Cb 1,BZ 12800,D7 3,D7 1]++rp 29 (D7 0)++[D7 1,.G3 2154 4,D7 1]++rp 30 (D7 0)++[D7 1,BZ 1,D7 15,D7 1]++rp 29 (D7 0)++[D7 1,Cb 1]))]),ly,yE8,lx,yE9]
def yp8:YP:=⟨9,[.Au 9 0,lw 18 [BZ 0,BZ 1,BZ 12032,BZ 0,BZ 0,BZ 0]],lL8,2173,.agg [Cb 0,BZ 1,BZ 0,BZ 0,BZ 0,BZ 0,.boo (some false),BZ 0],lL9,3077⟩
def aBS:Nat×AB:=(2,.res 1 (([0x1000000002,0x1000000004,0x1000000004,0x1000000004,0x1000000004,0x1000000005,1,0x1000000003,0x1000000005]++rp 91 0++rp 64 16)++List.replicate 6 0))
def aBT:Nat×AB:=(6,.map [(.ofNat 0,.agg ([BZ 1,Cb 2,Cb 1,BZ 12800,D7 3,D7 1]++rp 29 (D7 0)++[D7 1,.G3 2154 4,D7 1]++rp 30 (D7 0)++[D7 1,BZ 1,D7 0,D7 1]++rp 29 (D7 0)++[D7 1,Cb 1]))])
def aBU:List (Nat×AB):=[(1,.res 0 [170,VJ [(1,0x201),(2,0x301),(3,0x401),(4,0x8020000000000000502),(5,0x10000001000000000000400030000000003030404000000000000030b),(8,21),(94,(hx [(0x10000000000000000000000000000000000000000000000000000000000010701,190),(67073,126),(66817,62),(273,0)]))] qS]),aBS,xr,dy,aBT,ly,yE8,lx,yE9]
def yp9:YP:=⟨9,[.Au 9 0,lw 19 [BZ 0,BZ 1,BZ 1024,BZ 12032,BZ 1,BZ 0]],lL9,3078,.agg [Cb 0,BZ 0,BZ 0,BZ 0,BZ 0,BZ 0,.boo (some false),BZ 0],aBU,3989⟩
def aDO:List (Nat×AB):=[(1,.res 0 [170,VJ [(1,0x201),(2,0x301),(3,0x401),(4,0x8020000000000000502),(5,0x10000001000000000000400030000000003030404000000000000030b),(8,21),(94,(hx [(0x10000000000000000000000000000000000000000000000000000000000010701,190),(67073,126),(66817,62),(273,0)])),(95,(hx [(0x4000000000000000000000000000000000000000000000015,64),(42,16),(2,0)]))] qS]),aBS,xr,dy,aBT,ly,(8,.map [(.ofNat 7,.agg [Cb 0,BZ 1,BZ 42,BZ 0,BZ 0,BZ 21,BZ 42,BZ 0,BZ 0,BZ 0,BZ 32,.boo (some true),Cb 1])]),(9,.cells [.Au 3 0,.Au 1 0,.Au 2 0,.Au 4 0,.Au 7 0,.mp 8,.val (.slice none 0 0),Cb 0,BZ 1,.G3 4548 5] 89),yE9]
def aBV:YP:=⟨9,[.Au 9 0,lw 17 [BZ 896,BZ 12160,BZ 9,BZ 0,BZ 0,BZ 0]],aBU,3993,.agg [Cb 0,BZ 2,BZ 4,BZ 0,BZ 0,BZ 0,.boo (some false),BZ 0],aDO,4678⟩
def QC(old:List CH)(b off:Nat)(xs:List Value):Prop:=xs=[]\/∃(cs:List Value) (t:Nat) (fz:Nat×Nat),(b,Obj.cells cs.toArray t fz)∈old/\(cs.drop off).take xs.length=xs
variable{old:List CH}{xs:List Value}
theorem QC.sub{b off i k:Nat}{ys:List Value}(h:QC old b off xs)(hy:(xs.drop i).take k=ys)(hk:ys.length=k):QC old b (off+i) ys:=by
 rcases h with rfl|⟨cs,t,fz,hm,hx⟩
 ·left;simpa using hy.symm
 ·right;refine⟨cs,t,fz,hm,?_⟩;rw[hk,<-hy,<-hx,List.drop_take,List.take_take,EU];congr 1
  have:ys.length<=xs.length-i:=by rw[<-hy,BP,B9];omega
  omega
variable{v:Value}{U:A2}
theorem QC.at_{b off j:Nat}{A:Om}(h:QC old b off xs)(hs:Ds A w (S++U))(ho:old∈S)(hv:xs[j]? =some v):w.cell? ⟨b,off+j,none⟩=some v:=by
 rcases h with rfl|⟨cs,t,fz,hm,hx⟩
 ·simp at hv
 ·have hb:w.heap[b]? =some (.cells cs.toArray t fz):=hs.has (b,.cells cs.toArray t fz) (by rw[A6];exact A3 _ (List.mem_flatten.2 ⟨_,ho,hm⟩));rw[MF hb];rw[<-hx,Bf]at hv;split at hv
  ·rwa [CG]at hv
  ·cases hv
section
variable{P:Program} {T:Tr} {n:Nat} {K:Option A2} {Q:EX} {fr:Fr} {S:A2} {rest:List FO}
variable{i ty d:Nat} {pos:String} {af:Array Edge} {gd g:Option (Nat×Bool)}
variable{news:List Value}
theorem DO.inO(hT:Dp P T=true){tx e sz CU s b off m c:Nat}(ht:T.get tx=some ⟨.sl e s,sz⟩)(h:QC old b off news)(ho:In old S)(hl:news.length=m*CU)(h1:∀u∈news,u.oneCell'=true):
 DO P CU S tx (.slice (some ⟨b,off,none⟩) m c) m news:=fun A U w hs=>by
 refine Src.ofSlice w (Et hT ht J).1 _ m c news hl (fun j u hj=> ?_) h1;rw[DD];exact h.at_ hs ho.mem hj
variable{x:Operand}{kd:Kd}
theorem DL.zI(hT:Dp P T=true){t b off k sz:Nat}(h0:QC old b off xs)(hg:lg fr g=some true)(hn:Nat.blt d n=true)(ht:T.get t=some ⟨kd,sz⟩)(ha:kd.agg=false)
 (hx:Eg fr x=some (.pointer (some ⟨b,off+k,none⟩))) (hm:In old (K.getD S)) (hv:E1 xs k=some v) (h:DL P n K Q rest ((d,v)::fr) S):DL P n K Q (⟨i,⟨some d,.load t x,ty,pos,af,gd⟩,g⟩::rest) fr S:=by
 refine .Ia (.inl J) hg J (by simpa using hn) (fun A R a w hk hs=> ?_) h;rw[D5]at hv;have hc:=h0.at_ hs hm.mem hv;simp[execOp,hk.eval hx,Instr.loadAt,Instr.sureAddr,loadVar,Jk hT ht,ha,hc]
theorem DL.tK(hT:Dp P T=true){t b off k sz:Nat}(h0:QC old b off xs)(hg:lg fr g=some true)(hn:Nat.blt d n=true)(ht:T.get t=some ⟨kd,sz⟩)(ha:kd.agg=true)
 (hx:Eg fr x=some (.pointer (some ⟨b,off+k,none⟩))) (hm:In old (K.getD S)) (hv:(xs.drop k).take sz=vs) (hl:vs.length=sz) (h:DL P n K Q rest ((d,.agg vs.toArray)::fr) S):DL P n K Q (⟨i,⟨some d,.load t x,ty,pos,af,gd⟩,g⟩::rest) fr S:=by
 refine .Ia (.inl J) hg J (by simpa using hn) (fun A R a w hk hs=> ?_) h;obtain⟨ti,hi,hsz⟩:=Ny hT ht;have hr:=run_loadCells_list (P:=P) (w:=w) ⟨b,off+k,none⟩ vs (fun j v hj=>by
  rw[DD,Nat.add_assoc];refine h0.at_ hs hm.mem ?_;rw[<-hv,Bf]at hj;split at hj
  ·rwa [CG]at hj
  ·cases hj)
 rw[hl]at hr;simp[execOp,hk.eval hx,Instr.loadAt,Instr.sureAddr,loadVar,Jk hT ht,ha,sizeOf,typeInfo,hi,hsz,hr]
end
def tL(D:List (List Int))(ds:Value)(old:List CH):Prop:=(∀x∈D,x.length=32)/\((D=[]/\ds=.slice none 0 0)\/∃db off cap,ds=.slice (some ⟨db,off,none⟩) D.length cap/\QC old db off (bs D.flatten))
def dW(v:Value)(old:List CH):Prop:=v=.slice none 0 0\/∃b off len cap xs,v=.slice (some ⟨b,off,none⟩) len cap/\len<=100/\xs.length=len/\QC old b off xs/\∀u∈xs,∃x:Nat,u=.int .u64 (x:Int)/\x<=18446744073709551615
def VR(X:List Int)(dv:Value)(old:List CH):Prop:=(X=[]/\∃p cap,dv=.slice p 0 cap)\/∃b off cap,dv=.slice (some ⟨b,off,none⟩) X.length cap/\X.length<=cap/\QC old b off (bs X)
variable{news:List Value}
theorem mW{b off m cap:Nat}(hi:QC old b off news)(hl:news.length=m*32)(h1:∀u∈news,u.oneCell'=true)(hbd:m<=1099511627776):Fn Tryz.prog 41 [.slice (some ⟨b,off,none⟩) m cap] [old] (Dv (ι:=Z8) (fun i=>m<=i.2.1/\i.2.2.length=(i.2.1-m)*32) (fun i=>.slice (some ⟨i.1,0,none⟩) m i.2.1) (fun i=>[A7 i.1 (news++i.2.2) 23,old])):=by
 refine Fn.of Tryz.func41 J J [_] J ?_
 (refine wW ?_;intro b;refine wW ?_)
 refine DL.append (xs:=[]) (ex:=[]) (news:=news) tt J J J ta J .here (DO.inO tt J hi iN (by simpa using hl) h1) J J I I I kC ?_;intro b' cap' ex' h2 h3;rw[show 0+m=m from BM m]at h2 h3⊢;rw[AS];refine vR ?_;exact BD (b',cap',ex') ⟨h3,by simpa using h2⟩ (DC (RV.tmp J)) pK
variable{D:List (List Int)}
theorem dX{ds:Value}(hd:tL D ds old)(hX:D.length<1099511627776):Fn Tryz.prog 41 [ds] [old] (Dv (ι:=Value×List CH) (fun i=>SX D i.1 i.2) (fun i=>i.1) (fun i=>[i.2,old])):=by
 obtain⟨hD,hd⟩:=hd;have hl:=Rj hD;rcases hd with⟨rfl,rfl⟩|⟨b,off,cap,rfl,hcs⟩
 ·refine Pg.Cd (F:=[old]) DI ?_;rintro e S' ⟨rfl,rfl⟩;exact⟨_,⟨(_,[]),⟨hD,.inl ⟨rfl,rfl,rfl⟩⟩,rfl,rfl⟩,by simp⟩
 ·refine(mW hcs (by rw[Aa,hl]) (BV _) I).mono ?_;rintro e S' ⟨⟨b',cap',ex'⟩,⟨h1,h2⟩,rfl,rfl⟩;exact⟨(_,_),⟨hD,.inr ⟨b',cap',ex',rfl,h1,rfl⟩⟩,rfl,rfl⟩
theorem dY{b off m cap:Nat}(hi:QC old b off news)(hl:news.length=m)(h1:∀u∈news,u.oneCell'=true)(hbd:m<=1099511627776):Fn Tryz.prog 161 [.slice (some ⟨b,off,none⟩) m cap] [old] (Dv (ι:=Z8) (fun i=>m<=i.2.1/\i.2.2.length=i.2.1-m) (fun i=>.slice (some ⟨i.1,0,none⟩) m i.2.1) (fun i=>[A7 i.1 (news++i.2.2) 5,old])):=by
 refine Fn.of Tryz.func161 J J [_] J ?_
 (refine wW ?_;intro b;refine wW ?_)
 refine DL.append (xs:=[]) (ex:=[]) (news:=news) tt J J J W5 J .here (DO.inO tt J hi iN (by simpa using hl) h1) J J I I I kC ?_;intro b' cap' ex' h2 h3;rw[show 0+m=m from BM m]at h2 h3⊢;rw[AS];refine vR ?_;exact BD (b',cap',ex') ⟨h3,by simpa using h2⟩ (DC (RV.tmp J)) pK
variable{X:List Int}{dv:Value}
theorem Ye(hd:VR X dv old)(h0:0<X.length)(hX:X.length<1099511627776):Fn Tryz.prog 161 [dv] [old] (Dv (ι:=Value×List CH) (fun i=>IK X i.1 i.2) (fun i=>i.1) (fun i=>[i.2,old])):=by
 rcases hd with⟨rfl,_⟩|⟨b,off,cap,rfl,hle,hx⟩
 ·simp at h0
 ·refine(dY hx (by simp[Aa]) (BV _) I).mono ?_;rintro e S' ⟨⟨b',cap',ex'⟩,⟨h1,h2⟩,rfl,rfl⟩;exact⟨(_,_),.inr ⟨b',cap',ex',rfl,h1,h2,rfl⟩,rfl,rfl⟩
abbrev ClO(old:List CH):Ending->A2->Prop:=fun e S'=>∃v c,e=.returned v/\Ze v c/\S'=[old,c]
theorem mX(h:dW v old):Fn Tryz.prog 21 [v] [old] (ClO old):=by
 rcases h with rfl|⟨b0,off,len,cap,xs,rfl,qt,hxl,hin,hall⟩
 ·have h0:Fn Tryz.prog 21 [.slice none 0 0] [] (E4 (.slice none 0 0) []):=by refine Fn.of Tryz.func21 J J [_] J ?_;exact wW trivial
  refine h0.Cd (F:=[old]) DI ?_;rintro e S' ⟨rfl,rfl⟩;exact⟨[old,[]],⟨_,_,rfl,.inl ⟨rfl,rfl⟩,rfl⟩,by simp⟩
 ·refine Fn.of Tryz.func21 J J [_] J ?_
  (refine W ?_;intro b;refine W ?_)
  have hsl:DO Tryz.prog 1 [A7 b [] 43,old] 25 (.slice (some ⟨b0,off,none⟩) len cap) len xs:=DO.inO tt J hin (.there .here) I (fun u hu=>by obtain⟨x,rfl,_⟩:=hall u hu;rfl)
  by_cases h0:len=0
  ·subst h0;obtain rfl:xs=[]:=List.eq_nil_of_length_eq_zero hxl;refine .eff _ _ (.inl J) J (fun e he=>by cases he;decide) (VB tt J J J eM J hsl) (fun _ _ h=>h.elim) (fun _ _ h=>D9) ?_;rintro v S' ⟨rfl,rfl⟩;refine W ?_;exact⟨_,_,_,DC (RV.tmp J),(.cons (.there .here) (.cons .here .nil)),_,_,rfl,.inr ⟨b,0,0,0,[],rfl,Ao _,Ao _,I,rfl,fun u hu=>by cases hu⟩,rfl⟩
  ·refine .eff _ _ (.inl J) J (fun e he=>by cases he;decide) (WX (z:=.int .u64 0) (z0:=.int .u64 0) tt J J J eM (hz 43 _ J) J J hsl .here I I I) (fun _ _ h=>h.elim) (fun _ _ h=>D9) ?_;rintro v S' ⟨b',k,rfl,rfl⟩;refine W ?_;refine⟨_,_,_,DC (RV.tmp J),(.cons (.there .here) (.cons .here .nil)),_,_,rfl,.inr ⟨b',0,len,len+k,_,rfl,I,by simp;omega,qt,rfl,fun u hu=> ?_⟩,rfl⟩;rcases Aj.1 hu with hu|hu
   ·exact hall u hu
   ·obtain⟨_,rfl⟩:=D6.1 hu;exact⟨0,rfl,I⟩
section
def Yf(m i:Nat):Nat:=match i with|0=>0|_=>m
theorem mY(m:Nat):Yf m 0=0:=rfl
theorem Yg(m:Nat):Yf m 1=m:=rfl
variable{bp wb wo ED:Nat}
theorem aCi(hX:X.length=m)(hm:1<=m/\m<=1000)(hw:QC old wb wo (bs X)):
 Fn Tryz.prog 250 [.slice (some ⟨bp,0,none⟩) 1 1] [A7 bp [.slice (some ⟨wb,wo,none⟩) m ED] 53,old] (Dv (ι:=Z8) (fun i=>m<=i.2.1/\i.2.2.length=i.2.1-m) (fun i=>.slice (some ⟨i.1,0,none⟩) m i.2.1) (fun i=>[II i.1 X i.2.2,A7 bp [.slice (some ⟨wb,wo,none⟩) m ED] 53,old])):=by
 refine Fn.of Tryz.func250 J J [_] J ?_;refine W ?_;refine CW.loop (ι:=Nat) (fun i=>1-i) (fun i=>i<=1) (fun i=>[(0,.slice (some ⟨bp,0,none⟩) 1 1),(9,.slice (some ⟨bp,0,none⟩) 1 1),(10,.int .i64 1),(11,.int .i64 i),(3,.int .i64 ((Yf m i:Nat):Int))]) (fun i=>[A7 bp [.slice (some ⟨wb,wo,none⟩) m ED] 53,old]) 0 I sF pK ?_;intro i hi;refine W ?_;by_cases h:i<1
 ·obtain rfl:i=0:=I;simp only[mY];refine CW.Gp J I ?_;refine W ?_;refine DL.C3 tt 0 J J J J J J Ba ?_;refine W ?_;rw[show((0:Nat):Int)+(m:Int)=((Yf m 1:Nat):Int) by rw[Yg];omega];exact⟨1,_,I,I,sF,pK⟩
 ·obtain rfl:i=1:=I;simp only[Yg];refine CW.GM J I ?_;refine W ?_;refine DL.B7 J J J .nil (grow (m:=m) I I) kR (fun _=>aP) (fun _=>kO) ?_;rintro⟨gb,X4,iy⟩ ⟨g1,g2⟩;dsimp only at g1 g2⊢;refine W ?_;refine CW.FK (T:=[II gb (X.take 0) iy,A7 bp [.slice (some ⟨wb,wo,none⟩) m ED] 53,old]) (by simp;exact EI _) ?_;refine CW.loop (ι:=Nat×Nat×Nat×List Value) (fun i=>1-i.1) (fun i=>i.1<=1/\m<=i.2.2.1/\i.2.2.2.length=i.2.2.1-Yf m i.1) (fun i=>[(25,.slice (some ⟨bp,0,none⟩) 1 1),(26,.int .i64 1),(27,.int .i64 (i.1:Int)),(6,.slice (some ⟨i.2.1,0,none⟩) (Yf m i.1) i.2.2.1)]) (fun i=>[A7 bp [.slice (some ⟨wb,wo,none⟩) m ED] 53,old,II i.2.1 (X.take (Yf m i.1)) i.2.2.2]) (0,gb,X4,iy) ⟨I,g1,by show iy.length=X4-0;simpa using g2⟩ sF (show DV [II gb (X.take 0) iy,A7 bp [.slice (some ⟨wb,wo,none⟩) m ED] 53,old] [A7 bp [.slice (some ⟨wb,wo,none⟩) m ED] 53,old,II gb (X.take 0) iy] []from pK) ?_;rintro⟨r,nb,cap,ex⟩ ⟨h1,h2,h3⟩;dsimp only at h1 h2 h3⊢;refine W ?_;by_cases h:r<1
  ·obtain rfl:r=0:=I;simp only[mY]at h3⊢;refine CW.Gp J I ?_;refine W ?_;refine DL.C3 tt 0 J J J J J J Ba ?_;refine W ?_;refine DL.append (xs:=bs (X.take 0)) (ex:=ex) (news:=bs X) tt J J J W5 J Es (DO.inO tt J hw iN (by rw[Aa,hX,Dk]) (BV _)) (by simp[bs]) (by simpa using h3) I I I (fun _ _=>kO) ?_;intro b' cap' ex' h4 h5;rw[BM m]at h4 h5⊢;rw[show bs (X.take 0)++bs X=bs (X.take m) by rw[show X.take m=X from AX I];simp[bs]];refine W ?_;exact⟨(1,b',cap',ex'),_,by simp,⟨by simp,by simpa using h5,by show ex'.length=cap'-m;simpa using h4⟩,sF,(show DV [II b' (X.take m) ex',A7 bp [.slice (some ⟨wb,wo,none⟩) m ED] 53,old] [A7 bp [.slice (some ⟨wb,wo,none⟩) m ED] 53,old,II b' (X.take m) ex'] []from pK)⟩
  ·obtain rfl:r=1:=I;simp only[Yg]at h3⊢;refine CW.GM J I ?_;rw[show X.take m=X from AX I];refine W ?_;exact BD (nb,cap,ex) ⟨h2,by simpa using h3⟩ (DC (RV.tmp J)) pK
theorem mZ(hX:X.length=m)(hm:1<=m/\m<=1000)(hw:QC old wb wo (bs X)):
 Fn Tryz.prog 169 [.slice (some ⟨bp,0,none⟩) 1 1] [A7 bp [.slice (some ⟨wb,wo,none⟩) m ED] 53,old] (Dv (ι:=Z8) (fun i=>m<=i.2.1/\i.2.2.length=i.2.1-m) (fun i=>.slice (some ⟨i.1,0,none⟩) m i.2.1) (fun i=>[II i.1 X i.2.2,A7 bp [.slice (some ⟨wb,wo,none⟩) m ED] 53,old])):=by
 refine Fn.of Tryz.func169 J J [_] J ?_;refine W ?_;refine DL.B7 J J J pK (aCi hX hm hw) kR (fun _=>aP) (fun _=>kO) ?_;rintro⟨nb,cap,ex⟩ h1;dsimp only at h1⊢;refine W ?_;exact BD (nb,cap,ex) h1 (DC (RV.tmp J)) pK
theorem aEH:HU (DY []) (E3 (DY []) 100000) 93 [] [] [.agg ([iv 2 2]++List.replicate 32 .junk++[iv 7 7,.junk])] [(false,.boo (some true))] []=true:=kR
variable{comp:List CH}
theorem yb{M key:List Int}{u b0:Nat}{es:List OE}{dC:List CH}{dm:Int}(hdm:dm=7)(hO:Sj M D u es b0 comp)(hk:key.length=32)(hd:G9 X dv dC)(Ix:BN X)(Hw:X.length<1048576)(hu:u<1099511627776)(hDl:D.length<1099511627776)(hn:es.length<4294967296):
 Fn Tryz.prog 52 [Au b0,.agg (qL 2 key dm dv).toArray] [comp,dC] (vM M D b0 dC (.tuple #[.agg (bs (Ff D u es (qk 2 key dm X hk)).1).toArray,.int .i64 0]) (Ff D u es (qk 2 key dm X hk)).2.1 (Ff D u es (qk 2 key dm X hk)).2.2):=by
 have SI:=Ee (k:=2) (dm:=dm) (dv:=dv) hk;have h1:=hd.one;have hth:Fn Tryz.prog 65 [Au b0] [comp] (E4 (.bool true) [comp]):=by obtain⟨ds,kb,clk,ls,L,IH,lC,Hv,dH,rfl,hM,_⟩:=hO;refine(Jr (b:=b0) (kb:=kb) (u:=u) (ds:=ds) (ls:=ls) hM).Cd (F:=[DX Gq kb L clk,lC,Hv,dH.flatten]) DI ?_;rintro e' S' ⟨rfl,rfl⟩;exact⟨_,⟨rfl,rfl⟩,by simp⟩
 refine Fn.of Tryz.func52 J J [_,_] J ?_
 (refine W ?_;intro b;refine W ?_;intro b;refine W ?_)
 rename_i q1;obtain⟨q2,hq2⟩:∃q2,q2=b:=⟨_,rfl⟩
 subst hq2;refine DL.BS J J J pK (hth) kR aP kO ?_;refine W ?_;refine DL.LJ tt J J J J J iN SI ?_;refine DL.B7 J J J .nil (IF aEH (vs:=[.agg (qL 2 key dm dv).toArray]) (.cons (.agg (by have:=((Bt.cons (ρ:=[]) (EM.int (ρ:=[]) (k:=.i64) (lo:=.ofNat 2) (hi:=.ofNat 2) (z:=2) Ba Ba) .nil).app (show Bt [] (List.replicate 32 .junk) (bs key)from by have:=MB (ρ:=[]) (BV key);rwa [Aa,hk]at this)).app (.cons (EM.int (k:=.i64) (lo:=.ofNat 7) (hi:=.ofNat 7) (z:=dm) (by rw[hdm];decide) (by rw[hdm];decide)) (.cons (.junk h1) .nil));exact this)) .nil) J) kR (fun _=>aP) (fun _=>kO) ?_
 intro v hv;cases hv;refine W ?_;refine DL.LJ tt J J J J J iN SI ?_;refine W ?_;refine DL.call J J J (F:=[comp,dC]) pK (MR (k:=2) (dm:=dm) (cv:=.func (.func 95) #[] #[Au q1]) hO hk hd Ix Hw hu hDl hn) kR (fun ch S1 hc=>by obtain⟨_,hc,_⟩:=hc;cases hc) ?_;rintro v S1 ⟨c',hv,rfl,Sr⟩;cases hv;refine⟨kO,?_⟩;simp only[AQ,AS,Dc];have ha:(Ff D u es (qk 2 key dm X hk)).1.length=32:=by obtain⟨ds,kb,clk,ls,L,IH,lC,Hv,dH,rfl,hM,hdr,_,_,_,hes⟩:=hO;exact IC hdr.1 (fun e he=>(hes e he).1)
 refine DL.Bj tt J J J J uP (by rw[Aa,ha]) (BV _) HS kO ?_;refine W ?_;refine⟨_,[c',dC],_,Fb (RV.D8 tt J J J (In.mem iN) (by rw[Aa,ha])) (RV.tmp J),pK,c',rfl,rfl,Sr⟩
end
end
end Go.Proofs.YtfekkjbdcdnhlaaGreatDoor.Sep
