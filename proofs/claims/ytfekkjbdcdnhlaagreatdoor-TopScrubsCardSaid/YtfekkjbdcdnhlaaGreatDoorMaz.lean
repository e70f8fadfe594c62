/- Lemmas for TopScrubs. No condition but those that each states. -/
import Derived.Test.YtfekkjbdcdnhlaaGreatDoorMav
import Derived.Test.YtfekkjbdcdnhlaaGreatDoorMax
import Derived.Test.YtfekkjbdcdnhlaaGreatDoorMay
set_option linter.all false
set_option maxHeartbeats 8000000
set_option maxRecDepth 100000
namespace Go.Proofs.YtfekkjbdcdnhlaaGreatDoor.Sep
noncomputable section
def OQ(E:GI)(ih:Ih)(f:Nat)(chk:List (Int×AV)->Bool):Bool:=match B7 E ih f [] (EC [])with
 |some rs=>rs.all fun r=>match r with
  | .val (.mp k) s=>(match s.hp.get k with|some (.map L)=>chk L|_=>false)
  |_=>false
 |none=>false
theorem Ti{P:Program}{E:GI}(hE:En P (fun _ _ _ _=>True) E){ih:Ih}(hih:GK P (fun _ _ _ _=>True) ih){f:Nat}{chk:List (Int×AV)->Bool}(h:OQ E ih f chk=true):
 Fn P f [] [] (fun e S'=>∃b L L' clk ρ,e=.returned (.map (some b))/\S'=[DX (Value.int .i64) b L' clk]/\chk L=true/\L'.map (·.1)=L.map (·.1)/\Bt ρ (L.map (·.2)) (L'.map (·.2.1))):=by
 unfold OQ at h;split at h
 ·rename_i rs hcall;rw[AY]at h;let p0:Pt:=⟨[],EC [],[],[],[],fun _=>[]⟩
  have hp0:p0.good (fun _ _ _ _=>True):=⟨fun s a hs=>by simp[p0,EC,C7.FC]at hs,⟨rfl,Do,fun k hk=>by simp[p0]at hk,EI _,fun k ab hk=>by simp[p0,EC,Gf,C7.FC]at hk⟩,by simp[p0,EC]⟩
  have hf:=(FD hE hih hp0 hcall).2 [] .nil;intro A U w hs;refine(hf A U w hs).mono ?_;rintro e w' ⟨h0,S',hs1,hr⟩;refine⟨h0,?_⟩;rcases hr with⟨a,s,hm,q,v,e1,_,rfl,hto,hgood,hcon,rfl⟩|⟨a,s,hm,_⟩
  ·have h1:=h _ hm;split at h1
   ·rename_i k s' heq;cases heq;split at h1
    ·rename_i L hg;obtain⟨hl,hc⟩:=hgood.mem (k:=k) (ab:=.map L) (by rw[e1];exact hg);generalize hC:q.C k=ck at hc;cases hcon with| @mp _ b0 c0 hρ=>
     cases hc with| @map clk b c L0 L' IJ hk2 hcl=>
     rw[hρ]at IJ;cases IJ;have hS:=hgood.H.pick hl;rw[hC]at hS;have h5:=hs1.perm (hS.append_right U);refine⟨[DX (Value.int .i64) b0 L' clk],?_,b0,L,L',clk,q.ρ,rfl,rfl,h1,hk2,hcl⟩;have h6:Ds A w' (((q.live.erase k).map q.C)++([DX (Value.int .i64) b0 L' clk]++U)):=h5.perm (by simp only[AQ,AS];exact CY.symm)
     exact h6.drops
    ·cases h1
   ·cases h1
  ·have h1:=h _ hm;simp at h1
 ·cases h
def ZP(L:List (Int×AV)):Bool:=L.all fun p=>match p.2 with| .agg [.val (.string _),.val (.string _)]=>true|_=>false
theorem o7:OQ (DY []) (E3 (DY []) 100000) 35 ZP=true:=kR
theorem WL{ρ:Nm}:∀{L:List (Int×AV)} {L':List (Int×Value×Nat)},ZP L=true->L'.map (·.1)=L.map (·.1)->Bt ρ (L.map (·.2)) (L'.map (·.2.1))->∀(a:Int) (v:Value),E9 L' a=some v->∃s t:ByteArray,v=.agg #[.string s,.string t]
 |[],[],_,_,_,a,v,h=>by simp[E9]at h
 |[],_::_,_,h1,_,a,v,h=>by simp at h1
 |_::_,[],_,h1,_,a,v,h=>by simp at h1
 |x::L,(y1,y2,y3)::L',hs,h1,h2,a,v,h=>by
  simp only[ZP,List.all_cons,AI]at hs;simp only[Ap,D1]at h1 h2;cases h2 with|cons g1 g2=>
  simp only[E9]at h;by_cases e:a=y1
  ·rw[BE e]at h;cases h;have hx:=hs.1;split at hx
   ·rename_i s t he;rw[he]at g1;cases g1 with|agg g1=>
    cases g1 with|cons k1 g1=>cases g1 with|cons k2 g1=>
    cases g1;cases k1;cases k2;exact⟨s,t,rfl⟩
   ·cases hx
  ·rw[Ah e]at h;exact WL (by simpa[ZP]using hs.2) h1.2 g2 a v h
abbrev Hg(op dd aa bb im:Int):List Value:=[.int .i64 op,.int .i64 dd,.int .i64 aa,.int .i64 bb,.int .i64 im]
theorem f62{op dd aa bb im:Int}:Fn Tryz.prog 62 [.agg (Hg op dd aa bb im).toArray] [] (Dv (ι:=Bool) (fun r=>r=true->(0<=dd/\dd<=7)/\(0<=aa/\aa<=7)/\(0<=bb/\bb<=7)) (fun r=>.bool r) (fun _=>[])):=by
 have hE:=DU (RS:=fun _ _ _ _=>True) (l:=[]) trivial;refine Fn.of Tryz.func62 J J [_] J ?_
 (refine W ?_;intro b;refine W ?_)
 obtain⟨q1,hq1⟩:∃q1,q1=b:=⟨_,rfl⟩
 subst hq1;refine CW.dg (id:=1) [0,2,3,1] [4,5,6] [A7 q1 (Hg op dd aa bb im) 116] mixed hz kR pK nD nD ?_;skip
 refine DL.GG tt J J J J J iN J ?_;refine W ?_;refine DL.call J J J .nil (Ti hE (FG hE 100000) o7) kR (fun ch S1 hc=>by obtain⟨_,_,_,_,_,hc,_⟩:=hc;cases hc) ?_;rintro v S1 ⟨mb,L,L',clk,ρ,hv,rfl,h1,h2,h3⟩;cases hv;refine⟨(by simp only[AQ,AS];exact Du pK),?_⟩;simp only[AQ,AS,Dc];refine W ?_;refine Yr (K2:=[A7 q1 (Hg op dd aa bb im) 116,DX (Value.int .i64) mb L' clk]) (U:=[DX (Value.int .i64) mb L' clk]) (.refl _) pK ?_;refine DL.look (a:=op) (L:=L') (clk:=clk) (IA tt (kt:=114) J) tt hz J J J J J J J (by(try simp only[B0]);(repeat(first|with_reducible exact In.here|with_reducible refine In.there ?_))) ?_;obtain⟨s,t,hst⟩:∃s t:ByteArray,(E9 L' op).getD (.agg [.string .empty,.string .empty].toArray)=.agg #[.string s,.string t]:=by
  cases hg:E9 L' op with
  |none=>exact⟨_,_,rfl⟩
  |some v=>obtain⟨s,t,rfl⟩:=WL h1 h2 h3 op v hg;exact⟨s,t,rfl⟩
 refine DL.B7 J (by rfl) (show FP _ _=some [.agg (Hg op dd aa bb im).toArray,_]from rfl) .nil (by rw[hst];exact f60) kR (fun _=>aP) (fun _=>kO) ?_;intro r hr;refine W ?_;exact BD r hr (DC (RV.tmp J)) .nil
theorem f297{w:Int}(hw:0<=w/\w<=18446744073709551615):Fn Tryz.prog 297 [.int .u64 w] [] (Dv (ι:=Int×Int×Int×Int×Int×Int) (fun i=>(-9223372036854775808<=i.1/\i.1<=9223372036854775807)/\(0<=i.2.1/\i.2.1<=7)/\(0<=i.2.2.1/\i.2.2.1<=7)/\(0<=i.2.2.2.1/\i.2.2.2.1<=7)/\(-9223372036854775808<=i.2.2.2.2.1/\i.2.2.2.2.1<=9223372036854775807)/\(0<=i.2.2.2.2.2/\i.2.2.2.2.2<=30)) (fun i=>.tuple #[.agg (Hg i.1 i.2.1 i.2.2.1 i.2.2.2.1 i.2.2.2.2.1).toArray,.int .i64 i.2.2.2.2.2]) (fun _=>[])):=by
 refine Fn.of Tryz.func297 J J [_,_] J ?_
 (refine W ?_;intro b;refine W ?_)
 refine DL.shr 8 J J J J J Ba ?_;refine W ?_;refine DL.shr 16 J J J J J Ba ?_;refine W ?_;refine DL.shr 24 J J J J J Ba ?_;refine W ?_;refine DL.shr 32 J J J J J Ba ?_
 (refine W ?_;intro b)
 obtain⟨q4,hq4⟩:∃q4,q4=b:=⟨_,rfl⟩
 subst hq4;have h1:=wrap_in .i64 (bits BinOp.and IntKind.u64 w 255);have h5: -9223372036854775808<=IntKind.i64.wrap w/2^32/\IntKind.i64.wrap w/2^32<=9223372036854775807:=by have h:=wrap_in .i64 w;rw[Fj,F2]at h;have e:(2:Int)^32=4294967296:=Ba;rw[e];simp only[Vk,XU]at h;omega
 generalize IntKind.i64.wrap w/2^32=im at h5⊢;generalize IntKind.i64.wrap (bits BinOp.and IntKind.u64 w 255)=op at h1⊢;generalize IntKind.i64.wrap (bits BinOp.and IntKind.u64 (w/2^8) 255)=dd;generalize IntKind.i64.wrap (bits BinOp.and IntKind.u64 (w/2^16) 255)=aa;generalize IntKind.i64.wrap (bits BinOp.and IntKind.u64 (w/2^24) 255)=bb;refine DL.Bj tt J J J J uP J aL J kO ?_;refine W ?_;refine DL.LJ tt J J J J J iN J ?_;refine DL.B7 J J J .nil f62 kR (fun _=>aP) (fun _=>kO) ?_;intro r hr;refine W ?_;cases r with
 |false=>refine W ?_;refine DL.Bj tt J J J J uP J aL J kO ?_;refine W ?_;exact BD (0,0,0,0,0,4) Ba (Fb (RV.D8 tt J J J (In.mem iN) J) (RV.tmp J)) .nil
 |true=>obtain⟨r1,r2,r3⟩:=hr J;refine W ?_;refine DL.LJ tt J J J J J iN J ?_;refine DL.Bj tt J J J J uP J aL J kO ?_;refine W ?_;exact BD (op,dd,aa,bb,im,0) ⟨by rw[Fj,F2]at h1;simpa only[Vk,XU]using h1,r1,r2,r3,h5,(show(0:Int)<=0 by decide),(show(0:Int)<=30 by decide)⟩ (Fb (RV.D8 tt J J J (In.mem iN) J) (RV.tmp J)) .nil
noncomputable def PK:Nat->List (Nat×F5):=fun R=>(65,K4 2 2 0 [.Au 2 0] (.boo (some true)) R)::(94,ol R)::(309,wF R)::(42,wE R)::(134,pgC)::(315,grC)::iG R
def iY:=nG PK 188 Eb [2,3] [oP,iv 0 127] [(false,.Ec [HW,EB])] 1
theorem ar:Sm PK iY:=.g .refl
def iZ:=nG iY 189 Eb [2,3] [oP,CB,HW,HW] [(false,.Ec [HW,EB])] 1
theorem au:Sm PK iZ:=.g ar
def ia:=nG iZ 121 Eb [2,3,0] [mP,Bw] [(false,.boo none)] 0
theorem ay:Sm PK ia:=.g au
def ic:=nG ia 289 Eb [2,3,0] [mP,Bw,CB] [(false,HW)] 0
theorem az:Sm PK ic:=.g ay
def ig:=nG ic 187 Eb [2,3,0] [oP,mP,Bw,CB] [(false,EB)] 2
theorem bA:Sm PK ig:=.g az
def ii:=nG ig 219 Eb [2,3,0] [mP,Bw,CB] [(false,.Ec [HW,EB])] 0
theorem bB:Sm PK ii:=.g bA
def ij:=nG ii 290 Eb [2,3,0] [oP,mP,Bw,HW,iv 0 127,HW] [(false,.Ec [.boo none,EB])] 20
theorem bC:Sm PK ij:=.g bB
def ik:=nG ij 293 Eb [2,3,0] [oP,mP,Bw,iv 0 127,HW] [(false,.Ec [HW,EB])] 20
theorem bD:Sm PK ik:=.g bC
def il:=nG ik 221 Eb [2,3] [oP,iv 0 127] [(false,.Ec [HW,EB])] 4
theorem bE:Sm PK il:=.g bD
def ir:=nG il 243 Eb [2,3] [oP,HW,iv 0 127,Bw,XA] [(false,.Ec [XA,EB])] 20
theorem bF:Sm PK ir:=.g bE
def iu:=nG ir 244 Eb [2,3] [oP,iv 0 127,Bw,XA] [(false,.Ec [HW,EB])] 20
theorem bG:Sm PK iu:=.g bF
abbrev wQ:List AV:=[CB,CB,CB,CB,CB]
abbrev kA:List AV:=[CB,iv 0 7,iv 0 7,iv 0 7,CB]
def wR:F5:=fun args s=>match args with
 |[a]=>bif P3 a (.agg wQ)then some [.val (.boo none) s]else none
 |_=>none
variable{RS:EA}
theorem aC4:ET Tryz.prog RS 62 wR:=by
 intro args s rs hc p hst hp vs hvs;subst hst;unfold wR at hc;split at hc
 ·rename_i a;cases hle:P3 a (.agg wQ)<;>rw[hle]at hc<;>simp only[AN,AO,reduceCtorEq,AH]at hc;subst hc;cases hvs with|cons k0 hvs=>
  cases hvs;have k1:=IW k0 hle;clear k0;rename_i v;obtain⟨l,rfl,k2⟩:∃l:List Value,v=Value.agg l.toArray/\Bt p.ρ wQ l:=by cases k1 with| @agg _ l k=>exact⟨l,rfl,k⟩
  clear k1;cases k2 with|cons g0 h1=>cases h1 with|cons g1 h1=>cases h1 with|cons g2 h1=>cases h1 with|cons g3 h1=>cases h1 with|cons g4 h1=>
  cases h1;cases g0 with| @int _ _ _ x0 a0 b0=>
  cases g1 with| @int _ _ _ x1 a1 b1=>
  cases g2 with| @int _ _ _ x2 a2 b2=>
  cases g3 with| @int _ _ _ x3 a3 b3=>
  cases g4 with| @int _ _ _ x4 a4 b4=>
  intro A U w hs;refine(f62 (op:=x0) (dd:=x1) (aa:=x2) (bb:=x3) (im:=x4) A (p.S++U) w (by simpa using hs)).mono ?_;rintro e w' ⟨h0,S',hs1,r,_,rfl,rfl⟩;exact⟨h0,p.S,by simpa using hs1,.inl ⟨_,_,AP.2 J,p,_,rfl,rfl,rfl,.refl p,hp,.Jh,rfl⟩⟩
 ·cases hc
def wS:F5:=fun args s=>match args with
 |[a]=>bif P3 a Bw then some [.val (.Ec [.agg kA,EB]) s]else none
 |_=>none
theorem aBd:ET Tryz.prog RS 297 wS:=by
 intro args s rs hc p hst hp vs hvs;subst hst;unfold wS at hc;split at hc
 ·rename_i a;cases hle:P3 a Bw<;>rw[hle]at hc<;>simp only[AN,AO,reduceCtorEq,AH]at hc;subst hc;cases hvs with|cons k0 hvs=>
  cases hvs;have k1:=IW k0 hle;clear k0;cases k1 with| @int _ _ _ x0 a0 b0=>
  intro A U w hs;refine(f297 (w:=x0) ⟨a0,b0⟩ A (p.S++U) w (by simpa using hs)).mono ?_;rintro e w' ⟨h0,S',hs1,⟨i0,i1,i2,i3,i4,er⟩,⟨⟨c0,c0'⟩,⟨c1,c1'⟩,⟨c2,c2'⟩,⟨c3,c3'⟩,⟨c4,c4'⟩,c5⟩,rfl,rfl⟩;exact⟨h0,p.S,by simpa using hs1,.inl ⟨_,_,AP.2 J,p,_,rfl,rfl,rfl,.refl p,hp,.Ec (.cons (.agg (.cons (.int c0 c0') (.cons (.int c1 c1') (.cons (.int c2 c2') (.cons (.int c3 c3') (.cons (.int c4 c4') .nil)))))) (.cons (Fa c5) .nil)),rfl⟩⟩
 ·cases hc
theorem aDv:HU (DY []) (E3 (DY []) 100000) 93 [] [] [.agg ([iv 0 0]++List.replicate 32 .junk++[iv 0 0,.junk])] [(false,.boo (some false))] []=true:=kR
theorem aBE{b0:Nat}{comp:List CH}(hth:Fn Tryz.prog 65 [Au b0] [comp] (E4 (.bool true) [comp])):Fn Tryz.prog 52 [Au b0,.agg (qL 0 (BQ 32) 0 (.slice none 0 0)).toArray] [comp] (E4 (.tuple #[.agg (bs (BQ 32)).toArray,.int .i64 2]) [comp]):=by
 have hk:(BQ 32).length=32:=Bn _;have SI:=Ee (k:=0) (dm:=0) (dv:=.slice none 0 0) hk;refine Fn.of Tryz.func52 J J [_,_] J ?_
 (refine W ?_;intro b;refine W ?_;intro b;refine W ?_)
 rename_i q1;obtain⟨q2,hq2⟩:∃q2,q2=b:=⟨_,rfl⟩
 subst hq2;refine DL.BS J J J pK (hth) kR aP kO ?_;refine W ?_;refine DL.LJ tt J J J J J iN SI ?_;refine DL.B7 J J J .nil (IF aDv (vs:=[.agg (qL 0 (BQ 32) 0 (.slice none 0 0)).toArray]) (.cons (.agg (by have:=((Bt.cons (ρ:=[]) (EM.int (ρ:=[]) (k:=.i64) (lo:=.ofNat 0) (hi:=.ofNat 0) (z:=0) Ba Ba) .nil).app (show Bt [] (List.replicate 32 .junk) (bs (BQ 32))from by have:=MB (ρ:=[]) (BV (BQ 32));rwa [Aa,hk]at this)).app (.cons (EM.int (k:=.i64) (lo:=.ofNat 0) (hi:=.ofNat 0) (z:=0) Ba Ba) (.cons (EM.junk (v:=.slice none 0 0) J) .nil));exact this)) .nil) J) kR (fun _=>aP) (fun _=>kO) ?_
 intro v hv;cases hv;refine W ?_;refine DL.Bj tt J J J J uP (by rw[Aa];rfl) (BV _) HS kO ?_;exact W trivial
theorem Zo(c:UInt8):∀l:List UInt8,decide (0<=Lib.indexByte l c)=l.any fun x=>Nat.beq x.toNat c.toNat
 |[]=>rfl
 |b::l=>by
  have ih:=Zo c l;have hge:=Lib.indexByte_ge l c;rw[List.any_cons,<-ih];have hdef:Lib.indexByte (b::l) c=if b==c then 0 else if Lib.indexByte l c== -1 then-1 else Lib.indexByte l c+1:=rfl
  rw[hdef];by_cases h:b=c
  ·subst h;simp
  ·have h1:(b==c)=false:=by simp[h]
   have h2:Nat.beq b.toNat c.toNat=false:=by
    cases hb:Nat.beq b.toNat c.toNat with
    |false=>rfl
    |true=>exact absurd (UInt8.toNat_inj.1 (AK hb)) h
   rw[h1,h2];simp only[Ce,Cc,Bool.false_or];by_cases h3:Lib.indexByte l c= -1
   ·simp[h3]
   ·have h4:(Lib.indexByte l c== -1)=false:=by simp[h3]
    rw[h4];simp only[Ce,Cc];have h5:0<=Lib.indexByte l c:=I;rw[Bq h5,Bq (show 0<=Lib.indexByte l c+1 by omega)]
theorem s6:ET Tryz.prog RS 110 qA:=by
 intro args s rs hc p hst hp vs hvs;subst hst;unfold qA at hc;split at hc
 ·rename_i a b;split at hc
  ·rename_i c hb;cases hc;cases hvs with|cons h1 hvs=>cases hvs with|cons h2 hvs=>
   cases hvs;cases h1;cases h2;have e:b=⟨#[c]⟩:=by
    obtain⟨d⟩:=b;congr 1
    exact Bl.1 hb
   subst e;refine(f110 (s:=a) (c:=c)).Cd (F:=p.S) DI ?_;rintro e S' ⟨rfl,rfl⟩;refine⟨p.S,.inl ⟨_,_,AP.2 J,p,_,rfl,rfl,rfl,.refl p,hp,?_,rfl⟩,by simp⟩;rw[Zo];exact .boo
  ·cases hc
 ·cases hc
end
end Go.Proofs.YtfekkjbdcdnhlaaGreatDoor.Sep
