/- Lemmas for TopScrubs. No condition but those that each states. -/
import Derived.Test.YtfekkjbdcdnhlaaGreatDoorMao
import Derived.Test.YtfekkjbdcdnhlaaGreatDoorMaj
set_option linter.all false
set_option maxHeartbeats 8000000
set_option maxRecDepth 100000
namespace Go.Proofs.YtfekkjbdcdnhlaaGreatDoor.Sep
noncomputable section
noncomputable def NA:Nat->List (Nat×F5):=fun _=>ct1
abbrev Xz:AV:=.agg [CB,CB]
abbrev b8A:AV:=.agg (List.replicate 8 OF)
abbrev rk:AV:=.agg [iv 0 3,CB,iv 0 3,CB,CB]
abbrev WE:AV:=.Ec []
def gm:=nC NA 284 [Xz] [(false,.boo none)]
theorem aQ:Sm NA gm:=.c .refl
def gn:=nC gm 285 [Xz] [(false,.Ec [b8A,EB])]
theorem aR:Sm NA gn:=.c aQ
def gp:=nC gn 280 [b8A] [(false,.Ec [Xz,EB])]
theorem aS:Sm NA gp:=.c aR
def gq:=nC gp 294 [Xz,iv 3 3] [(false,.boo none)]
theorem aT:Sm NA gq:=.c aS
def gu:=nG gq 200 Eb [2,3,0,1] [xP] [(false,.boo none)] 0
theorem aU:Sm NA gu:=.g aT
def gv:=nG gu 201 Eb [2,3,1] [xP,CB] [(false,.boo none)] 0
theorem aV:Sm NA gv:=.g aU
def gw:=nG gv 202 Eb [2,3,0] [xP,CB,iv 0 3] [(false,Xz)] 0
theorem aW:Sm NA gw:=.g aV [2]
def gx:=nG gw 206 Eb [2,3,0] [xP,CB,iv 0 3,Xz] [(false,WE)] 0
theorem aX:Sm NA gx:=.g aW [2]
def gy:=nC gx 281 [CB,iv 0 3] [(false,iv 0 3)]
theorem aY:Sm NA gy:=.c aX [1]
def iC:=nG gy 204 Eb [2,3,0,1] [xP,CB,CB,iv 0 3] [(false,rk)] 0
theorem aZ:Sm NA iC:=.g aY [3]
def iD:=nG iC 159 Eb [2,3,0,1] [xP,CB,CB] [(false,.Ec [rk,EB])] 0
theorem ae:Sm NA iD:=.g aZ
def iE:=nG iD 223 Eb [2,3,0,1] [xP,CB,CB,Xz] [(false,EB)] 0
theorem ag:Sm NA iE:=.g ae
def iF:=nG iE 136 Eb [2,3,0,1] [xP,CB,Bw,CB,CB,iv 1 3] [(false,EB)] 0
theorem ah:Sm NA iF:=.g ag [5]
def iG:=nG iF 138 Eb [2,3,0,1] [xP,CB,CB,iv 1 3] [(false,.Ec [CB,EB])] 0
theorem ai:Sm NA iG:=.g ah [3]
abbrev Nj(c:Int):Value:=.iface 144 (.agg [.int .i64 c].toArray)
def ot(v:Value)(F:A2):Ending->A2->Prop:=fun e S'=>e=.panicked [{v:=v,recovered:=false}]/\S'=F
theorem Nk{c:Int}:Fn Tryz.prog 46 [.bool true,.int .i64 c] [] (E4 (.tuple #[]) []):=by refine Fn.of Tryz.func46 J J [] J ?_;exact wW trivial
theorem K7{c:Int}:Fn Tryz.prog 46 [.bool false,.int .i64 c] [] (ot (Nj c) []):=by refine Fn.of Tryz.func46 J J [] J ?_;refine wW ?_;refine DL.panic J J ?_;exact⟨[],[],.nil,rfl,rfl⟩
variable{x a b:Int}
theorem ou(h:0<=a/\a<=b/\b<=1048576)(hx:0<=x/\x<=18446744073709551615)(h1:a<=x)(h2:x<b):Fn Tryz.prog 134 [.int .u64 x,.int .i64 a,.int .i64 b] [] (E4 (.int .i64 x) []):=by refine Fn.of Tryz.func134 J J [_] J ?_;refine wW ?_;refine DL.BS J J J .nil (Nk (c:=1)) kR .nil D9 ?_;exact wW trivial
theorem iH(h:0<=a/\a<=b/\b<=1048576)(hx:0<=x/\x<=18446744073709551615)(h1:x<a\/b<=x):Fn Tryz.prog 134 [.int .u64 x,.int .i64 a,.int .i64 b] [] (ot (Nj 1) []):=by
 refine Fn.of Tryz.func134 J J [_] J ?_;by_cases hxa:x<a
 ·refine wW ?_;refine DL.call J J J .nil (K7 (c:=1)) kR ?_ (fun v S1 hr=>by cases hr.1);rintro ch S1 ⟨hc,rfl⟩;cases hc;exact⟨[],[],.nil,rfl,rfl⟩
 ·refine wW ?_;refine DL.call J J J .nil (K7 (c:=1)) kR ?_ (fun v S1 hr=>by cases hr.1);rintro ch S1 ⟨hc,rfl⟩;cases hc;exact⟨[],[],.nil,rfl,rfl⟩
abbrev aCP(c:Nat):AV:=.LU 144 (.agg [.int .i64 (.ofNat c) (.ofNat c)])
def pgC:F5:=fun args s=>match args with
 |[x,.int .i64 (.ofNat a) (.ofNat a'),.int .i64 (.ofNat b) (.ofNat b')]=>bif P3 x Bw&&Nat.beq a a'&&Nat.beq b b'&&Nat.ble a b&&Nat.ble b 1048576 then some [.val (.int .i64 (.ofNat a) (aB (.ofNat b) 1)) s,.Eu (aCP 1) s]else none
 |_=>none
variable{RS:EA}
theorem aAE:ET Tryz.prog RS 134 pgC:=by
 intro args s rs hc p hst hp vs hvs;subst hst;unfold pgC at hc;split at hc
 ·rename_i x a a' b b';cases hcond:P3 x Bw&&Nat.beq a a'&&Nat.beq b b'&&Nat.ble a b&&Nat.ble b 1048576<;>rw[hcond]at hc<;>simp only[AN,AO,reduceCtorEq,AH]at hc;subst hc;simp only[AI]at hcond;obtain⟨⟨⟨⟨h1,h2⟩,h3⟩,h4⟩,h5⟩:=hcond;obtain rfl:=AK h2;obtain rfl:=AK h3;have h4:=AL h4;have h5:=AL h5;cases hvs with|cons k1 hvs=>cases hvs with|cons k2 hvs=>cases hvs with|cons k3 hvs=>
  cases hvs;have k1:=IW k1 h1;cases k1 with| @int _ _ _ z q1 q2=>
  cases k2 with| @int _ _ _ za q3 q4=>
  cases k3 with| @int _ _ _ zb q5 q6=>
  have hz:=JX ⟨q1,q2⟩;have q3:(a:Int)<=za:=q3;have q4:za<=(a:Int):=q4;have q5:(b:Int)<=zb:=q5;have q6:zb<=(b:Int):=q6;intro A U w hs;have hs':Ds A w ([]++(p.S++U)):=by simpa using hs
  by_cases hin:za<=z/\z<zb
  ·refine(ou (x:=z) (a:=za) (b:=zb) ⟨I,I,I⟩ hz hin.1 hin.2 A _ w hs').mono ?_;rintro e w' ⟨h0,S',h6,rfl,rfl⟩;refine⟨h0,p.S,by simpa using h6,.inl ⟨_,_,BH,p,_,rfl,rfl,rfl,.refl p,hp,.int ?_ ?_,rfl⟩⟩
   ·show(a:Int)<=z;omega
   ·rw[UO];show z<=(b:Int)-1;omega
  ·refine(iH (x:=z) (a:=za) (b:=zb) ⟨I,I,I⟩ hz I A _ w hs').mono ?_;rintro e w' ⟨h0,S',h6,rfl,rfl⟩;exact⟨h0,p.S,by simpa using h6,.inr ⟨_,_,Aw _ BH,p,_,rfl,rfl,rfl,.refl p,hp,.LU (.agg (.cons (.int Ba Ba) .nil)),rfl⟩⟩
 ·cases hc
def grC:F5:=fun args s=>match args with
 |[.val (.slice none 0 0),.int .i64 (.ofNat a) (.ofNat a')]=>bif Nat.beq a a'&&Nat.ble a 1048576&&s.room then(bif Nat.beq a 0 then some [.val (.val (.slice none 0 0)) s]else some [.val (.G3 s.nx 0) (s.new (.grown [] 5 1))])else none
 |_=>none
theorem ZJ:ET Tryz.prog RS 315 grC:=by
 intro args s rs hc p hst hp vs hvs;subst hst;unfold grC at hc;split at hc
 ·rename_i a a';cases hcond:Nat.beq a a'&&Nat.ble a 1048576&&p.st.room<;>rw[hcond]at hc<;>simp only[AN,AO,reduceCtorEq]at hc;simp only[AI]at hcond;obtain⟨⟨h2,h5⟩,hroom⟩:=hcond;obtain rfl:=AK h2;have h5:=AL h5;cases hvs with|cons k1 hvs=>cases hvs with|cons k2 hvs=>
  cases hvs;cases k1;cases k2 with| @int _ _ _ z q1 q2=>
  have q1:(a:Int)<=z:=q1;have q2:z<=(a:Int):=q2;obtain rfl:z=(a:Int):=I;intro A U w hs;have hs':Ds A w ([]++(p.S++U)):=by simpa using hs
  cases ha:Nat.beq a 0 with
  |true=>rw[ha]at hc;simp only[AN,AH]at hc;subst hc;obtain rfl:=AK ha;refine(zg A _ w hs').mono ?_;rintro e w' ⟨h0,S',h6,rfl,rfl⟩;exact⟨h0,p.S,by simpa using h6,.inl ⟨_,_,BH,p,_,rfl,rfl,rfl,.refl p,hp,.val,rfl⟩⟩
  |false=>
   rw[ha]at hc;simp only[AO,AH]at hc;subst hc;have ha:=Nat.ne_of_beq_eq_false ha;refine(grow (m:=a) I h5 A _ w hs').mono ?_;rintro e w' ⟨h0,S',h6,⟨b,cap,cs⟩,⟨j1,j2⟩,rfl,rfl⟩;dsimp only at j1 j2 h6⊢;have hcon:Da RS (p.ρ++[(b,cap)]) p.st.nx (.grown [] 5 1) (A7 b cs 5):=by have:=Da.grown (RS:=RS) (t:=5) (CU:=1) (vs:=[]) (ex:=cs) (Pt.EZ hp (b,cap)) .nil (by simpa using j2);simpa using this
   exact⟨h0,A7 b cs 5::p.S,by simpa using h6,.inl ⟨_,_,BH,p.new (b,cap) (.grown [] 5 1) (A7 b cs 5),_,rfl,rfl,rfl,.new hp _ _ _,hp.new hroom _ hcon,.G3 (Pt.EZ hp _) (Cj _),rfl⟩⟩
 ·cases hc
theorem K9(n:Nat)(args:List Value)(ds:List Deferred):Ep n {tmps:=args.toArray++Array.replicate (n-args.toArray.size) undef,defers:=ds} (Jl 0 args):=by refine⟨by simp;omega,fun t v hv=> ?_⟩;obtain⟨_,h2⟩:=Qf args 0 t v hv;simp only[Df]at h2;have hlt:=(Ae.1 h2).1;rw[Array.getElem?_append_left (by simpa using hlt)];simpa using h2
variable{A:Om}{R:A2}{w:World}{fr:Fr}{S:A2}
theorem WJ{P:Program}{n:Nat}{c:Code}{Q:EX}{QW:Exit->Act->World->Prop}{a:Act}(hd:VT A c a)(hk:Ep n a fr)(hs:Ds A w (S++R))(h:CW P n c Q fr S)(k:∀e a' w',HY n A R Q e a' w'->QW e a' w'):c.wp P QW a w:=wp_mono (h A R a w hd hk hs) k
abbrev Ri(c a b d e x:Int)(ok:Bool)(j:Int):List Value:=[.int .i64 c,.int .u64 a,.int .u64 b,.int .u64 d,.int .u64 e,.int .u64 x,.bool ok,.int .u64 j]
variable{ob:Nat}
theorem iR(hs:Ds A w R):CallsD Tryz.prog 45 #[Au ob] .returning w fun e u' w'=>(∃v,e=.returned v)/\u'=.returning/\Ds A w' R:=by
 refine callsD_of_wpS Tryz.func45 J fun c₀ cs hu=> ?_
 refine wpS_seq (wpS_region ?_);simp only[List.size_toArray,Bz,List.length_nil,List.range_succ_eq_map,List.range_zero,CP];rw[wpOpsS];simp only[Dx,Ci,Region.wanted,C9];have hr:∀(ps:String) (ρ:Operand->Value),(execOp ρ ⟨some 4,.call ⟨.builtin .recover,#[],#[]⟩,20,ps,#[],none⟩).run Tryz.prog w=.ok .recover w:=fun _ _=>rfl
 rw[hr];have hrec:recoverD (c₀::cs)=none:=by simp[recoverD,hu]
 simp only[hrec];rw[wpOpsS];refine wpS_of_wp ?_;refine WJ (n:=13) (A:={A with inv:=fun a=>a.defers=[]}) (R:=R) (S:=[]) (Q:=⟨fun e _ S=>e=.normal/\S=[],fun _ _=>False⟩) (OO J J) ((K9 13 [Au ob] []).put Ba .nilIface) (hs.tQ _) ?_ ?_
 ·refine CW.block (id:=0) ?_;refine CW.seq ?_;refine CW.rg J yv ?_;refine DL.Ia (.inr J) J J Ba (fun A R a w hk hs=>vq a w (hk.eval J)) ?_;refine W ?_;exact⟨rfl,rfl⟩
 ·rintro e a' w' ⟨hd,hh⟩;cases e with
  |normal=>obtain⟨fr',S',hk,hs',_,rfl⟩:=hh;refine⟨hd,.returning,?_,.tuple #[],res0 _ R a' w' Tryz.f45 J hk hs',⟨_,rfl⟩,rfl,hs'.On⟩;rw[<-hu]
  |panic ch=>obtain⟨_,_,hq⟩:=hh;exact hq.elim
  |exit id=>obtain⟨_,_,_,_,hq,_⟩:=hh;cases hq
  |goto l=>obtain⟨_,_,_,_,hq,_⟩:=hh;cases hq
  |ret=>obtain⟨_,_,_,_,hq,_⟩:=hh;cases hq
  |outgrown=>obtain⟨_,_,_,_,hq,_⟩:=hh;cases hq
theorem iT{c:Int}{cs:List Value}(hl:cs.length=8)(hs:Ds A w ([A7 ob cs 46]++R)):CallsD Tryz.prog 45 #[Au ob] (.panicking [{v:=Nj c,recovered:=false}]) w fun e u' w'=>(∃v,e=.returned v)/\u'=.panicking [{v:=Nj c,recovered:=true}]/\Ds A w' ([A7 ob (Ri c 0 0 0 0 0 false 0) 46]++R):=by
 refine callsD_of_wpS Tryz.func45 J fun c₀ cs hu=> ?_
 refine wpS_seq (wpS_region ?_);simp only[List.size_toArray,Bz,List.length_nil,List.range_succ_eq_map,List.range_zero,CP];rw[wpOpsS];simp only[Dx,Ci,Region.wanted,C9];have hr:∀(ps:String) (ρ:Operand->Value),(execOp ρ ⟨some 4,.call ⟨.builtin .recover,#[],#[]⟩,20,ps,#[],none⟩).run Tryz.prog w=.ok .recover w:=fun _ _=>rfl
 rw[hr];have hrec:recoverD (c₀::cs)=some (Nj c,{c₀ with mode:=.panicking [{v:=Nj c,recovered:=true}]}::cs):=by simp[recoverD,hu]
 simp only[hrec];rw[wpOpsS];refine wpS_of_wp ?_;refine WJ (n:=13) (A:={A with inv:=fun a=>a.defers=[]}) (R:=R) (S:=[A7 ob _ 46]) (Q:=⟨fun e _ S=>e=.normal/\∃U,DV S [A7 ob (Ri c 0 0 0 0 0 false 0) 46] U,fun _ _=>False⟩) (OO J J) ((K9 13 [Au ob] []).put Ba (Nj c)) (hs.tQ _) ?_ ?_
 ·refine CW.block (id:=0) ?_;refine CW.seq ?_;refine CW.rg J yv ?_;refine DL.Ia (.inr J) J J Ba (fun A R a w hk hs=>aFf a w (hk.eval J)) ?_;refine W ?_;refine DL.Ia (.inr J) J J Ba (fun A R a w hk hs=>vr a w (hk.eval J)) ?_
  (refine W ?_;intro b)
  refine wW ?_;exact⟨rfl,_,pK⟩
 ·rintro e a' w' ⟨hd,hh⟩;cases e with
  |normal=>obtain⟨fr',S',hk,hs',_,U,hp⟩:=hh;exact⟨hd,_,rfl,.tuple #[],res0 _ R a' w' Tryz.f45 J hk hs',⟨_,rfl⟩,rfl,(hs'.picks hp).On⟩
  |panic ch=>obtain⟨_,_,hq⟩:=hh;exact hq.elim
  |exit id=>obtain⟨_,_,_,_,hq,_⟩:=hh;cases hq
  |goto l=>obtain⟨_,_,_,_,hq,_⟩:=hh;cases hq
  |ret=>obtain⟨_,_,_,_,hq,_⟩:=hh;cases hq
  |outgrown=>obtain⟨_,_,_,_,hq,_⟩:=hh;cases hq
abbrev X0(v0 v1 v2 v3 v4:Value)(rb:Nat)(v6 v7 v8 v9:Value):List Value:=[v0,v1,v2,v3,v4,.map (some rb),v6,v7,v8,v9]
variable{mb rb:Nat}{v0 v1 v2 v3 v4 v6 v7 v8 v9:Value}
theorem ZO:Fn Tryz.prog 28 [Au mb] [A7 mb (X0 v0 v1 v2 v3 v4 rb v6 v7 v8 v9) 89] (E4 (.bool true) [A7 mb (X0 v0 v1 v2 v3 v4 rb v6 v7 v8 v9) 89]):=by refine Fn.of Tryz.func28 J J [_] J ?_;exact wW trivial
theorem Hn:∀(A T:A2),DV (A++T) T A
 |A,[]=>by rw[Am];exact .nil
 |A,c::T=>.cons (T:=A++T) (by induction A with|nil=>exact .here|cons x A ih=>exact .there ih) (Hn A T)
theorem ry(w:World):(invoke (.fn (.func 45) [Au ob].toArray) #[]).run Tryz.prog w=.ok (.enter 45 #[Au ob]) w:=by simp only[invoke];rw[KT kR];simp
theorem sA{tmps:Array Value}{ans:List Value}(h4:tmps[4]? =some (Au ob))(hs:Ds A w ((A7 ob ans 46::S)++R))(hl:ans.length=8):(results Tryz.f27 tmps).run Tryz.prog w=.ok (.agg ans.toArray) w:=by
 have hk:Ep 0 {tmps:=tmps,defers:=[]} [(4,Au ob)]:=⟨Cj _,fun t v h=>by
  simp only[lk]at h;cases hq:Nat.beq 4 t with
  |true=>rw[hq]at h;obtain rfl:=AK hq;simp only[AN,AH]at h;subst h;exact h4
  |false=>rw[hq]at h;cases h⟩
 exact(DC (RV.D8 tt (t:=46) J J J BH hl):Oq [(4,Au ob)] (A7 ob ans 46::S) Tryz.prog 0 [.cell 4 46] _) A R _ w Tryz.f27 J hk hs
theorem Nl:∀(S T:A2),DV (S++T) S T
 |[],T=>.nil
 |c::S,T=>.cons .here (Nl S T)
theorem OP{c:List CH}{T U:A2}(h:Gg c T U):∀A:A2,Gg c (A++T) (A++U)
 |[]=>h
 |x::A=>.there (OP h A)
theorem aAP{op a0 a1 a2 a3 a4 a5:Int}{okB:Bool->Prop}{RC R:Ending->A2->Prop}
 (H47:Fn Tryz.prog 47 [.agg [.int .i64 op,.int .u64 a0,.int .u64 a1,.int .u64 a2,.int .u64 a3,.int .u64 a4,.int .u64 a5].toArray] [] (Dv (ι:=Bool) okB (fun b=>.bool b) (fun _=>[])))
 (H48:Fn Tryz.prog 48 [] [] (fun e S'=>∃b L' clk,e=.returned (.map (some b))/\S'=[DX (Value.int .i64) b L' clk]/\∀k:Nat,1<=k->k<=21->E9 L' (k:Int)=some (.func (.func (69+k)) #[] #[])))
 (hop:okB true->∃k:Nat,1<=k/\k<=21/\op=k/\E5 Tryz.prog (69+k)=true/\Fn Tryz.prog (69+k) [Au mb,.agg [.int .u64 a0,.int .u64 a1,.int .u64 a2,.int .u64 a3,.int .u64 a4,.int .u64 a5].toArray] (A7 mb (X0 v0 v1 v2 v3 v4 rb v6 v7 (.int .u64 0) (.slice none 0 0)) 89::S) RC)
 (hF:okB false->R (.returned (.agg (Ri 1 0 0 0 0 0 false 0).toArray)) (A7 mb (X0 v0 v1 v2 v3 v4 rb v6 v7 (.int .u64 0) (.slice none 0 0)) 89::S))
 (hR:∀e S',RC e S'->(∃a b d g,e=.returned (.agg [.int .u64 a,.int .u64 b,.int .u64 d,.int .u64 g].toArray)/\R (.returned (.agg (Ri 0 a b d g 0 false 0).toArray)) S')\/∃c,e=.panicked [{v:=Nj c,recovered:=false}]/\R (.returned (.agg (Ri c 0 0 0 0 0 false 0).toArray)) S'):
 Fn Tryz.prog 27 [Au mb,.agg [.int .i64 op,.int .u64 a0,.int .u64 a1,.int .u64 a2,.int .u64 a3,.int .u64 a4,.int .u64 a5].toArray] (A7 mb (X0 v0 v1 v2 v3 v4 rb v6 v7 v8 v9) 89::S) R:=by
 intro A U w hs;refine Calls.mono (R:=fun e w'=>Ending.within e/\∃S',Ds {A with inv:=fun a=>a.defers=[]} w' (S'++U)/\R e S') ?_ (fun e w' ⟨h0,S',h1,h2⟩=>⟨h0,S',h1.On,h2⟩);refine calls_of_wp_defers Tryz.func27 J ?_;suffices hh:nO Tryz.prog 28 _ (fun A U=>bodyPostD Tryz.prog Tryz.f27 (fun e w'=>Ending.within e/\∃S',Ds A w' (S'++U)/\R e S')) (Jl 0 [Au mb,.agg [.int .i64 op,.int .u64 a0,.int .u64 a1,.int .u64 a2,.int .u64 a3,.int .u64 a4,.int .u64 a5].toArray]) (A7 mb (X0 v0 v1 v2 v3 v4 rb v6 v7 v8 v9) 89::S)from
  hh {A with inv:=fun a=>a.defers=[]} U _ w J J (K9 28 _ []) (hs.tQ _)
 have hQ0:∀A R' e a w,A.inv=(fun a=>a.defers=[])->HY 28 A R' ⟨fun _ _ _=>False,fun _ _=>False⟩ e a w->bodyPostD Tryz.prog Tryz.f27 (fun e w'=>Ending.within e/\∃S',Ds A w' (S'++R')/\R e S') e a w:=by
  rintro A R' e a w _ ⟨_,hh⟩;cases e with
  |panic ch=>obtain⟨_,_,hq⟩:=hh;exact hq.elim
  |_=>obtain⟨_,_,_,_,hq⟩:=hh;exact hq.elim
 refine nO.seq _ hQ0 ?_
 (refine wW ?_;intro b;refine wW ?_;intro b;refine wW ?_)
 rename_i q3;refine nO.seq _ hQ0 ?_;refine CW.seq ?_;refine wW ?_;refine DL.BS J J J (.cons (.there (.there .here)) .nil) ZO kR aP D9 ?_;refine wW ?_;refine nO.seq _ hQ0 ?_;refine wW ?_;let QF:EX:=⟨fun e fr S'=>e=.ret/\∃(ans:List Value) (S1 U1:A2),DV S' (A7 b ans 46::S1) U1/\ans.length=8/\R (.returned (.agg ans.toArray)) S1,fun ch S'=>∃c cs S1 U1,ch=[{v:=Nj c,recovered:=false}]/\DV S' (A7 b cs 46::S1) U1/\cs.length=8/\R (.returned (.agg (Ri c 0 0 0 0 0 false 0).toArray)) S1⟩
 refine nO.defer (Q:=QF) J J (s:=4) J J (aAO (by rfl)) ?_ ?_
 ·rintro A R' e a w ⟨⟨hdf,ht4⟩,hh⟩;cases e with
  |ret=>obtain⟨fr',S',hk,hs',_,ans,S1,U1,hp,hl,hr⟩:=hh;show Leaves Tryz.prog Tryz.f27 a.tmps _ a.defers .returning w;rw[hdf];have hs2:Ds A w ((A7 b ans 46::S1)++R'):=(hs'.picks hp).On;refine leaves_cons DI (ry w) ((iR hs2).mono ?_);rintro e u' w' ⟨⟨v,rfl⟩,rfl,hs3⟩;exact⟨_,sA ht4 hs3 hl,trivial,S1,hs3.drop,hr⟩
  |panic ch=>
   obtain⟨S',hs',c,cs,S1,U1,rfl,hp,hl,hr⟩:=hh;show Leaves Tryz.prog Tryz.f27 a.tmps _ a.defers (.panicking _) w;rw[hdf];have hs2:Ds A w ([A7 b cs 46]++(S1++R')):=by have:=(hs'.picks hp).On;simpa using this
   refine leaves_cons DI (ry w) ((iT hl hs2).mono ?_);rintro e u' w' ⟨⟨v,rfl⟩,rfl,hs3⟩;have hs4:Ds A w' ((A7 b (Ri c 0 0 0 0 0 false 0) 46::S1)++R'):=by simpa using hs3
   exact⟨_,sA ht4 hs4 J,trivial,S1,hs4.drop,hr⟩
  |normal=>obtain⟨_,_,_,_,hq,_⟩:=hh;cases hq
  |exit id=>obtain⟨_,_,_,_,hq,_⟩:=hh;cases hq
  |goto l=>obtain⟨_,_,_,_,hq,_⟩:=hh;cases hq
  |outgrown=>obtain⟨_,_,_,_,hq,_⟩:=hh;cases hq
 refine CW.seq ?_;refine wW ?_;refine DL.B7 J J J .nil H47 kR (fun _=>aP) (fun _=>D9) ?_;intro r hr;cases r with
 |false=>refine DL.call J J J .nil (K7 (c:=1)) kR ?_ (fun v S1 hr=>by cases hr.1);rintro ch S1 ⟨hc,rfl⟩;cases hc;exact⟨1,_,_,_,rfl,.cons (.there .here) (.cons .here (Hn [_] _)),rfl,hF hr⟩
 |true=>
  refine DL.BS J J J .nil (Nk (c:=1)) kR .nil D9 ?_;refine wW ?_;obtain⟨k,hk1,hk2,rfl,hok,hfn⟩:=hop hr;refine CW.dg (id:=6) [1,2,4,5,6,0] [3,7,8,9] [A7 q3 [.int .i64 k,.int .u64 a0,.int .u64 a1,.int .u64 a2,.int .u64 a3,.int .u64 a4,.int .u64 a5] 52] mixed hz kR pK nD nD ?_;refine W ?_;refine DL.HQ tt (cs:=[.int .i64 k,.int .u64 a0,.int .u64 a1,.int .u64 a2,.int .u64 a3,.int .u64 a4,.int .u64 a5]) (vs:=[.int .u64 a0,.int .u64 a1,.int .u64 a2,.int .u64 a3,.int .u64 a4,.int .u64 a5]) J J J J J BH J J ?_;refine DL.call J J J .nil H48 kR (fun ch S1 hc=>by obtain⟨_,_,_,hc,_⟩:=hc;cases hc) ?_;rintro v S1 ⟨mp,L',clk,hv,rfl,hL⟩;cases hv;refine⟨(by simp only[AQ,AS];exact Du pK),?_⟩;simp only[AQ,AS,Dc];refine W ?_;refine Yr (K2:=[A7 q3 [.int .i64 k,.int .u64 a0,.int .u64 a1,.int .u64 a2,.int .u64 a3,.int .u64 a4,.int .u64 a5] 52,DX (Value.int .i64) mp L' clk]) (U:=[DX (Value.int .i64) mp L' clk]) (.refl _) pK ?_;refine DL.look (a:=(k:Int)) (L:=L') (clk:=clk) (IA tt (kt:=49) J) tt hz J J J J J J J (by(try simp only[B0]);(repeat(first|with_reducible exact In.here|with_reducible refine In.there ?_))) ?_;rw[hL k hk1 hk2];refine DL.rM (first:=[]) (cap:=[]) J J J J (.cons (.there .here) (Hn [_,_,_] _)) hfn hok ?_ ?_
  ·intro ch S1 hc;rcases hR _ _ hc with⟨_,_,_,_,he,_⟩|⟨c,he,hr2⟩
   ·cases he
   ·cases he;exact⟨c,_,S1,_,rfl,.cons (OP (.there .here) S1) (Nl S1 _),rfl,hr2⟩
  ·intro v S1 hc;rcases hR _ _ hc with⟨x1,x2,x3,x4,he,hr2⟩|⟨c,he,hr2⟩
   ·cases he;refine⟨Du (.cons (OP (.there (.there .here)) S1) (.cons (OP .here S1) .nil)),?_⟩;refine DL.congr (S:=[_,_,_]++S1) ?_ (Eo.refl _) CC;simp only[AQ,AS,Dc];refine W ?_;refine wW ?_;exact⟨rfl,_,S1,_,.cons (.there .here) (Hn [_,_] _),rfl,hr2⟩
   ·cases he
theorem pE:Tryz.prog.fieldsOf 269= #[{name:= "Kind",type:=234,offset:=0,embedded:=false,tag:= "",pkgPath:= "",byteOffset:=0},{name:= "Granule",type:=3,offset:=1,embedded:=false,tag:= "",pkgPath:= "",byteOffset:=8}]:=kR
theorem jB:Tryz.prog.underlying 269=some (.struct (Tryz.prog.fieldsOf 269)):=kR
theorem wK:Tryz.prog.underlying 322=some (.array 4 269):=kR
theorem jC:Tryz.prog.underlying 234=some (.int .i64):=kR
theorem wL(a b c d:Int)(w:World):(Op.equalIn 9999 269 (.agg #[.int .i64 a,.int .i64 b]) (.agg #[.int .i64 c,.int .i64 d])).run Tryz.prog w=.ok (a==c&&b==d) w:=by
 rw[show(9999:Nat)=9998+1 from rfl,run_equalIn_struct w 9998 269 _ _ jB kR,pE];have p1:∀x y:Int,(part 234 #[.int .i64 x,.int .i64 y] 0).run Tryz.prog w=.ok (.int .i64 x) w:=fun x y=>by simp[part,isAgg,Ac jC]
 have p2:∀x y:Int,(part 3 #[.int .i64 x,.int .i64 y] 1).run Tryz.prog w=.ok (.int .i64 y) w:=fun x y=>by simp[part,isAgg,Ac Tryz.underlying3]
 have h1:=D4 (P:=Tryz.prog) w 9997 234 .i64 .i64 a c jC;have h2:=D4 (P:=Tryz.prog) w 9997 3 .i64 .i64 b d Tryz.underlying3;simp only[Op.eqFields,Sem.run_ite,Ag,p1,p2,Ad,h1,h2,BA];by_cases c1:a=c<;>by_cases c2:b=d<;>simp[c1,c2]
abbrev e8(x0 x1 x2 x3 x4 x5 x6 x7:Int):List Value:=[.int .i64 x0,.int .i64 x1,.int .i64 x2,.int .i64 x3,.int .i64 x4,.int .i64 x5,.int .i64 x6,.int .i64 x7]
theorem wM(x0 x1 x2 x3 x4 x5 x6 x7 y0 y1 y2 y3 y4 y5 y6 y7:Int)(w:World):(Op.equalIn 10000 322 (.agg (e8 x0 x1 x2 x3 x4 x5 x6 x7).toArray) (.agg (e8 y0 y1 y2 y3 y4 y5 y6 y7).toArray)).run Tryz.prog w=.ok ((x0==y0&&x1==y1)&&((x2==y2&&x3==y3)&&((x4==y4&&x5==y5)&&(x6==y6&&x7==y7)))) w:=by
 obtain⟨i,hi,hs⟩:=Gi (P:=Tryz.prog) (t:=269) (n:=2) kR;have hc:Tryz.prog.cellsOf 269=2:=by simp[Program.cellsOf,hi,hs]
 rw[show(10000:Nat)=9999+1 from rfl,run_equalIn_array w 9999 _ _ wK hi,hc];have pt:∀(l:List Value) (k:Nat) (x y:Value),(l.drop (k*2)).take 2=[x,y]->(part 269 l.toArray (k*2)).run Tryz.prog w=.ok (.agg #[x,y]) w:=fun l k x y h=>by simp[part,isAgg,Ac jB,sizeOf,typeInfo,hi,hs,h]
 have p0:∀x0 x1 x2 x3 x4 x5 x6 x7:Int,(part 269 (e8 x0 x1 x2 x3 x4 x5 x6 x7).toArray (0*2)).run Tryz.prog w=.ok (.agg #[.int .i64 x0,.int .i64 x1]) w:=fun _ _ _ _ _ _ _ _=>pt _ 0 _ _ J
 have p1:∀x0 x1 x2 x3 x4 x5 x6 x7:Int,(part 269 (e8 x0 x1 x2 x3 x4 x5 x6 x7).toArray (1*2)).run Tryz.prog w=.ok (.agg #[.int .i64 x2,.int .i64 x3]) w:=fun _ _ _ _ _ _ _ _=>pt _ 1 _ _ J
 have p2:∀x0 x1 x2 x3 x4 x5 x6 x7:Int,(part 269 (e8 x0 x1 x2 x3 x4 x5 x6 x7).toArray (2*2)).run Tryz.prog w=.ok (.agg #[.int .i64 x4,.int .i64 x5]) w:=fun _ _ _ _ _ _ _ _=>pt _ 2 _ _ J
 have p3:∀x0 x1 x2 x3 x4 x5 x6 x7:Int,(part 269 (e8 x0 x1 x2 x3 x4 x5 x6 x7).toArray (3*2)).run Tryz.prog w=.ok (.agg #[.int .i64 x6,.int .i64 x7]) w:=fun _ _ _ _ _ _ _ _=>pt _ 3 _ _ J
 have hr:List.range 4=[0,1,2,3]:=rfl;rw[hr];simp only[Op.eqItems,Ag,p0,p1,p2,p3,Ad,wL,Sem.run_ite,BA];generalize(x0==y0&&x1==y1)=r0;generalize(x2==y2&&x3==y3)=r1;generalize(x4==y4&&x5==y5)=r2;generalize(x6==y6&&x7==y7)=r3;cases r0<;>cases r1<;>cases r2<;>cases r3<;>simp
theorem pF{x0 x1 x2 x3 x4 x5 x6 x7:Int}:Fn Tryz.prog 209 [.agg (e8 x0 x1 x2 x3 x4 x5 x6 x7).toArray] [] (Dv (ι:=Int×Int×Int) (fun i=>0<=i.1/\i.1<=30/\((i.2.1=x0/\i.2.2=x1)\/(i.2.1=0/\i.2.2=0))) (fun i=>.tuple #[.agg #[.int .i64 i.2.1,.int .i64 i.2.2],.int .i64 i.1]) (fun _=>[])):=by
 refine Fn.of Tryz.func209 J J [_,_] J ?_
 (refine W ?_;intro b;refine W ?_;intro b;refine W ?_)
 refine DL.LJ tt J J J J J iN J ?_;refine DL.Fg tt 0 J J J J J J Ba ?_;refine DL.HQ tt (vs:=[.int .i64 x0,.int .i64 x1]) J J J J J (In.mem UK) J J ?_;refine DL.Fg tt 0 J J J J J J Ba ?_;refine DL.HQ tt (vs:=[.int .i64 x0,.int .i64 x1]) J J J J J (In.mem UK) J J ?_;refine DL.Fg tt 0 J J J J J J Ba ?_;refine DL.HQ tt (vs:=[.int .i64 x0,.int .i64 x1]) J J J J J (In.mem UK) J J ?_;refine DL.Fg tt 0 J J J J J J Ba ?_;refine DL.HQ tt (vs:=[.int .i64 x0,.int .i64 x1]) J J J J J (In.mem UK) J J ?_;refine DL.build hz tt (rs:=e8 x0 x1 x0 x1 x0 x1 x0 x1) J J J J J J J ?_;refine DL.val (v:=.bool (!((x0==x0&&x1==x1)&&((x2==x0&&x3==x1)&&((x4==x0&&x5==x1)&&(x6==x0&&x7==x1)))))) J J J J (fun A R a w hk hs=> ?_) ?_
 ·have e1:a.eval (.tmp 4)=_:=hk.eval J;have e2:a.eval (.tmp 13)=_:=hk.eval J;simp only[execOp,e1,e2,Ag,run_eqGuard_agg w .neq 322 _ _ _ _ (show Tryz.prog.eqGuardType Tryz.prog.depth 322=false by kernel_rfl),Ad,run_neq_struct,wM];rfl
 generalize(!((x0==x0&&x1==x1)&&((x2==x0&&x3==x1)&&((x4==x0&&x5==x1)&&(x6==x0&&x7==x1)))))=r;cases r with
 |true=>refine W ?_;refine DL.Bj tt J J J J uP J Ba J kO ?_;refine W ?_;exact BD (7,0,0) ⟨Ba,Ba,.inr ⟨rfl,rfl⟩⟩ (Fb (RV.D8 tt J J J (In.mem iN) J) (RV.tmp J)) .nil
 |false=>refine W ?_;refine DL.Fg tt 0 J J J J J J Ba ?_;refine DL.HQ tt (vs:=[.int .i64 x0,.int .i64 x1]) J J J J J (In.mem UK) J J ?_;refine DL.Bj tt J J J J uP J (by intro u hu;simp only[Ab,Az,BX]at hu;rcases hu with rfl|rfl<;>rfl) J kO ?_;refine W ?_;exact BD (0,x0,x1) ⟨(by show(0:Int)<=0;decide),(by show(0:Int)<=30;decide),.inl ⟨rfl,rfl⟩⟩ (Fb (RV.D8 tt J J J (In.mem iN) J) (RV.tmp J)) .nil
abbrev e8A:List AV:=List.replicate 8 CB
def jD:F5:=fun args s=>match args with
 |[a]=>bif P3 a (.agg e8A)then some [.val (.Ec [.agg [CB,CB],EB]) s]else none
 |_=>none
theorem aA8:ET Tryz.prog RS 209 jD:=by
 intro args s rs hc p hst hp vs hvs;subst hst;unfold jD at hc;split at hc
 ·rename_i a;cases hle:P3 a (.agg e8A)<;>rw[hle]at hc<;>simp only[AN,AO,reduceCtorEq,AH]at hc;subst hc;cases hvs with|cons k0 hvs=>
  cases hvs;have k1:=IW k0 hle;clear k0;rename_i v;obtain⟨l,rfl,k2⟩:∃l:List Value,v=Value.agg l.toArray/\Bt p.ρ e8A l:=by cases k1 with| @agg _ l k=>exact⟨l,rfl,k⟩
  clear k1;have h1:Bt p.ρ [CB,CB,CB,CB,CB,CB,CB,CB] l:=k2;clear k2;cases h1 with|cons g0 h1=>cases h1 with|cons g1 h1=>cases h1 with|cons g2 h1=>cases h1 with|cons g3 h1=>cases h1 with|cons g4 h1=>cases h1 with|cons g5 h1=>cases h1 with|cons g6 h1=>cases h1 with|cons g7 h1=>
  cases h1;cases g0 with| @int _ _ _ x0 a0 b0=>
  cases g1 with| @int _ _ _ x1 a1 b1=>
  cases g2 with| @int _ _ _ x2 a2 b2=>
  cases g3 with| @int _ _ _ x3 a3 b3=>
  cases g4 with| @int _ _ _ x4 a4 b4=>
  cases g5 with| @int _ _ _ x5 a5 b5=>
  cases g6 with| @int _ _ _ x6 a6 b6=>
  cases g7 with| @int _ _ _ x7 a7 b7=>
  intro A U w hs;refine(pF (x0:=x0) (x1:=x1) (x2:=x2) (x3:=x3) (x4:=x4) (x5:=x5) (x6:=x6) (x7:=x7) A (p.S++U) w (by simpa using hs)).mono ?_;rintro e w' ⟨h0,S',hs1,⟨er,y0,y1⟩,⟨e1,e2,e3⟩,rfl,rfl⟩;refine⟨h0,p.S,by simpa using hs1,.inl ⟨_,_,AP.2 J,p,_,rfl,rfl,rfl,.refl p,hp,.Ec (.cons (.agg (.cons ?_ (.cons ?_ .nil))) (.cons (Fa ⟨e1,e2⟩) .nil)),rfl⟩⟩
  ·rcases e3 with⟨rfl,rfl⟩|⟨rfl,rfl⟩
   ·exact .int a0 b0
   ·exact .int (show aA .i64<=(0:Int) by decide) (show(0:Int)<=SS .i64 by decide)
  ·rcases e3 with⟨rfl,rfl⟩|⟨rfl,rfl⟩
   ·exact .int a1 b1
   ·exact .int (show aA .i64<=(0:Int) by decide) (show(0:Int)<=SS .i64 by decide)
 ·cases hc
theorem Fo{α:Type}:∀{l:List α} {n:Nat} {v:α},E1 l n=some v->l.set n v=l
 |[],_,_,h=>by simp[E1]at h
 |a::l,0,v,h=>by simp[E1]at h;subst h;rfl
 |a::l,n+1,v,h=>by simp only[Cf];rw[Fo (l:=l) (n:=n) h]
theorem KL(L:SK)(st:St):(Sz L st).map (·.1)=Rn L st:=by rw[Sz,List.map_map];exact(BB (fun _ _=>rfl)).trans (List.map_id _)
theorem GF{L:SK}{st:St}{k:Nat}(h:k∈Rn L st):k<st.nx/\4<=k/\k≠L.r/\k≠L.a/\∃ab,st.hp.get k=some ab:=by
 simp only[Rn,Bh,Ak,AI,Bo]at h;obtain⟨h1,⟨⟨h2,h3⟩,h4⟩,h5⟩:=h;refine⟨h1,AL h2,fun e=> ?_,fun e=> ?_,BU.1 h5⟩
 ·subst e;rw[GH,Bq J]at h3;cases h3
 ·subst e;rw[GH,Bq J]at h4;cases h4
theorem Uz(L:SK)(st:St):(Rn L st).Nodup:=Bc.filter _
def pJ(RS:Nat->EA)(L:SK)(p:Pt)(q2 ca K z u w:Nat)(fr:Fr)(S:A2):Prop:=
 ∃(C:Nat->List CH) (vs:List Value) (rb rc ql cl:Nat) (va vl:Value),
  S=([0,1,2,3,L.r,p.st.nx+2,p.st.nx+4]++Rn L p.st).map C/\
  (∀k∈Rn L p.st,C k=p.C k)/\
  (Da (RS K) p.ρ 0 (.res 0 []) (C 0)/\Da (RS K) p.ρ 1 (.res 1 []) (C 1)/\Da (RS K) p.ρ 2 (.res 2 [0]) (C 2)/\Da (RS K) p.ρ 3 (.res 3 [0]) (C 3))/\
  (p.ρ[L.r]? =some (rb,rc)/\C L.r=A7 rb vs 352/\Bt p.ρ L.gen vs)/\
  (E1 vs 118=some va/\E1 vs 126=some (.int .i64 ((z:Nat):Int))/\E1 vs 127=some (.int .i64 ((u:Nat):Int))/\E1 vs 128=some vl)/\
  (XT q2 ca (GQ q2) 0 1 2 va/\NV p.ρ (some L.ua) 43 q2 ca (C (p.st.nx+2)))/\
  (GQ ql<=w/\XT ql cl (GQ ql) 0 3 1 vl/\NV p.ρ none 356 ql cl (C (p.st.nx+4)))/\
  (∀x∈sa L p.st,∃v,lk fr x.1=some v/\EM p.ρ x.2 v)
section
variable{RS:Nat->EA} (hR:GX RS) {L:SK} {p:Pt} {K0:Nat} (hp:p.good (RS K0)) (hN:p.st.nx+6<=2^24) (hr4:4<=L.r) (cH:L.r<p.st.nx) (U2:∀k∈L.slots,k<2^24) (kH:L.lim<2^24) (pL:∀x∈Sz L p.st,IY x.2=true)
include hR hp hN hr4 cH U2 kH pL
variable{q2 ca lm K z u:Nat}
theorem WS{w:Nat}(h:pJ RS L p q2 ca K z u w fr S)(hlk:lk fr L.lim=some (.int .i64 ((lm:Nat):Int)))(hz:z<=lm)(hlm:lm<=10000)(hu:u<=20000)(hw:w<=2000000000):
 ∃p':Pt,p'.good (RS K)/\p'.st=X7 L p.st (decide (z<lm)) (decide (u<GQ q2))/\p'.fr=fr/\p'.S=[]::S/\(∃ql cl,p'.ρ=p.ρ++[(z,0),(lm,0),(q2,ca),(u,0),(ql,cl),(ql,0)]/\GQ ql<=w)/\p'.live=(p.st.nx+5)::([0,1,2,3,L.r,p.st.nx+2,p.st.nx+4]++Rn L p.st)/\(∀k∈Rn L p.st,p'.C k=p.C k)/\NV p.ρ (some L.ua) 43 q2 ca (p'.C (p.st.nx+2)):=by
 obtain⟨C,vs,rb,rc,ql,cl,va,vl,rfl,hU,⟨h0,h1,h2,h3⟩,⟨wX,hrC,hgen⟩,⟨v1,v2,v3,v4⟩,⟨a1,a2⟩,⟨l1,l2,l3⟩,hF⟩:=h;have hlen:p.ρ.length=p.st.nx:=hp.H.len;generalize hσ:[(z,0),(lm,0),(q2,ca),(u,0),(ql,cl),(ql,0)]=σ;have X8:(p.ρ++σ).length=p.st.nx+6:=by rw[<-hσ];simp[hlen]
 have at0:(p.ρ++σ)[p.st.nx]? =some (z,0):=by rw[<-hσ,<-hlen];simp
 have at1:(p.ρ++σ)[p.st.nx+1]? =some (lm,0):=by rw[<-hσ,<-hlen,BF I];simp
 have at2:(p.ρ++σ)[p.st.nx+2]? =some (q2,ca):=by rw[<-hσ,<-hlen,BF I];simp
 have at3:(p.ρ++σ)[p.st.nx+3]? =some (u,0):=by rw[<-hσ,<-hlen,BF I];simp
 have at4:(p.ρ++σ)[p.st.nx+4]? =some (ql,cl):=by rw[<-hσ,<-hlen,BF I];simp
 have at5:(p.ρ++σ)[p.st.nx+5]? =some (ql,0):=by rw[<-hσ,<-hlen,BF I];simp
 have qz:GQ z=z:=by unfold GQ;omega
 have qm:GQ lm=lm:=by unfold GQ;omega
 have qu:GQ u=u:=by unfold GQ;omega
 have hum:∀{a:Option AV} {t q c:Nat} {cs:List CH},NV p.ρ a t q c cs->NV (p.ρ++σ) a t q c cs:=fun h=>by
  rcases h with h0|⟨g0,ex,g1,g2,g3⟩
  ·exact .inl h0
  ·exact .inr ⟨g0,ex,g1,fun x hx v hv=>(g2 x hx v hv).mono σ,g3⟩
 have hcz:EM (p.ρ++σ) (.cnt p.st.nx 0 (bif decide (z<lm)then 1 else 0) (Nat.add p.st.nx 1)) (.int .i64 ((z:Nat):Int)):=by
  have:=EM.cnt (j:=0) (f:=bif decide (z<lm)then 1 else 0) (m:=Nat.add p.st.nx 1) at0 (fun e=>⟨lm,0,at1,by
   rw[qz,qm];by_cases hlt:z<lm
   ·exact hlt
   ·rw[BW hlt]at e;cases e⟩) (fun e=>by cases hd:decide (z<lm)<;>rw[hd]at e<;>cases e)
  rw[qz]at this;exact this
 have hcu:EM (p.ρ++σ) (.cnt (Nat.add p.st.nx 3) 0 (bif decide (u<GQ q2)then 1 else 2) (Nat.add p.st.nx 2)) (.int .i64 ((u:Nat):Int)):=by
  have:=EM.cnt (j:=0) (f:=bif decide (u<GQ q2)then 1 else 2) (m:=Nat.add p.st.nx 2) at3 (fun e=>⟨q2,ca,at2,by
   rw[qu];by_cases hlt:u<GQ q2
   ·exact hlt
   ·rw[BW hlt]at e;cases e⟩) (fun e=>⟨q2,ca,at2,by
   rw[qu];by_cases hlt:u<GQ q2
   ·rw[Bq hlt]at e;cases e
   ·omega⟩)
  rw[qu]at this;exact this
 have hcl:EM (p.ρ++σ) (.cnt (bif decide (z<lm)then Nat.add p.st.nx 1 else p.st.nx) 0 0 0) (.int .i64 ((lm:Nat):Int)):=by
  by_cases hlt:z<lm
  ·rw[Bq hlt];have:=EM.cnt (j:=0) (f:=0) (m:=0) at1 (fun e=>by cases e) (fun e=>by cases e);rw[qm]at this;exact this
  ·obtain rfl:z=lm:=I;rw[BW hlt];have:=EM.cnt (j:=0) (f:=0) (m:=0) at0 (fun e=>by cases e) (fun e=>by cases e);rw[qz]at this;exact this
 have hcells:Bt (p.ρ++σ) (kD L.gen (.GY (Nat.add p.st.nx 2) (Nat.add p.st.nx 2) 0 1 2) (.cnt p.st.nx 0 (bif decide (z<lm)then 1 else 0) (Nat.add p.st.nx 1)) (.cnt (Nat.add p.st.nx 3) 0 (bif decide (u<GQ q2)then 1 else 2) (Nat.add p.st.nx 2)) (.GY (Nat.add p.st.nx 4) (Nat.add p.st.nx 5) 0 3 1)) vs:=by have e1:=(hgen.mono σ).set 118 (EM.GY (x:=2) at2 at2 a1);rw[Fo v1]at e1;have e2:=e1.set 126 hcz;rw[Fo v2]at e2;have e3:=e2.set 127 hcu;rw[Fo v3]at e3;have e4:=e3.set 128 (EM.GY (x:=1) at4 at5 l2);rw[Fo v4]at e4;exact e4
 let C5:Nat->List CH:=fun k=>if k=p.st.nx+5 then[]else C k
 have VW:∀k,k≠p.st.nx+5->C5 k=C k:=fun k hk=>Ah hk
 have aC5:C5 (p.st.nx+5)=[]:=BE J;have hgood:=ZV (RS:=RS K) (ρ:=p.ρ++σ) (md:=[]) (C:=C5) (fr:=fr)
  (fl:=(L.lim,.cnt (bif decide (z<lm)then Nat.add p.st.nx 1 else p.st.nx) 0 0 0)::sa L p.st)
  (hl:=(Nat.add p.st.nx 5,.res 8 [1000000000])::([(0,.res 0 []),(1,.res 1 []),(2,.res 2 [0]),(3,.res 3 [0]),(L.r,.cells (kD L.gen (.GY (Nat.add p.st.nx 2) (Nat.add p.st.nx 2) 0 1 2) (.cnt p.st.nx 0 (bif decide (z<lm)then 1 else 0) (Nat.add p.st.nx 1)) (.cnt (Nat.add p.st.nx 3) 0 (bif decide (u<GQ q2)then 1 else 2) (Nat.add p.st.nx 2)) (.GY (Nat.add p.st.nx 4) (Nat.add p.st.nx 5) 0 3 1)) 352),(Nat.add p.st.nx 2,.unk (some L.ua) 43),(Nat.add p.st.nx 4,.unk none 356)]++Sz L p.st))
  (by rw[X8];exact hN)
  (fun x hx=>by
   rcases Ab.1 hx with rfl|hx
   ·exact kH
   ·obtain⟨k,hk,rfl⟩:=A8.1 hx;exact U2 k hk)
  (fun x hx=>by
   rcases Ab.1 hx with rfl|hx
   ·exact⟨_,hlk,hcl⟩
   ·obtain⟨v,g1,g2⟩:=hF x hx;exact⟨v,g1,g2.mono σ⟩)
  (by
   rw[Ap,Ai,KL,Bv,Bg];refine⟨fun hm=> ?_,?_,Uz L p.st,fun a ha b hb=> ?_⟩
   ·rcases Aj.1 hm with hm|hm
    ·simp only[Ap,CP,Ab,Az,BX,Nat.add_eq]at hm;omega
    ·have:=(GF hm).1;simp only[Nat.add_eq]at this;omega
   ·simp only[Ap,CP,Bv,Ab,Az,BX,not_or,Do,and_true,Nat.add_eq,not_false_eq_true];omega
   ·obtain⟨g1,g2,g3,g4,_⟩:=GF hb;simp only[Ap,CP,Ab,Az,BX,Nat.add_eq]at ha;omega)
  (fun x hx=>by
   rw[X8];rcases Ab.1 hx with rfl|hx
   ·refine⟨by show p.st.nx+5<_;omega,?_⟩;show Da (RS K) (p.ρ++σ) (p.st.nx+5) _ (C5 (p.st.nx+5));rw[aC5];exact .res at5 ((hR.room K 1000000000 ql []).2 ⟨rfl,I⟩)
   rcases Aj.1 hx with hx|hx
   ·simp only[Ab,Az,BX]at hx;rcases hx with rfl|rfl|rfl|rfl|rfl|rfl|rfl
    ·exact⟨by show 0<_;omega,by show Da _ _ 0 _ (C5 0);rw[VW 0 I];exact h0.mono σ⟩
    ·exact⟨by show 1<_;omega,by show Da _ _ 1 _ (C5 1);rw[VW 1 I];exact h1.mono σ⟩
    ·exact⟨by show 2<_;omega,by show Da _ _ 2 _ (C5 2);rw[VW 2 I];exact h2.mono σ⟩
    ·exact⟨by show 3<_;omega,by show Da _ _ 3 _ (C5 3);rw[VW 3 I];exact h3.mono σ⟩
    ·refine⟨by show L.r<_;omega,?_⟩;show Da (RS K) (p.ρ++σ) L.r _ (C5 L.r);rw[VW L.r I,hrC];exact .cells (Dz σ wX) hcells
    ·exact⟨by show p.st.nx+2<_;omega,by show Da _ _ (p.st.nx+2) _ (C5 (p.st.nx+2));rw[VW _ I];exact .unk at2 (hum a2)⟩
    ·exact⟨by show p.st.nx+4<_;omega,by show Da _ _ (p.st.nx+4) _ (C5 (p.st.nx+4));rw[VW _ I];exact .unk at4 (hum l3)⟩
   ·have hx0:=hx;obtain⟨k,hk,rfl⟩:=A8.1 hx;obtain⟨g1,g2,g3,g4,ab,g5⟩:=GF hk;refine⟨by show k<_;omega,?_⟩;show Da (RS K) (p.ρ++σ) k ((p.st.hp.get k).getD _) (C5 k);have hnb:=pL _ hx0;simp only[g5,B0]at hnb⊢;rw[VW k I,hU k hk];exact(hR.non hnb (hp.mem g5).2).mono σ)
 refine⟨_,hgood,?_,rfl,?_,⟨ql,cl,by rw[hσ],l1⟩,?_,fun k hk=>(VW k (by have:=(GF hk).1;omega)).trans (hU k hk),by show NV _ _ _ _ _ (C5 _);rw[VW _ I];exact a2⟩
 ·show St.mk _ _ _ _=X7 L p.st _ _;rw[X8];rfl
 ·show List.map C5 (List.map (fun x:Nat×AB=>x.1) _)=_;rw[Ap,Ai,KL,Ap];congr 1
  rw[Ai,Ai];congr 1
  ·simp only[Ap,CP];rw[VW 0 I,VW 1 I,VW 2 I,VW 3 I,VW L.r I,VW _ (by show p.st.nx+2≠_;omega),VW _ (by show p.st.nx+4≠_;omega)]
  ·exact BB fun k hk=>VW k (by have:=(GF hk).1;omega)
 ·show List.map (fun x:Nat×AB=>x.1) _=_;rw[Ap,Ai,KL];rfl
end
variable{l:List Nat}
theorem JG{live:List Nat}(h1:l.Nodup)(h2:live.Nodup)(hs:∀k∈l,k∈live):∃rest,live.Perm (l++rest):=by
 refine⟨live.filter (fun k=> !decide (k∈l)),?_⟩;have e1:live.Perm (live.filter (fun k=>decide (k∈l))++live.filter (fun k=> !decide (k∈l))):=(CO _ _).symm;refine e1.trans (Bm _ ?_);refine(B8 (h2.filter _) h1).2 fun k=> ?_
 simp only[Bh,decide_eq_true_eq];exact⟨fun h=>h.2,fun h=>⟨hs k h,h⟩⟩
variable{i:Nat}{t:C7 AB}
theorem OU(h:cG i t=true):t.get i=some (.res i []):=by
 unfold cG at h;split at h
 ·rename_i e;obtain rfl:=AK h;exact e
 ·cases h
theorem OV{m:Nat}(h:cF i m t=true):∃x,t.get i=some (.res i [x])/\x<=m:=by
 unfold cF at h;split at h
 ·rename_i j x e;simp only[AI]at h;obtain rfl:=AK h.1;exact⟨x,e,AL h.2⟩
 ·cases h
theorem OW{a:Nat}(h:(!Gu a l)=true):a∉l:=fun hm=>by rw[FZ.2 hm]at h;cases h
section
variable{RS:Nat->EA} (hR:GX RS) {L:SK} {p:Pt} {K0:Nat} (hp:p.good (RS K0)) (hN:p.st.nx+6<=2^24) (hr4:4<=L.r) (cH:L.r<p.st.nx)
 (hgn:L.gen.all (W9 p.st.nx)=true) (hFn:∀x∈sa L p.st,W9 p.st.nx x.2=true)
include hR hp hN hr4 cH hgn hFn
variable{q2 ca lm K z u:Nat}
theorem X9{w δ ql cl:Nat}{nor:Bool}{p' q:Pt}(E8:p'.ρ=p.ρ++[(z,0),(lm,0),(q2,ca),(u,0),(ql,cl),(ql,0)])(hqw:GQ ql<=w)(hlive:p'.live=(p.st.nx+5)::([0,1,2,3,L.r,p.st.nx+2,p.st.nx+4]++Rn L p.st))
 (hCU:∀k∈Rn L p.st,p'.C k=p.C k) (hC2:NV p.ρ (some L.ua) 43 q2 ca (p'.C (p.st.nx+2))) (hz:z<=10000) (hlm:lm<=10000) (hu:u<=20000) (hw:w<=2000000000) (hto:p'.to q) (hgood:q.good (RS K)) (ho:ZW L δ p.st nor q.st=true):
 ∃T G z' u',q.S.Perm (T++G)/\pJ RS L p q2 ca (K+δ) z' u' (w+1000) q.fr T/\z'<=z+1/\u'<=u+1/\(nor=true->z'=z+1/\lk q.fr L.lim=some (.int .i64 ((lm:Nat):Int))):=by
 have hlen:p.ρ.length=p.st.nx:=hp.H.len;obtain⟨τ,ZX⟩:=hto.ext;rw[E8,AU]at ZX;generalize hσ:[(z,0),(lm,0),(q2,ca),(u,0),(ql,cl),(ql,0)]++τ=σ at ZX;have at0:q.ρ[p.st.nx]? =some (z,0):=by rw[ZX,<-hσ,<-hlen];simp
 have at1:q.ρ[p.st.nx+1]? =some (lm,0):=by rw[ZX,<-hσ,<-hlen,BF I];simp
 have at2:q.ρ[p.st.nx+2]? =some (q2,ca):=by rw[ZX,<-hσ,<-hlen,BF I];simp
 have at3:q.ρ[p.st.nx+3]? =some (u,0):=by rw[ZX,<-hσ,<-hlen,BF I];simp
 have at4:q.ρ[p.st.nx+4]? =some (ql,cl):=by rw[ZX,<-hσ,<-hlen,BF I];simp
 have at5:q.ρ[p.st.nx+5]? =some (ql,0):=by rw[ZX,<-hσ,<-hlen,BF I];simp
 have I5:SZ p.st.nx q.ρ p.ρ:=fun n hn=>by rw[ZX,BG (by rw[hlen];exact hn)]
 have qz:GQ z=z:=by unfold GQ;omega
 have qm:GQ lm=lm:=by unfold GQ;omega
 have qu:GQ u=u:=by unfold GQ;omega
 unfold ZW at ho;simp only[AI,AY]at ho;obtain⟨⟨⟨⟨⟨⟨⟨⟨b1,b2⟩,b3⟩,b4⟩,b5⟩,b6⟩,b7⟩,b8⟩,b9⟩:=ho;have g0:=hgood.mem (OU b3);have g1:=hgood.mem (OU b4);obtain⟨x2,e2,hx2⟩:=OV b5;obtain⟨x3,e3,hx3⟩:=OV b6;have g2:=hgood.mem e2;have g3:=hgood.mem e3;have hkept:∀k∈p'.live,k∉q.st.md->k∈q.live/\q.C k=p'.C k:=hto.kept;have hU:∀k∈Rn L p.st,k∈q.live/\q.C k=p.C k:=fun k hk=>by obtain⟨f1,f2⟩:=hkept k (by rw[hlive];exact Aw _ (BK _ hk)) (OW (b7 k hk));exact⟨f1,f2.trans (hCU k hk)⟩
 have h2:=hkept (p.st.nx+2) (by rw[hlive];simp) (OW b8);split at b9
 ·rename_i l hr;obtain⟨hrl,hrc⟩:=hgood.mem hr;simp only[AI]at b9;obtain⟨⟨⟨⟨c1,c2⟩,c3⟩,c4⟩,c5⟩:=b9;generalize hCr:q.C L.r=cr at hrc;cases hrc with| @cells _ _ rb rc vs cJ hcl=>
  have hgen:Bt p.ρ L.gen vs:=Nh I5 hgn (O5 hcl c1);split at c2
  ·rename_i n b kJ;simp only[AI]at c2;have c2a:n=p.st.nx+2:=AK c2.1;have c2b:b=p.st.nx+2:=AK c2.2;subst c2a;subst c2b;obtain⟨va,v1,w1⟩:=hcl.at kJ;cases w1 with|GY k1 k2 w1=>
   rw[at2]at k1;rw[at2]at k2;cases k1;cases k2;split at c3
   ·rename_i n j f m kK;simp only[AI]at c3;obtain rfl:=AK c3.1;obtain⟨vz,v2,w2⟩:=hcl.at kK;cases w2 with|cnt k3 _ _=>
    rw[at0]at k3;cases k3;have hj1:j<=1/\(nor=true->j=1):=by
     have:=c3.2;cases nor with
     |true=>simp only[AN]at this;obtain rfl:=AK this;exact⟨Ao _,fun _=>rfl⟩
     |false=>simp only[AO]at this;exact⟨AL this,fun h=>by cases h⟩
    split at c4
    ·rename_i n' j' f' m' kL;simp only[AI]at c4;have c4a:n'=p.st.nx+3:=AK c4.1;subst c4a;have hj':j'<=1:=AL c4.2;obtain⟨vu,v3,w3⟩:=hcl.at kL;cases w3 with|cnt k4 _ _=>
     rw[at3]at k4;cases k4;split at c5
     ·rename_i m b j2 kM;simp only[AI]at c5;obtain⟨⟨⟨⟨d1,d2⟩,d3⟩,d4⟩,d5⟩:=c5;have d1:b=p.st.nx+5:=AK d1;subst d1;have d2:j2<=1000:=AL d2;have d3:p.st.nx<=m:=AL d3;have d4:m≠p.st.nx+2:=fun e=>by subst e;simp[GH]at d4
      obtain⟨vl,v4,w4⟩:=hcl.at kM;cases w4 with| @GY _ _ _ _ _ qm' cm _ _ _ k5 k6 w4=>
      rw[at5]at k6;cases k6;split at d5
      ·rename_i hm;obtain⟨hml,hmc⟩:=hgood.mem hm;generalize hCm:q.C m=cm' at hmc;cases hmc with|unk k7 hmu=>
       rw[k5]at k7;cases k7;obtain⟨q',r1,r2,r3,r4,_,_⟩:=kB w4 hmu I;have hnd:([0,1,2,3,L.r,p.st.nx+2,m]++Rn L p.st).Nodup:=by
        rw[Bg];refine⟨?_,Uz L p.st,fun a ha b hb=> ?_⟩
        ·simp only[Bv,Ab,Az,BX,not_or,Do,and_true,not_false_eq_true];omega
        ·obtain⟨g1,g2,g3,g4,_⟩:=GF hb;simp only[Ab,Az,BX]at ha;omega
       obtain⟨rest,hperm⟩:=JG hnd hgood.H.nd (fun k hk=>by
        rcases Aj.1 hk with hk|hk
        ·simp only[Ab,Az,BX]at hk;rcases hk with rfl|rfl|rfl|rfl|rfl|rfl|rfl
         ·exact g0.1
         ·exact g1.1
         ·exact g2.1
         ·exact g3.1
         ·exact hrl
         ·exact h2.1
         ·exact hml
        ·exact(hU k hk).1)
       let C':Nat->List CH:=fun k=>if k=p.st.nx+4 then q.C m else q.C k
       have hC':∀k,k≠p.st.nx+4->C' k=q.C k:=fun k hk=>Ah hk
       have zB:C' (p.st.nx+4)=q.C m:=BE J;refine⟨([0,1,2,3,L.r,p.st.nx+2,p.st.nx+4]++Rn L p.st).map C',rest.map q.C,z+j,u+j',?_,⟨C',vs,rb,rc,q',cm,va,vl,rfl,fun k hk=> ?_,⟨?_,?_,?_,?_⟩,⟨?_,?_,hgen⟩,⟨v1,?_,?_,v4⟩,⟨w1,?_⟩,⟨I,r3 J,?_⟩,?_⟩,I,I,fun hn=>⟨by rw[hj1.2 hn],?_⟩⟩
       ·refine hgood.H.perm.trans ?_;refine(hperm.map q.C).trans ?_;rw[Ai,Ai,Ai (f:=C')];refine Bm _ (List.Perm.of_eq ?_);congr 1
        ·simp only[Ap,CP];rw[hC' 0 I,hC' 1 I,hC' 2 I,hC' 3 I,hC' L.r I,hC' (p.st.nx+2) I,zB]
        ·refine BB fun k hk=> ?_
         rw[hC' k (by have:=(GF hk).1;omega)]
       ·rw[hC' k (by have:=(GF hk).1;omega)];exact(hU k hk).2
       ·rw[hC' 0 I];exact hR.non J (Hm I5 I J g0.2)
       ·rw[hC' 1 I];exact hR.non J (Hm I5 I J g1.2)
       ·rw[hC' 2 I];exact hR.into (.inl J) hx2 (Hm I5 I J g2.2)
       ·rw[hC' 3 I];exact hR.into (.inr J) hx3 (Hm I5 I J g3.2)
       ·rw[<-I5 L.r cH];exact cJ
       ·rw[hC' L.r I];exact hCr
       ·rw[v2,qz]
       ·rw[v3,qu]
       ·rw[hC' (p.st.nx+2) I,h2.2];exact hC2
       ·rw[zB,hCm];rcases r2 with f0|⟨f0,ex,f1,f2,f3⟩
        ·exact .inl f0
        ·exact .inr ⟨f0,ex,f1,(fun x hx=>by cases hx),f3⟩
       ·intro x hx;have hb:=b2 x hx;split at hb
        ·rename_i a' ha';obtain⟨v,f1,f2⟩:=hgood.F x.1 a' ha';exact⟨v,f1,Xk I5 (hFn x hx) (Xf f2 hb)⟩
        ·cases hb
       ·subst hn;simp only[AN]at b1;split at b1
        ·rename_i n f m hlim;have b1:n=p.st.nx+1:=AK b1;subst b1;obtain⟨v,f1,f2⟩:=hgood.F _ _ hlim;cases f2 with|cnt k8 _ _=>
         rw[at1]at k8;cases k8;rw[f1,qm];rfl
        ·cases b1
      ·cases d5
     ·cases c5
    ·cases c4
   ·cases c3
  ·cases c2
 ·cases b9
end
abbrev D7(x:Nat):AV:=.int .u8 (.ofNat x) (.ofNat x)
abbrev BZ(x:Nat):AV:=.int .u64 (.ofNat x) (.ofNat x)
abbrev Cb(x:Nat):AV:=.int .i64 (.ofNat x) (.ofNat x)
def Tv:AV->Option Nat
 | .int .i64 lo hi=>VU (.int .i64 lo hi)
 |_=>none
def exU:AV->Option Nat
 | .int .u64 lo hi=>VU (.int .u64 lo hi)
 |_=>none
def exB:AV->Option Nat
 | .int .u8 lo hi=>match VU (.int .u8 lo hi)with
  |some x=>bif Nat.blt x 256 then some x else none
  |none=>none
 |_=>none
def S3:List AV->Option Nat
 |[]=>some 0
 |a::r=>match exB a with
  |some x=>match S3 r with
   |some y=>some (Nat.add x (Nat.mul 256 y))
   |none=>none
  |none=>none
def MD(v:Nat):Nat->Nat->List AV
 |0,_=>[]
 |n+1,i=>D7 (Nat.mod (Nat.shiftRight v (Nat.mul 8 i)) 256)::MD v n (Nat.succ i)
def cy(v a k:Nat):Nat:=Nat.mod (Nat.shiftRight v (Nat.mul 8 a)) (Nat.pow 256 k)
def YL(v a k x:Nat):Nat:=Nat.add (Nat.sub v (Nat.shiftLeft (cy v a k) (Nat.mul 8 a))) (Nat.shiftLeft x (Nat.mul 8 a))
def S4:Option AB->Option (Nat×Nat)
 |some (.res 0 [n,v])=>some (n,v)
 |_=>none
def x23:F5:=fun args s=>match args with
 |[.Au k 0]=>match S4 (s.hp.get k)with
  |some (n,v)=>some [.val (Cb n) s]
  |none=>none
 |_=>none
def zD:F5:=fun args s=>match args with
 |[.Au k 0,g]=>match S4 (s.hp.get k)with
  |some (n,v)=>match Tv g with
   |some g=>bif Nat.blt g n then some [.val (.Ec [.agg (MD v 128 (Nat.mul 128 g)),Cb 0]) s]else none
   |none=>none
  |none=>none
 |_=>none
def xH:F5:=fun args s=>match args with
 |[.Au k 0,g,.agg l]=>match S4 (s.hp.get k)with
  |some (n,v)=>match Tv g with
   |some g=>match S3 l with
    |some x=>bif Nat.blt g n&&Nat.beq l.length 128 then some [.val (Cb 0) (s.set k (.res 0 [n,YL v (Nat.mul 128 g) 128 x]))]else none
    |none=>none
   |none=>none
  |none=>none
 |_=>none
def x30:F5:=fun args s=>match args with
 |[.Au k 0,a]=>match S4 (s.hp.get k)with
  |some (n,v)=>match exU a with
   |some a=>bif Nat.beq (Nat.mod a 8) 0&&Nat.ble (Nat.add a 8) (Nat.mul 128 n)then some [.val (.Ec [BZ (cy v a 8),Cb 0]) s]else none
   |none=>none
  |none=>none
 |_=>none
def x31:F5:=fun args s=>match args with
 |[.Au k 0,a,x]=>match S4 (s.hp.get k)with
  |some (n,v)=>match exU a with
   |some a=>match exU x with
    |some x=>bif Nat.beq (Nat.mod a 8) 0&&Nat.ble (Nat.add a 8) (Nat.mul 128 n)&&Nat.blt x 18446744073709551616 then some [.val (Cb 0) (s.set k (.res 0 [n,YL v a 8 x]))]else none
    |none=>none
   |none=>none
  |none=>none
 |_=>none
def Ns(hp:C7 AB)(a:AV):Option (Nat×Nat×Nat):=match Ld a with
 |some (k,off,len)=>match hp.get k with
  |some ab=>match ab.cs with
   |some l=>match S3 (List.take len (List.drop off l))with
    |some x=>bif Xo a&&Nat.beq (List.take len (List.drop off l)).length len then some (k,len,x)else none
    |none=>none
   |none=>none
  |none=>none
 |none=>none
def xI:F5:=fun args s=>match args with
 |[.Au k 0,a,y]=>match S4 (s.hp.get k)with
  |some (n,v)=>match exU a with
   |some a=>match Ns s.hp y with
    |some (j,m,x)=>bif Nat.ble (Nat.add a m) (Nat.mul 128 n)&&Nat.blt 0 m then some [.val (Cb 0) (s.set k (.res 0 [n,YL v a m x]))]else none
    |none=>none
   |none=>none
  |none=>none
 |_=>none
def xJ:F5:=fun args s=>match args with
 |[.Au k 0,a,m]=>match S4 (s.hp.get k)with
  |some (n,v)=>match exU a with
   |some a=>match Tv m with
    |some m=>bif Nat.ble (Nat.add a m) (Nat.mul 128 n)&&Nat.blt 0 m&&Nat.ble m 1000&&s.room then some [.val (.Ec [.G3 s.nx m,Cb 0]) (s.new (.grown (MD v m a) 5 1))]else none
    |none=>none
   |none=>none
  |none=>none
 |_=>none
def Ob(s o h:Nat):Nat:=Nat.add s (Nat.mul 16 (Nat.add h (Nat.mul 4294967296 o)))
def Wa:Option AB->Option (List Nat)
 |some (.res 1 d)=>some d
 |_=>none
def rS(r:Nat):Nat:=Nat.mod r 16
def rH(r:Nat):Nat:=Nat.mod (Nat.div r 16) 4294967296
def rO(r:Nat):Nat:=Nat.div r 68719476736
def x67:F5:=fun args s=>match args with
 |[.Au k 0]=>match Wa (s.hp.get k)with
  |some d=>some [.val (Cb d.length) s]
  |none=>none
 |_=>none
abbrev YM:AV:=.Ec [.agg [Cb 0,BZ 0,Cb 0],Cb 2]
def x24:F5:=fun args s=>match args with
 |[.Au k 0,g]=>match Wa (s.hp.get k)with
  |some d=>match g with
   | .int .i64 (.negSucc _) (.negSucc _)=>some [.val YM s]
   |g=>match Tv g with
    |some g=>match E1 d g with
     |some r=>some [.val (.Ec [.agg [Cb (rS r),BZ (rO r),Cb (rH r)],Cb 0]) s]
     |none=>some [.val YM s]
    |none=>none
  |none=>none
 |_=>none
def x25:F5:=fun args s=>match args with
 |[.Au k 0,g]=>match Wa (s.hp.get k)with
  |some d=>match Tv g with
   |some g=>match E1 d g with
    |some r=>some [.val (.boo (some (Nat.beq (rS r) 0))) s]
    |none=>none
   |none=>none
  |none=>none
 |_=>none
def xK:F5:=fun args s=>match args with
 |[.Au k 0,g,a,z,o]=>match Wa (s.hp.get k)with
  |some d=>match Tv g with
   |some g=>match Tv a with
    |some a=>match Tv z with
     |some z=>match exU o with
      |some o=>match E1 d g with
       |some r=>bif Nat.beq (rS r) a&&Nat.beq (rH r) 0&&((Nat.beq a 0&&Nat.beq z 1&&Nat.beq o 0)||(Nat.beq a 1&&Nat.blt 1 z&&Nat.blt z 6&&Nat.blt 0 o)||(Nat.blt 1 a&&Nat.blt a 6&&Nat.beq z 1&&Nat.beq o 0))then some [.val (Cb 0) (s.set k (.res 1 (d.set g (Ob z o 0))))]else none
       |none=>none
      |none=>none
     |none=>none
    |none=>none
   |none=>none
  |none=>none
 |_=>none
def xM:F5:=fun args s=>match args with
 |[.Au k 0,g]=>match Wa (s.hp.get k)with
  |some d=>match Tv g with
   |some g=>match E1 d g with
    |some r=>bif Nat.blt (rH r) 1000 then some [.val (Cb 0) (s.set k (.res 1 (d.set g (Ob (rS r) (rO r) (Nat.succ (rH r))))))]else none
    |none=>none
   |none=>none
  |none=>none
 |_=>none
def xN:F5:=fun args s=>match args with
 |[.Au k 0,g]=>match Wa (s.hp.get k)with
  |some d=>match Tv g with
   |some g=>match E1 d g with
    |some r=>bif Nat.blt 0 (rH r)&&Nat.blt (rH r) 1000 then some [.val (Cb 0) (s.set k (.res 1 (d.set g (Ob (rS r) (rO r) (Nat.pred (rH r))))))]else none
    |none=>none
   |none=>none
  |none=>none
 |_=>none
def sq:Option AB->Option (List Nat)
 |some (.res 2 d)=>some d
 |_=>none
def qN(k key dm len dat:Nat):Nat:=Nat.add k (Nat.mul 8 (Nat.add dm (Nat.mul 256 (Nat.add key (Nat.mul 115792089237316195423570985008687907853269984665640564039457584007913129639936 (Nat.add len (Nat.mul 1048576 dat)))))))
def pu(q:Nat):List Nat->Nat->Option Nat
 |[],_=>none
 |x::r,i=>bif Nat.beq q x then some i else pu q r (Nat.succ i)
def P9(i:Nat):Nat:=Nat.add i 452312848583266388373324160190187140051835877600158453279131187530910662656
def Oc(q:Nat)(d:List Nat):Option (Nat×List Nat):=match pu q d 0 with
 |some i=>some (P9 i,d)
 |none=>bif Nat.blt d.length 60000 then some (P9 d.length,d++[q])else none
def x65:F5:=fun args s=>match args with
 |[.Au k 0]=>match sq (s.hp.get k)with
  |some d=>some [.val (.boo (some true)) s]
  |none=>none
 |_=>none
def py(hp:C7 AB)(x:AV):Option (Nat×Nat):=match x with
 | .val (.slice none 0 0)=>some (0,0)
 |a=>match Ns hp a with
  |some (_,m,y)=>bif Nat.blt m 1000000 then some (m,y)else none
  |none=>none
def pz(hp:C7 AB)(l:List AV):Option (Nat×Nat×Nat×Nat×Nat):=match l with
 |kd::r=>match Tv kd with
  |some kd=>match S3 (List.take 32 r)with
   |some key=>match List.drop 32 r with
    |[dm,x]=>match Tv dm with
     |some dm=>match py hp x with
      |some (m,y)=>bif Nat.blt kd 8&&Nat.blt dm 256 then some (kd,key,dm,m,y)else none
      |none=>none
     |none=>none
    |_=>none
   |none=>none
  |none=>none
 |_=>none
def x94:F5:=fun args s=>match args with
 |[.Au k 0,.agg l,_]=>match sq (s.hp.get k)with
  |some d=>match pz s.hp l with
   |some (kd,key,dm,m,y)=>match Oc (qN kd key dm m y) d with
    |some (a,d')=>some [.val (.agg (MD a 32 0)) (s.set k (.res 2 d'))]
    |none=>none
   |none=>none
  |none=>none
 |_=>none
def VC(key dm m y:Nat):Nat->List Nat->Option (List AV×List Nat)
 |0,d=>some ([],d)
 |r+1,d=>match VC key dm m y r d with
  |some (l,d1)=>match Oc (qN 4 key dm (Nat.add m 8) (Nat.add y (Nat.mul r (Nat.pow 256 m)))) d1 with
   |some (a,d2)=>some (l++MD a 32 0,d2)
   |none=>none
  |none=>none
def xO:F5:=fun args s=>match args with
 |[.Au k 0,.agg l,c]=>match sq (s.hp.get k)with
  |some d=>match pz s.hp l with
   |some (4,key,dm,m,y)=>match Tv c with
    |some 128=>match VC key dm m y 4 d with
     |some (z,d')=>bif Nat.ble 1 dm&&Nat.ble dm 16&&s.room then some [.val (.Ec [.sl s.nx 0 128 128,Cb 0]) ((s.set k (.res 2 d')).new (.grown z 5 1))]else none
     |none=>none
    |_=>none
   |_=>none
  |none=>none
 |_=>none
def Wb:Nat->Nat->C7 Nat->List Nat->Option (C7 Nat×List Nat)
 |0,_,t,d=>some (t,d)
 |n+1,p,t,d=>match Oc (qN 1 0 6 8 p) d with
  |some (a,d')=>Wb n (Nat.succ p) (t.put 24 (Nat.add 128 p) (some a)) d'
  |none=>none
def Wc:Nat->C7 Nat->List Nat->Option (C7 Nat×List Nat)
 |0,t,d=>some (t,d)
 |k+1,t,d=>match t.get (Nat.mul 2 (Nat.succ k))with
  |some a=>match t.get (Nat.add (Nat.mul 2 (Nat.succ k)) 1)with
   |some b=>match Oc (qN 1 0 5 72 (Nat.add (Nat.succ k) (Nat.add (Nat.shiftLeft a 64) (Nat.shiftLeft b 320)))) d with
    |some (x,d')=>Wc k (t.put 24 (Nat.succ k) (some x)) d'
    |none=>none
   |none=>none
  |none=>none
def lI(nd:Nat)(t:C7 Nat):Nat->Nat->Nat->Option Nat
 |0,_,v=>some v
 |n+1,k,v=>match t.get k with
  |some a=>lI nd t n (Nat.succ k) (YL v (Nat.add nd (Nat.mul 32 k)) 32 a)
  |none=>none
def xQ:F5:=fun args s=>match args with
 |[.Au o 0,.Au m 0,nd]=>match sq (s.hp.get o)with
  |some d=>match S4 (s.hp.get m)with
   |some (n,v)=>match exU nd with
    |some nd=>bif Nat.beq nd 12800&&Nat.beq n 170 then(match Wb 128 0 .e d with
     |some (t,d1)=>match Wc 127 t d1 with
      |some (t2,d2)=>match t2.get 1 with
       |some r=>match lI nd t2 254 2 v with
        |some v'=>some [.val (.Ec [.agg (MD r 32 0),Cb 0]) ((s.set o (.res 2 d2)).set m (.res 0 [n,v']))]
        |none=>none
       |none=>none
      |none=>none
     |none=>none)else none
    |none=>none
   |none=>none
  |none=>none
 |_=>none
def qA:F5:=fun args s=>match args with
 |[.val (.string a),.val (.string b)]=>match b.data.toList with
  |[c]=>some [.val (.boo (some (a.data.toList.any fun x=>Nat.beq x.toNat c.toNat))) s]
  |_=>none
 |_=>none
def aDn:R1->Option R1
 | .val (.agg out) s=>some (.val (.agg (Cb 0::(out++[BZ 0,.boo (some false),BZ 0]))) s)
 | .Eu (.LU 144 (.agg [c])) s=>some (.val (.agg [c,BZ 0,BZ 0,BZ 0,BZ 0,BZ 0,.boo (some false),BZ 0]) s)
 |_=>none
def lJ{α β:Type}(f:α->Option β):List α->Option (List β)
 |[]=>some []
 |x::r=>match f x with
  |some y=>match lJ f r with
   |some l=>some (y::l)
   |none=>none
  |none=>none
def x27(E:GI)(ih:Ih):F5:=fun args s=>match args with
 |[.Au m 0,.agg (op::vs)]=>match s.hp.get m with
  |some (.cells l 89)=>match VU op with
   |some k=>bif Nat.ble 1 k&&Nat.ble k 21&&Nat.beq l.length 10&&Nat.beq vs.length 6 then(match B7 E ih 47 [.agg (op::vs)] s with
    |some [.val (.boo (some true)) _]=>match B7 E ih (Nat.add 69 k) [.Au m 0,.agg vs] (s.set m (.cells ((l.set 8 (BZ 0)).set 9 (.val (.slice none 0 0))) 89))with
     |some rs=>lJ aDn rs
     |none=>none
    |_=>none)else none
   |none=>none
  |_=>none
 |_=>none
end
end Go.Proofs.YtfekkjbdcdnhlaaGreatDoor.Sep
