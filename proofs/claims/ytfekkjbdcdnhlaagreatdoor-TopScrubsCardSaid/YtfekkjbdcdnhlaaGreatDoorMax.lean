/- Lemmas for TopScrubs. No condition but those that each states. -/
import Derived.Test.YtfekkjbdcdnhlaaGreatDoorMau
set_option linter.all false
set_option maxHeartbeats 8000000
set_option maxRecDepth 100000
namespace Go.Proofs.YtfekkjbdcdnhlaaGreatDoor.Sep
noncomputable section
section
variable{P:Program} {T:Tr} {n:Nat} {K:Option A2} {Q:EX} {fr:Fr} {S:A2} {rest:List FO}
variable{i ty:Nat} {pos:String} {af:Array Edge} {gd g:Option (Nat×Bool)} {d:Nat}
variable{dv:Value}{X:List Int}
theorem ap(hT:Dp P T=true){s t e sz sz' t7:Nat}{x:Operand}{c c0 r:List CH}{U:A2}(hg:lg fr g=some true)(hn:Nat.blt d n=true)(hs:T.get s=some ⟨.sl e 1,sz⟩)(he:T.get e=some ⟨.int .u8,t7⟩)(ht:T.get t=some ⟨.str,sz'⟩)
 (hx:Eg fr x=some dv) (hd:G9 X dv c0) (hp:Gg c (K.getD S) U) (hc:c.Perm (c0++r)) (h:DL P n K Q rest ((d,.string (Oy (Vh X)))::fr) S):
 DL P n K Q (⟨i,⟨some d,.convert s t x,ty,pos,af,gd⟩,g⟩::rest) fr S:=by
 rcases hd with⟨rfl,rfl,rfl⟩|⟨b,off,cap,cs,bt,rfl,hle,rfl,hX⟩
 ·exact DL.UM hT hg hn hs he ht hx h
 ·refine DL.val (Qw hs ht) hg J hn ?_ h;intro A R a w hk hs';have hs2:Ds A w ((A7 b cs bt::r::U)++R):=hs'.FK (by rw[A6,A6];refine Bm _ ?_;refine hp.perm.flatten.trans ?_;simp only[AW];rw[<-AU];exact hc.append_right _)
  have hc:=I1 (hs2.mem (BH))
  have hu:=(Et hT hs J).1;have hue:=HF hT he J;have hut:=Hh hT ht J;have hr:=run_loadCells_list (P:=P) (w:=w) ⟨b,off,none⟩ (bs X) (fun j v hj=>by
   rw[DD,hc];rw[<-hX]at hj;rw[Bf]at hj;split at hj
   ·rw[CG]at hj;exact hj
   ·cases hj)
  rw[Aa]at hr;have hb:=run_bytesToString (P:=P) w ⟨b,off,none⟩ X.length cap X (by simpa[bs]using hr);have e2:X.foldl (fun r n=>r.push (UInt8.ofNat n.toNat)) ByteArray.empty=Oy (Vh X):=by rw[foldl_push];rfl
  simp only[execOp,hk.eval hx,Ag,run_convert_bytes_string w s t e (some ⟨b,off,none⟩) X.length cap hu hue hut,hb,e2];rfl
end
variable{M:List Int}{ds ls:Value}{u kb:Nat}
theorem wB(hM:M.length=32):((oL M ds u kb ls).drop 1).take 32=bs M:=by simp only[oL,List.drop_succ_cons,BL];rw[Ar (by rw[Aa,hM];exact Ao _),AX (by rw[Aa,hM];exact Ao _)]
variable{i:Nat}{v:Value}
theorem aAR{l m:List Value}(h:E1 l i=some v):E1 (l++m) i=some v:=by rw[D5]at h⊢;obtain⟨hl,e⟩:=Ae.1 h;rw[BG hl,h]
variable{key:List Int}{dv:Value}
theorem wC{k dm:Int}{m:List Value}(hk:key.length=32):((qL k key dm dv++m).drop 1).take 32=bs key:=by rw[DT (by rw[Ee hk];decide),Ar (by rw[B9,Ee hk];decide),Na hk]
variable{X:List Int}
theorem G9.form{c:List CH}(h:G9 X v c):∃p n cap,v=.slice p n cap:=by
 rcases h with⟨rfl,rfl,_⟩|⟨b,off,cap,cs,t,rfl,_⟩
 ·exact⟨none,0,0,rfl⟩
 ·exact⟨_,_,cap,rfl⟩
variable{b:Nat}{es:List OE}
theorem X3{D:List (List Int)}{IH:List Value}{lC Hv:List CH}{dH:A2}(hM:M.length=32)(hdr:SX D ds Hv)(M5:TL es.length (M8 es IH) ls lC)(hds:HD es IH dH)(hes:∀e∈es,e.2.length=32/\e.1.1.2.2.2.length<1048576)(hDl:D.length<1099511627776)(hn:es.length<=4294967295):
 Fn Tryz.prog 42 [Au b] [oB b M ds u kb ls,lC,Hv,dH.flatten] (fun e S'=>∃nb c,e=.returned (Au nb)/\S'=[oB b M ds u kb ls,lC,Hv,dH.flatten,c]):=by
 obtain⟨pl,aAS,rfl⟩:∃p cap,ls=.slice p es.length cap:=by
  rcases M5 with⟨h,_,rfl,_⟩|⟨lb,M4,ex,rfl,_⟩
  ·rw[h];exact⟨none,0,rfl⟩
  ·exact⟨_,M4,rfl⟩
 obtain⟨pd,aAT,rfl⟩:∃p cap,ds=.slice p D.length cap:=by
  obtain⟨_,⟨rfl,rfl,_⟩|⟨db,cap,ex,rfl,_⟩⟩:=hdr
  ·exact⟨none,0,rfl⟩
  ·exact⟨_,cap,rfl⟩
 refine Fn.of Tryz.func42 J J [_] J ?_
 (refine W ?_;refine DL.BS J J J pK (Jr hM) kR aP kO ?_;refine W ?_)
 refine CW.dA (id:=3) [0,1,2,3,4,5,6,7,8,9,10,11,12,13] mixed hz kR nD ?_;refine W ?_;refine DL.zP (vs:=bs M) tt J J J J J .here (wB hM) (by rw[Aa,hM]) ?_;refine W ?_;refine DL.G8 tt J J J J J .here (Vp hM) ?_;refine DL.B7 J J J (F:=[Hv]) (.cons (.there (.there .here)) .nil) (sC hM hdr hDl) kR (fun _=>aP) (fun _=>Du (.cons (.there (.there (.there (.there .here)))) (.cons (.there (.there (.there (.there .here)))) (.cons (.there (.there (.there .here))) (.cons (.there (.there (.there .here))) .nil))))) ?_;rintro⟨nb,kb2,ds2,dr2⟩ hd2;dsimp only at hd2⊢;obtain⟨pd2,iV,rfl⟩:∃p cap,ds2=.slice p D.length cap:=by
  obtain⟨_,⟨rfl,rfl,_⟩|⟨db,cap,ex,rfl,_⟩⟩:=hd2
  ·exact⟨none,0,rfl⟩
  ·exact⟨_,cap,rfl⟩
 refine W ?_;refine CW.dw [0,1,2,3,4,5,6,7,8,9,10,11,12,13,14,15,16] [_,_] mixed hz kR (.cons (.there (.there (.there (.there .here)))) (.cons (.there (.there (.there (.there .here)))) .nil)) nD ?_;refine W ?_;refine DL.G8 tt J J J J J .here (Q5 hM) ?_;refine W ?_;refine DL.G8 tt J J J J J .here (LO hM) ?_;refine DL.B7 J J J (F:=[lC]) (.cons (.there (.there (.there (.there (.there .here))))) .nil) (an M5 (WQ hds) I) kR (fun _=>aP) (fun _=>Du (.cons (.there (.there (.there (.there (.there (.there .here)))))) (.cons (.there .here) .nil))) ?_;rintro⟨ls2,lC2⟩ hl2;dsimp only at hl2⊢;obtain⟨pl2,iW,rfl⟩:∃p cap,ls2=.slice p es.length cap:=by
  rcases hl2 with⟨h,_,rfl,_⟩|⟨lb,M4,ex,rfl,_⟩
  ·rw[h];exact⟨none,0,rfl⟩
  ·exact⟨_,M4,rfl⟩
 refine W ?_;refine DL.Br (cs':=oL M (.slice pd2 D.length iV) u kb2 (.slice none 0 0)) tt J J J J J uP (by simpa using N8 hM u) J J (by rw[Kv hM];decide) (Du (.cons (.there (.there (.there (.there (.there (.there .here)))))) (.cons (.there .here) .nil))) ?_;refine W ?_;refine DL.Br (cs':=oL M (.slice pd2 D.length iV) u kb2 (.slice pl2 es.length iW)) tt J J J J J uP (by simpa using Ll hM _) J J (by rw[Kv hM];decide) (Du (.cons (.there (.there (.there (.there (.there (.there .here)))))) (.cons (.there .here) .nil))) ?_;refine W ?_;refine DL.ld1 tt J J J J J iN (LO hM) ?_;refine W ?_;refine CW.loop (ι:=Nat×List (Qk×Value×Nat)×Nat) (fun i=>es.length-i.1) (fun i=>i.1<=es.length) (fun i=>[(3,Au nb),(40,.slice pl2 es.length iW),(41,.int .i64 es.length),(42,.int .i64 i.1)]) (fun i=>[DX Gq kb2 i.2.1 i.2.2,A7 nb (oL M (.slice pd2 D.length iV) u kb2 (.slice pl2 es.length iW)) 132,lC2,dH.flatten,oB b M (.slice pd D.length aAT) u kb (.slice pl es.length aAS),lC,Hv]) (0,[],0) (Cj _) sF pK ?_;rintro⟨r,L2,gW⟩ g1;dsimp only at g1⊢;by_cases hr:r<es.length
 ·rcases hl2 with⟨h0,_⟩|⟨lb,M4,ex,h,hle2,rfl,aE5,aE6⟩
  ·omega
  simp only[Value.slice.injEq]at h;obtain⟨rfl,_,rfl⟩:=h;obtain⟨dv,c0,r0,hdv,hdo,hperm⟩:=hds.at_ r hr;obtain⟨hrd,hdv⟩:=Ae.1 hdv;have hat:=Ui hds.len (fun e he=>(hes e he).1) hr hrd;rw[hdv]at hat
  have ha:=(hes _ (B1 hr)).1;generalize es[r]=e at hdo hat ha;obtain⟨⟨⟨k,key,dm,X⟩,hk⟩,a⟩:=e;dsimp only at hat ha hk;obtain⟨pv,nv,aAU,rfl⟩:=hdo.form;have hent:(qL k key dm (.slice pv nv aAU)++bs a).length=67:=by rw[Aq,Ee hk,Aa,ha]
  refine W ?_;refine DL.C3 tt r J J J J J J hr ?_;refine DL.df (vs:=qL k key dm (.slice pv nv aAU)++bs a) tt J J J J J iN ?_ hent ?_
  ·show List.take 67 (List.drop (0+r*67) _)=_;rw[BM,DT I,Ar (by rw[B9];omega)];exact hat
  (refine W ?_;intro b;refine W ?_)
  refine DL.Bj tt J J J J uP (by rw[hent]) (N9 J) HS kO ?_;refine W ?_;refine CW.dw [0,1,2,3,4,5,6,7,8,9,10,11,12,13,14,15,16,17,18,19] [_,_,_] mixed hz kR (.cons .here (.cons (.there .here) (.cons (.there (.there .here)) .nil))) nD ?_;refine W ?_;refine DL.G8 tt J J J J J (.there .here) (LN hM) ?_;refine W ?_;refine DL.zP (vs:=bs key) tt J J J J J .here (wC hk) (by rw[Aa,hk]) ?_;refine W ?_;refine DL.G8 tt J J J J J .here (aAR (Q6 hk)) ?_;refine W ?_;refine DL.G8 tt J J J J J .here (aAR (KB hk)) ?_;refine ap tt J J J J J J hdo (.there (.there .here)) hperm ?_;rw[Xp];dsimp only;refine DL.build hz tt J J J J J J (Q7 (Z:=BQ 32) hk J) ?_;refine W ?_;refine DL.Ju (a:=⟨(k,key,dm,X),hk⟩) (L:=L2) (clk:=gW) Qv tt J J J J J J (.there .here) (Du (.cons .here (.cons (.there .here) (.cons (.there (.there .here)) .nil)))) ?_;refine W ?_;exact⟨(r+1,F8 L2 ⟨(k,key,dm,X),hk⟩ (.int .i64 r) gW,J8 L2 ⟨(k,key,dm,X),hk⟩ gW),_,by simp only;omega,by simp only;omega,sF,pK⟩
 ·refine W ?_;exact⟨_,[oB b M (.slice pd D.length aAT) u kb (.slice pl es.length aAS),lC,Hv,dH.flatten,DX Gq kb2 L2 gW],_,DC (RV.tmp J),pK,nb,_,rfl,rfl⟩
variable{comp:List CH}
theorem Ut{ob K j:Nat}(hK:K+j<=HM)(hr:G1 ob K [j] b comp):Fn Tryz.prog 42 [Au b] [comp] (fun e S'=>∃nb c,e=.returned (Au nb)/\S'=[comp,c]):=by
 obtain⟨j',e,hb,M,D,u,es,⟨ds,kb,clk,ls,L,IH,lC,Hv,dH,rfl,hM,hdr,M5,hds,hkn,hes⟩,hDl,hu,hn,ZG,heb⟩:=hr;cases e;simp only[HM]at hK;refine(X3 (b:=b) (kb:=kb) (u:=u) hM hdr M5 hds hes hDl I).Cd (F:=[DX Gq kb L clk]) ?_ ?_
 ·refine C2 fun _ x=> ?_
  simp only[AW,A0,Am,AQ,AS,Ax];omega
 ·rintro e S' ⟨nb,c,rfl,rfl⟩;refine⟨_,⟨nb,c,rfl,rfl⟩,?_⟩;refine C2 fun _ x=> ?_
  simp only[AW,A0,Am,AQ,AS,Ax];omega
def wE(R:Nat):List AV->St->Option (List R1):=fun args s=>match args with
 |[.Au 2 0]=>match s.hp.get 2 with
  |some (.res 2 [j])=>bif Nat.ble j R&&s.room then some [.val (.Au s.nx 0) (s.new (.res 9 []))]else none
  |_=>none
 |_=>none
def wF(R:Nat):List AV->St->Option (List R1):=fun args s=>match args with
 |[.Au 2 0,.agg l,.int .i64 lo hi]=>match s.hp.get 2 with
  |some (.res 2 [j])=>match E1 l 34 with
   |some dat=>match ZE s.hp dat with
    |some _=>bif G0 (List.take 34 l) nN&&Nat.beq l.length 35&&Nat.ble (Nat.add j 4) R&&FN lo 128&&FN hi 128&&s.room then
     some [.val (.Ec [.val (.slice none 0 0),.int .i64 (.ofNat 1) (.ofNat 2)]) (s.set 2 (.res 2 [Nat.add j 4])),
      .val (.Ec [.sl s.nx 0 128 128,.int .i64 (.ofNat 0) (.ofNat 0)]) ((s.set 2 (.res 2 [Nat.add j 4])).new (.grown (List.replicate 128 OF) 5 1))]else none
    |none=>none
   |none=>none
  |_=>none
 |_=>none
section
variable{ob K R:Nat} {RS:EA} (hO:∀d b cs,RS 2 d b cs↔G1 ob K d b cs) (h9:∀d b cs,RS 9 d b cs)
include hO
theorem aAV(I7:K+R<=HM):ET Tryz.prog RS 309 (wF R):=by
 intro args s rs hc p hst hp vs hvs;subst hst;unfold wF at hc;split at hc
 ·rename_i l lo hi;split at hc
  ·rename_i j hget;split at hc
   ·rename_i dat hdat
    split at hc
    ·rename_i o hdo;cases hcond:G0 (List.take 34 l) nN&&Nat.beq l.length 35&&Nat.ble (Nat.add j 4) R&&FN lo 128&&FN hi 128&&p.st.room<;>rw[hcond]at hc<;>simp only[AN,AO,reduceCtorEq,AH]at hc;subst hc;simp only[AI,EO]at hcond;obtain⟨⟨⟨⟨⟨hle,Xr⟩,rj⟩,rfl⟩,rfl⟩,hroom⟩:=hcond;have Xr:=AK Xr;have rj:j+4<=R:=AL rj;cases hvs with|cons h1 hvs=>cases hvs with|cons h2 hvs=>cases hvs with|cons h3 hvs=>
     cases hvs;cases h3 with| @int _ _ _ z c1 c2=>
     obtain rfl:z=128:=I;obtain⟨hlive,hcb⟩:=hp.mem hget;cases h2 with| @agg _ ws h2=>
     have hq0:=GR (h2.take 34) hle;obtain⟨k,key,dm,hw,hk,hkb⟩:=ZF hq0;rw[hw]at hq0;have hq:Bt [] nN (.int .i64 k::(bs key++[.int .i64 dm])):=Ky (N:=0) (fun n hn=>I) Ba hq0;obtain⟨dv,hdv,hcd⟩:=h2.at hdat
     have hwl:ws.length=35:=by rw[h2.len,Xr]
     have hws:ws=qL k key dm dv:=by
      have e1:ws.drop 34=[dv]:=by rw[D5]at hdv;obtain⟨hlt,e⟩:=Ae.1 hdv;rw[CQ hlt,e,BJ I]
      rw[<-CS 34 ws,hw,e1];simp[qL]
     subst hws;generalize hC:p.C 2=ck at hcb;cases hcb with| @res _ b c _ cs0 hρ hr=>
     cases h1 with|Au h1=>
     rw[hρ]at h1;cases h1;have hr:=(hO _ _ _).1 hr;have fin:∀(er:Int) (c':List CH),G1 ob K [j+4] b c'->1<=er->er<=2->Ij RS p [.val (.Ec [.val (.slice none 0 0),.int .i64 (.ofNat 1) (.ofNat 2)]) (p.st.set 2 (.res 2 [Nat.add j 4])),.val (.Ec [.sl p.st.nx 0 128 128,.int .i64 (.ofNat 0) (.ofNat 0)]) ((p.st.set 2 (.res 2 [Nat.add j 4])).new (.grown (List.replicate 128 OF) 5 1))] (.returned (.tuple #[.slice none 0 0,.int .i64 er])) (c'::(p.live.erase 2).map p.C):=by intro er c' hr' e1 e2;exact .inl ⟨_,_,BH,p.set 2 (.res 2 [Nat.add j 4]) c',_,rfl,rfl,rfl,.set p 2 _ _,hp.set hlive (.res hρ ((hO _ _ _).2 hr')),.Ec (.cons .val (.cons (.int e1 e2) .nil)),rfl⟩
     have fin2:∀(c':List CH) (rb:Nat) (A:List Int) (ex:List Value),G1 ob K [j+4] b c'->A.length=128->BN A->Ij RS p [.val (.Ec [.val (.slice none 0 0),.int .i64 (.ofNat 1) (.ofNat 2)]) (p.st.set 2 (.res 2 [Nat.add j 4])),.val (.Ec [.sl p.st.nx 0 128 128,.int .i64 (.ofNat 0) (.ofNat 0)]) ((p.st.set 2 (.res 2 [Nat.add j 4])).new (.grown (List.replicate 128 OF) 5 1))] (.returned (.tuple #[.slice (some ⟨rb,0,none⟩) 128 128,.int .i64 0])) (A7 rb (bs A++ex) 5::c'::(p.live.erase 2).map p.C):=by
      intro c' rb A ex hr' hA nQ;have hp2:=hp.set hlive (ab:=.res 2 [Nat.add j 4]) (c:=c') (.res hρ ((hO _ _ _).2 hr'));have hcon:Da RS ((p.set 2 (.res 2 [Nat.add j 4]) c').ρ++[(rb,128+ex.length)]) (p.set 2 (.res 2 [Nat.add j 4]) c').st.nx (.grown (List.replicate 128 OF) 5 1) (A7 rb (bs A++ex) 5):=by
       refine .grown (Pt.EZ hp2 _) ?_ ?_
       ·have:=IX (ρ:=(p.set 2 (.res 2 [Nat.add j 4]) c').ρ++[(rb,128+ex.length)]) nQ
        rwa [hA]at this
       ·rw[Aa,hA];omega
      exact .inl ⟨_,_,Aw _ (AP.2 J),(p.set 2 (.res 2 [Nat.add j 4]) c').new (rb,128+ex.length) (.grown (List.replicate 128 OF) 5 1) (A7 rb (bs A++ex) 5),_,rfl,rfl,rfl,Pt.to.trans (.set p 2 _ _) (.new hp2 _ _ _),hp2.new hroom _ hcon,.Ec (.cons (.sl (Pt.EZ hp2 _)) (.cons (.int Ba Ba) .nil)),rfl⟩
     have all:∀(X:List Int) (dC:List CH) (T:A2),G9 X dv dC->BN X->X.length<=1000000->p.S.flatten.Perm ([ck,dC]++T).flatten->(∀c':List CH,(c'::(p.live.erase 2).map p.C).flatten.Perm ([c',dC]++T).flatten)->Fn Tryz.prog 309 [Au b,.agg (qL k key dm dv).toArray,.int .i64 128] p.S (Ij RS p [.val (.Ec [.val (.slice none 0 0),.int .i64 (.ofNat 1) (.ofNat 2)]) (p.st.set 2 (.res 2 [Nat.add j 4])),.val (.Ec [.sl p.st.nx 0 128 128,.int .i64 (.ofNat 0) (.ofNat 0)]) ((p.st.set 2 (.res 2 [Nat.add j 4])).new (.grown (List.replicate 128 OF) 5 1))]):=by
      intro X dC T hd Ix Hw e1 e2;refine(aj I hr hk hq hd Ix Hw).Cd (F:=T) e1 ?_;rintro e' S' ⟨c',hr',⟨er,g1,g2,rfl,rfl⟩|⟨rb,A,ex,hA,nQ,rfl,rfl⟩⟩
      ·exact⟨_,fin er c' hr' g1 g2,e2 c'⟩
      ·refine⟨_,fin2 c' rb A ex hr' hA nQ,?_⟩;have:=(e2 c').append_left (A7 rb (bs A++ex) 5);rw[AW];refine this.trans ?_;refine C2 fun _ x=> ?_
       simp only[AW,A0,Am,AQ,AS,Ax];omega
     unfold ZE at hdo;split at hdo
     ·cases hcd;have hS:=hp.H.pick hlive;rw[hC]at hS;exact all [] [] ((p.live.erase 2).map p.C) (.inl ⟨rfl,rfl,rfl⟩) (fun _ h=>by cases h) DI (by have:=hS.flatten;simpa using this) (fun c'=>by simp)
     ·split at hdo
      ·rename_i k2 L hby;cases hL:Nat.ble L 1000000<;>rw[hL]at hdo<;>simp only[AN,AO,reduceCtorEq]at hdo;have hL:=AL hL;obtain⟨HC,⟨rU,IN,hcs2⟩,b2,so,cap,cs,t,X,hC2,rfl,hcap,hX,Hw,Ix⟩:=O7 hp hby hcd;have hne:k2≠2:=fun e=>by subst e;rw[hget]at IN;cases IN;cases hcs2
       have hS:=Pt.two hp hlive HC hne;rw[hC,hC2]at hS;refine all X (A7 b2 cs t) (((p.live.erase 2).erase k2).map p.C) (.inr ⟨b2,so,cap,cs,t,by rw[Hw],I,rfl,by rw[Hw];exact hX⟩) Ix I (by have:=hS.flatten;simpa using this) (fun c'=> ?_);have e1:=(Pt.Lx (p:=p) (k:=2) (j:=k2) c' HC hne).flatten;rw[hC2]at e1;exact e1.symm
      ·cases hdo
    ·cases hc
   ·cases hc
  ·cases hc
 ·cases hc
include h9
theorem aCV(I7:K+R<=HM):ET Tryz.prog RS 42 (wE R):=by
 intro args s rs hc p hst hp vs hvs;subst hst;unfold wE at hc;split at hc
 ·split at hc
  ·rename_i j hget;cases hcond:Nat.ble j R&&p.st.room<;>rw[hcond]at hc<;>simp only[AN,AO,reduceCtorEq,AH]at hc;subst hc;simp only[AI]at hcond;obtain⟨rj,hroom⟩:=hcond;have rj:=AL rj;cases hvs with|cons h1 hvs=>
   cases hvs;obtain⟨hlive,hcb⟩:=hp.mem hget;generalize hC:p.C 2=ck at hcb;cases hcb with| @res _ b c _ cs0 hρ hr=>
   cases h1 with|Au h1=>
   rw[hρ]at h1;cases h1;have hr:=(hO _ _ _).1 hr;have hS:=hp.H.pick hlive;rw[hC]at hS;intro A U w hs;have hs':Ds A w ([ck]++((p.live.erase 2).map p.C++U)):=by have:=hs.perm (hS.append_right U);exact this.flat DI
   refine(Ut I hr A _ w hs').mono ?_;rintro e' w' ⟨h0,S',hs1,nb,cc,rfl,rfl⟩;refine⟨h0,cc::p.S,?_,.inl ⟨_,_,AP.2 J,p.new (nb,0) (.res 9 []) cc,_,rfl,rfl,rfl,.new hp _ _ _,hp.new hroom _ (.res (Pt.EZ hp _) (h9 _ _ _)),.Au (Pt.EZ hp _),rfl⟩⟩;have hs2:Ds A w' ((cc::ck::(p.live.erase 2).map p.C)++U):=hs1.perm (by simp only[AQ,AS];exact List.Perm.swap _ _ _)
   exact hs2.perm ((List.Perm.cons _ hS.symm).append_right U)
  ·cases hc
 ·cases hc
end
theorem VD:∀{X Y:List Int},FB X->FB Y->X.length=Y.length->nB X=nB Y->X=Y
 |[],[],_,_,_,_=>rfl
 |[],_::_,_,_,h,_=>by simp at h
 |_::_,[],_,_,h,_=>by simp at h
 |x::X,y::Y,hX,hY,hl,h=>by have h1:=hX x DI;have h2:=hY y DI;simp only[nB]at h;have e1:x=y:=I;have e2:nB X=nB Y:=I;rw[e1,VD (fun z hz=>hX z (by simp[hz])) (fun z hz=>hY z (by simp[hz])) (by simpa using hl) e2]
theorem Jb:∀n:Nat,nB (BQ n)=0
 |0=>rfl
 |n+1=>by have:=Jb n;simp only[BQ,CJ,nB]at this⊢;rw[this];rfl
theorem QX{c a a' b b':Nat}(h:a<c)(h':a'<c)(e:a+c*b=a'+c*b'):a=a'/\b=b':=by
 have h1:(a+c*b)%c=a:=by rw[Nat.add_mul_mod_self_left,Dh h]
 have h2:(a'+c*b')%c=a':=by rw[Nat.add_mul_mod_self_left,Dh h']
 have h3:(a+c*b)/c=b:=by rw[Nat.add_mul_div_left _ _ I,Nat.div_eq_of_lt h,BM]
 have h4:(a'+c*b')/c=b':=by rw[Nat.add_mul_div_left _ _ I,Nat.div_eq_of_lt h',BM]
 rw[e]at h1 h3;exact⟨I,I⟩
variable{k dm m y:Nat}
theorem xU{k' key key' xW m' y':Nat}(h1:k<8)(h1':k'<8)(h2:dm<256)(h2':xW<256)(h3:key<256^32)(h3':key'<256^32)(h4:m<1048576)(h4':m'<1048576)(h:qN k key dm m y=qN k' key' xW m' y'):k=k'/\key=key'/\dm=xW/\m=m'/\y=y':=by obtain⟨e1,e⟩:=QX (c:=8) h1 h1' h;obtain⟨e2,e⟩:=QX (c:=256) h2 h2' e;obtain⟨e3,e⟩:=QX (c:=115792089237316195423570985008687907853269984665640564039457584007913129639936) h3 h3' e;obtain⟨e4,e⟩:=QX (c:=1048576) h4 h4' e;exact⟨e1,e3,e2,e4,e⟩
def NI(q:Qk):Prop:=0<=q.1.1/\q.1.1<8/\0<=q.1.2.2.1/\q.1.2.2.1<256/\FB q.1.2.1/\q.1.2.2.2.length<1048576
def NB(q:Qk):Nat:=qN q.1.1.toNat (nB q.1.2.1) q.1.2.2.1.toNat q.1.2.2.2.length (nB (iq q))
theorem lK(q:Qk):FB (iq q):=fun x hx=>by simp only[iq,A8]at hx;obtain⟨c,_,rfl⟩:=hx;have:=c.toNat_lt;omega
variable{q:Qk}
theorem lL{q':Qk}(h:NI q)(h':NI q')(e:NB q=NB q'):q=q':=by
 have hu:=Xp q;have hu':=Xp q';have hb:=lK q;have hb':=lK q';have hil:(iq q).length=q.1.2.2.2.length:=by simp[iq]
 have aDs:(iq q').length=q'.1.2.2.2.length:=by simp[iq]
 obtain⟨g1,g2,g3,g4,g5,g6⟩:=h;obtain⟨f1,f2,f3,f4,f5,f6⟩:=h';have k1:=Wg g5;have k2:=Wg f5;rw[q.2]at k1;rw[q'.2]at k2;obtain⟨e1,e2,e3,e4,e5⟩:=xU I I I I k1 k2 g6 f6 e;have e6:=VD g5 f5 (by rw[q.2,q'.2]) e2;have e7:=VD hb hb' (by rw[hil,aDs,e4]) e5;have e8:q.1.1=q'.1.1:=I;have e9:q.1.2.2.1=q'.1.2.2.1:=I;have e10:q.1.2.2.2=q'.1.2.2.2:=by rw[<-hu,<-hu',e7]
 obtain⟨⟨k,key,dm,dat⟩,hl⟩:=q;obtain⟨⟨k',key',xW,aE8⟩,hl'⟩:=q';simp only at e6 e8 e9 e10;subst e6 e8 e9 e10;rfl
theorem lO{q:Qk}(hq:NI q):∀{es:List OE} (i:Nat),(∀e∈es,NI e.1)->pu (NB q) (es.map fun e=>NB e.1) i=(I6 es q).map (·+i)
 |[],i,_=>rfl
 |e::r,i,h=>by
  have ih:=lO hq (es:=r) (i+1) (fun x hx=>h x (Aw _ hx));simp only[Ap,pu,I6];by_cases he:q=e.1
  ·subst he;simp
  ·have hne:Nat.beq (NB q) (NB e.1)=false:=by
    cases hb:Nat.beq (NB q) (NB e.1)with
    |false=>rfl
    |true=>exact absurd (lL hq (h e BH) (AK hb)) he
   rw[hne,Ah he];simp only[AO];rw[show Nat.succ i=i+1 from rfl,ih];cases I6 r q with
   |none=>rfl
   |some j=>simp only[CZ];congr 1;omega
theorem Tz(i:Nat):Ed [] i=Ek i 8++BQ 23++[1]:=rfl
theorem VE(i:Nat):FB (Ed [] i):=by
 rw[Tz];refine Fp (Fp (MW i 8).2.2 fun x hx=> ?_) fun x hx=> ?_
 ·simp only[BQ,D6]at hx;omega
 ·simp only[AP]at hx;omega
theorem Zg(h:i<18446744073709551616):nB (Ed [] i)=P9 i:=by obtain⟨h1,h2,h3⟩:=MW i 8;rw[Tz,Iy,Iy,Jb,h1,Aq,h2,Bn,Dh (by exact h)];rfl
variable{ρ:Nm}
theorem su(h:i<18446744073709551616):Bt ρ (MD (P9 i) 32 0) (bs (Ed [] i)):=by
 have hl:(Ed [] i).length=32:=IT DI i;have h1:=ME (ρ:=ρ) (VE i) 32 0 I;rw[Zg h]at h1;have e:cut (Ed [] i) 0 32=Ed [] i:=by unfold cut;rw[BL,AX I]
 rwa [e]at h1
def Im(d:List Nat)(b:Nat)(cs:List CH):Prop:=∃es:List OE,Sj (BQ 32) [] es.length es b cs/\d=es.map (fun e=>NB e.1)/\(∀(i:Nat) (h:i<es.length),es[i].2=Ed [] i)/\(∀e∈es,NI e.1)/\es.length<=60000
variable{a:Nat}{d':List Nat}
theorem sw(hg:∀e∈es,NI e.1)(hq:NI q)(hd:∀(i:Nat) (h:i<es.length),es[i].2=Ed [] i)(hl:es.length<=60000)(h:Oc (NB q) (es.map fun e=>NB e.1)=some (a,d')):
 (Ff [] es.length es q).2.1=(Ff [] es.length es q).2.2.length/\d'=(Ff [] es.length es q).2.2.map (fun e=>NB e.1)/\(∀(i:Nat) (h:i<(Ff [] es.length es q).2.2.length),(Ff [] es.length es q).2.2[i].2=Ed [] i)/\(∀e∈(Ff [] es.length es q).2.2,NI e.1)/\(Ff [] es.length es q).2.2.length<=60000/\(Ff [] es.length es q).1=Ed [] (a-P9 0)/\∃i,a=P9 i/\i<=60000:=by
 have hdr:∀i,P9 i-P9 0=i:=fun i=>by show i+452312848583266388373324160190187140051835877600158453279131187530910662656-(0+452312848583266388373324160190187140051835877600158453279131187530910662656)=i;omega
 have h1:=lO hq (es:=es) 0 hg;unfold Oc at h;rw[h1]at h;cases ho:I6 es q with
 |some i=>
  obtain⟨hi,_⟩:=OH ho;have e:Ff [] es.length es q=(es[i].2,es.length,es):=by simp[Ff,ho,AZ hi]
  rw[ho]at h;simp only[CZ,CV,AH,Af]at h;obtain⟨rfl,rfl⟩:=h;rw[e];exact⟨rfl,rfl,hd,hg,hl,by rw[hdr];exact hd i hi,i,rfl,I⟩
 |none=>
  have e:Ff [] es.length es q=(Ed [] es.length,es.length+1,es++[(q,Ed [] es.length)]):=by simp[Ff,ho]
  rw[ho]at h;simp only[Option.map_none,D3]at h;cases hb:Nat.blt es.length 60000<;>rw[hb]at h<;>simp only[AN,AO,reduceCtorEq,AH,Af]at h;obtain⟨rfl,rfl⟩:=h;have hb:es.length<60000:=by simpa using hb
  rw[e];refine⟨by simp,by simp,fun i hi=> ?_,fun x hx=> ?_,by simp;omega,by rw[hdr],es.length,rfl,I⟩
  ·simp only[Aq,List.length_singleton]at hi;by_cases hlt:i<es.length
   ·simp only[List.getElem_append_left hlt];exact hd i hlt
   ·obtain rfl:i=es.length:=I;simp
  ·rcases Aj.1 hx with hx|hx
   ·exact hg x hx
   ·rw[AP.1 hx];exact hq
theorem Jc(h:FB X):BN X:=fun x hx=>by have:=h x hx;omega
variable{d:List Nat}
theorem lQ{dC:List CH}{dv cv:Value}(hr:Im d b comp)(hk:key.length=32)(hkb:FB key)(hd:G9 X dv dC)(hX:FB X)(Hw:X.length<1048576)(hk8:k<8)(hdm:dm<256)(h:Oc (qN k (nB key) dm X.length (nB X)) d=some (a,d')):
 Fn Tryz.prog 94 [Au b,.agg (qL k key dm dv).toArray,cv] [comp,dC] (fun e S'=>∃c' A,e=.returned (.agg (bs A).toArray)/\S'=[c',dC]/\Im d' b c'/\A.length=32/\FB A/\nB A=a/\∀ρ:Nm,Bt ρ (MD a 32 0) (bs A)):=by
 obtain⟨es,hO,rfl,h2,h3,h4⟩:=hr;have hiq:=gU (k:=k) (dm:=dm) (key:=key) hk (Jc hX);have hq:NI (qk k key dm X hk):=⟨by simp only;omega,by simp only;omega,by simp only;omega,by simp only;omega,hkb,by simpa[Vh]using Hw⟩
 have hn:NB (qk k key dm X hk)=qN k (nB key) dm X.length (nB X):=by unfold NB;rw[hiq];simp[Vh]
 rw[<-hn]at h;obtain⟨g1,g2,g3,g4,g5,g6,i,rfl,g7⟩:=sw h3 hq h2 h4 h;refine(MR (cv:=cv) (k:=k) (dm:=dm) hO hk hd (Jc hX) Hw I DI I).mono ?_;rintro e S' ⟨c',rfl,rfl,h⟩;rw[g1]at h;have hdr:P9 i-P9 0=i:=by show i+452312848583266388373324160190187140051835877600158453279131187530910662656-(0+452312848583266388373324160190187140051835877600158453279131187530910662656)=i;omega
 rw[hdr]at g6;refine⟨c',_,rfl,rfl,⟨_,h,g2,g3,g4,g5⟩,?_,?_,?_,fun ρ=> ?_⟩
 ·rw[g6];exact IT DI i
 ·rw[g6];exact VE i
 ·rw[g6];exact Zg I
 ·rw[g6];exact su I
theorem Of(hr:Im d b comp):Fn Tryz.prog 65 [Au b] [comp] (E4 (.bool true) [comp]):=by obtain⟨es,⟨ds,kb,clk,ls,L,IH,lC,Hv,dH,rfl,hM,_⟩,_⟩:=hr;refine(Jr (b:=b) (kb:=kb) (u:=es.length) (ds:=ds) (ls:=ls) hM).Cd (F:=[DX Gq kb L clk,lC,Hv,dH.flatten]) DI ?_;rintro e' S' ⟨rfl,rfl⟩;exact⟨_,⟨rfl,rfl⟩,by simp⟩
theorem Zh{RS:EA}{p:Pt}(hp:p.good RS)(hk:p.st.hp.get k=some (.res i d)){x:AV}(h:py p.st.hp x=some (m,y))(hv:EM p.ρ x dv):
 ∃X dC T,G9 X dv dC/\FB X/\X.length=m/\m<1000000/\nB X=y/\p.S.flatten.Perm ([p.C k,dC]++T).flatten/\∀c':List CH,(c'::(p.live.erase k).map p.C).flatten.Perm ([c',dC]++T).flatten:=by
 obtain⟨hlive,_⟩:=hp.mem hk;unfold py at h;split at h
 ·cases hv;simp only[AH,Af]at h;obtain⟨rfl,rfl⟩:=h;have hS:=(hp.H.pick hlive).flatten;exact⟨[],[],(p.live.erase k).map p.C,.inl ⟨rfl,rfl,rfl⟩,(fun x (h:x∈([]:List Int))=>by cases h),rfl,Ba,rfl,by simpa using hS,fun c'=>by simp⟩
 ·split at h
  ·rename_i k2 L y' hby;cases hL:Nat.blt L 1000000<;>rw[hL]at h<;>simp only[AN,AO,reduceCtorEq,AH,Af]at h;obtain⟨rfl,rfl⟩:=h;have hL:L<1000000:=by simpa using hL
   obtain⟨HC,⟨rU,IN,hcs2⟩,b2,so,cap,cs,t,X,hC2,rfl,hcap,hX,Hw,Ix,sr⟩:=PR hp hby hv;have hne:k2≠k:=fun e=>by subst e;rw[hk]at IN;cases IN;cases hcs2
   have hS:=(Pt.two hp hlive HC hne).flatten;rw[hC2]at hS;refine⟨X,A7 b2 cs t,((p.live.erase k).erase k2).map p.C,.inr ⟨b2,so,cap,cs,t,by rw[Hw],I,rfl,by rw[Hw];exact hX⟩,Ix,Hw,hL,sr,by simpa using hS,fun c'=> ?_⟩;have e1:=(Pt.Lx (p:=p) (k:=k) (j:=k2) c' HC hne).flatten;rw[hC2]at e1;exact e1.symm
  ·cases h
theorem Zi{hp:C7 AB}{l:List AV}{ws:List Value}{kd key:Nat}(h:pz hp l=some (kd,key,dm,m,y))(hv:Bt ρ l ws):∃dB dv x,ws=qL kd dB dm dv/\dB.length=32/\FB dB/\nB dB=key/\EM ρ x dv/\py hp x=some (m,y)/\kd<8/\dm<256:=by
 unfold pz at h;split at h
 ·rename_i kda r;split at h
  ·rename_i kd' hkd;split at h
   ·rename_i key' hkey;split at h
    ·rename_i dma x hdrop;split at h
     ·rename_i xW hdm;split at h
      ·rename_i m' y' hdat
       cases hb:Nat.blt kd' 8&&Nat.blt xW 256<;>rw[hb]at h<;>simp only[AN,AO,reduceCtorEq,AH,Af]at h;obtain⟨rfl,rfl,rfl,rfl,rfl⟩:=h;rw[AI]at hb;have hb1:kd'<8:=by simpa using hb.1
       have hb2:xW<256:=by simpa using hb.2
       cases hv with| @cons _ v0 _ vs h1 h2=>
       obtain rfl:=Gw hkd h1;obtain⟨K,e1,e2,e3,e4⟩:=Ja hkey (h2.take 32);have h3:=h2.drop 32;rw[hdrop]at h3;generalize e5:vs.drop 32=t at h3;cases h3 with|cons h4 h5=>cases h5 with|cons h6 h7=>
       cases h7;obtain rfl:=Gw hdm h4;have hrl:(List.drop 32 r).length=2:=by rw[hdrop];rfl
       rw[B9]at hrl;refine⟨K,_,x,?_,by rw[e4,BP];omega,e2,e3,h6,hdat,hb1,hb2⟩;unfold qL;rw[<-e1,<-e5,CS]
      ·cases h
     ·cases h
    ·cases h
   ·cases h
  ·cases h
 ·cases h
theorem MX{o:Option AB}(h:sq o=some d):o=some (.res 2 d):=by
 unfold sq at h;split at h
 ·cases h;rfl
 ·cases h
theorem qB:HU (DY []) (E3 (DY []) 100000) 93 [] [] [.agg ([iv 4 4]++List.replicate 32 .junk++[iv 1 16,.junk])] [(false,.boo (some true))] []=true:=kR
section
variable{RS:EA} (hO:∀d b cs,RS 2 d b cs↔Im d b cs)
include hO
theorem aBB:ET Tryz.prog RS 65 x65:=by
 intro args s rs hc p hst hp vs hvs;subst hst;unfold x65 at hc;split at hc
 ·rename_i k;split at hc
  ·rename_i d hd;cases hc;cases hvs with|cons h1 hvs=>
   cases hvs;cases h1 with|Au h1=>
   refine Jt hp (MX hd) fun b c hρ hr=> ?_
   rw[hρ]at h1;cases h1;refine(Of ((hO _ _ _).1 hr)).mono ?_;rintro e S' ⟨rfl,rfl⟩;exact⟨_,rfl,rfl,.boo⟩
  ·cases hc
 ·cases hc
theorem aDt:ET Tryz.prog RS 94 x94:=by
 intro args s rs hc p hst hp vs hvs;subst hst;unfold x94 at hc;split at hc
 ·rename_i k l cva;split at hc
  ·rename_i d hd;split at hc
   ·rename_i kd key dm m y hask;split at hc
    ·rename_i a d' hN;cases hc;cases hvs with|cons h1 hvs=>cases hvs with|cons h2 hvs=>cases hvs with| @cons _ cv _ _ h3 hvs=>
     cases hvs;cases h1 with|Au h1=>
     cases h2 with| @agg _ ws h2=>
     have hget:=MX hd;obtain⟨dB,dv,x,rfl,hkl,hkb,rfl,hxv,hdat,hk8,hd8⟩:=Zi hask h2;obtain⟨X,dC,T,hD,Ix,rfl,hm,rfl,hS,hS2⟩:=Zh hp hget hdat hxv;obtain⟨hlive,hcb⟩:=hp.mem hget;generalize hC:p.C k=ck at hcb;cases hcb with| @res _ b c _ cs hρ hr=>
     rw[hρ]at h1;cases h1;rw[hC]at hS;refine(lQ (cv:=cv) ((hO _ _ _).1 hr) hkl hkb hD Ix I hk8 hd8 hN).Cd (F:=T) hS ?_;rintro e S' ⟨c',A,rfl,rfl,hr',hA,nQ,_,hcon⟩;exact⟨_,.inl ⟨_,_,AP.2 J,p.set k (.res 2 d') c',_,rfl,rfl,rfl,.set p k _ _,hp.set hlive (.res hρ ((hO _ _ _).2 hr')),.agg (hcon _),rfl⟩,hS2 c'⟩
    ·cases hc
   ·cases hc
  ·cases hc
 ·cases hc
end
end
end Go.Proofs.YtfekkjbdcdnhlaaGreatDoor.Sep
