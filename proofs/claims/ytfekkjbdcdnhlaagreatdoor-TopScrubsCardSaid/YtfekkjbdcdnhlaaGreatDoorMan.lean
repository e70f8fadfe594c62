/- Lemmas for TopScrubs. No condition but those that each states. -/
import Derived.Test.YtfekkjbdcdnhlaaGreatDoorMam
set_option linter.all false
set_option maxHeartbeats 8000000
set_option maxRecDepth 1000000
namespace Go.Proofs.YtfekkjbdcdnhlaaGreatDoor.Sep
noncomputable section
variable{S T:A2}
theorem Ds.FK{A:Om}{w:World}(h:Ds A w S)(e:S.flatten.Perm T.flatten):Ds A w T:=⟨h.os,h.tape,h.output,h.size,(e.map _).nodup_iff.1 h.nodup,fun x hx=>h.has x (e.mem_iff.2 hx)⟩
variable{P:Program}{f:Nat}
theorem Fn.Cd{args:List Value}{S0 F:A2}{R R0:Ending->A2->Prop}(h:Fn P f args S0 R0)(e:S.flatten.Perm (S0++F).flatten)(k:∀e S',R0 e S'->∃T,R e T/\T.flatten.Perm (S'++F).flatten):Fn P f args S R:=fun A U w hs=>by
 have hs2:Ds A w (S0++(F++U)):=hs.FK (by rw[<-AU,A6,A6 (L₂:=U)];exact e.append_right _)
 refine(h A _ w hs2).mono ?_;rintro e' w' ⟨h0,S',h1,h2⟩;obtain⟨T,h3,h4⟩:=k _ _ h2;refine⟨h0,T,h1.FK ?_,h3⟩;rw[<-AU,A6,A6 (L₂:=U)];exact h4.symm.append_right _
variable{n:Nat}{fr:Fr}
theorem CW.FK{c:Code}{Q:EX}(e:S.flatten.Perm T.flatten)(h:CW P n c Q fr T):CW P n c Q fr S:=fun A R a w hd hk hs=>h A R a w hd hk (hs.FK (by rw[A6,A6];exact e.append_right _))
theorem Eff.FK{o:Oper}{post:Value->A2->Prop}{Eu:List PanicEntry->A2->Prop}(e:S.flatten.Perm T.flatten)(h:Eff P n o fr T post Eu):Eff P n o fr S post Eu:=fun A R a w hk hs=>h A R a w hk (hs.FK (by rw[A6,A6];exact e.append_right _))
variable{CU tx m:Nat}{x:Value}
theorem DO.FK{news:List Value}(e:S.flatten.Perm T.flatten)(h:DO P CU S tx x m news):DO P CU T tx x m news:=fun A U w hs=>h A U w (hs.FK (by rw[A6,A6];exact e.symm.append_right _))
variable{U:A2}
theorem Jv(h:Gg [] S U):S.flatten.Perm U.flatten:=by have:=h.perm.flatten;simpa using this
def LV(t CU n:Nat)(cs:List Value)(v:Value)(c:List CH):Prop:=(n=0/\cs=[]/\v=.slice none 0 0/\c=[])\/∃b cap ex,v=.slice (some ⟨b,0,none⟩) n cap/\n<=cap/\ex.length=(cap-n)*CU/\cs.length=n*CU/\c=A7 b (cs++ex) t
theorem LV.nil{t CU:Nat}:LV t CU 0 [] (.slice none 0 0) []:=.inl ⟨rfl,rfl,rfl,rfl⟩
variable{t:Nat}{v:Value}
theorem LV.one{cs:List Value}{c:List CH}(h:LV t CU n cs v c):v.oneCell'=true:=by rcases h with⟨_,_,rfl,_⟩|⟨b,cap,ex,rfl,_⟩<;>rfl
theorem LV.cells{t CU n:Nat}{cs:List Value}{v:Value}{c:List CH}(h:LV t CU n cs v c):v.cells= #[v]:=by rcases h with⟨_,_,rfl,_⟩|⟨b,cap,ex,rfl,_⟩<;>rfl
section
variable{P:Program} {T:Tr} {n:Nat} {K:Option A2} {Q:EX} {fr:Fr} {S:A2} {rest:List FO}
variable{i ty d:Nat} {pos:String} {af:Array Edge} {gd g:Option (Nat×Bool)}
variable{e:Nat}
theorem C6(hT:Dp P T=true){ax:Array Operand}{GN sz k:Nat}{cs news:List Value}{c:List CH}(hg:lg fr g=some true)(hn:Nat.blt d n=true)(ht:T.get t=some ⟨.sl e CU,sz⟩)(hE:Ew P e CU GN=true)
 (ha:FP fr ax.toList=some [v,x]) (hv:LV e CU k cs v c) (hp:Gg c S U) (hx:DO P CU S tx x m news) (hm:0<m) (hY:news.length=m*CU) (hbd:(k+m)*GN<=140737488355328) (hbd2:k+m<=9223372036854775807)
 (hK:∀c',Ge K (c'::U)) (h:∀v' c',LV e CU (k+m) (cs++news) v' c'->DL P n K Q rest ((d,v')::fr) (c'::U)):
 DL P n K Q (⟨i,⟨some d,.call ⟨.builtin .append,ax,#[t,tx]⟩,ty,pos,af,gd⟩,g⟩::rest) fr S:=by
 rcases hv with⟨rfl,rfl,rfl,rfl⟩|⟨b,cap,ex,rfl,hle,hex,hcs,rfl⟩
 ·have e:=Jv hp;refine .eff _ _ (.inl J) hg (fun e he=>by cases he;simpa using hn) (Eff.FK e (FH (xs:=[]) (ex:=[]) hT J J ht hE ha (hx.FK e) (.inl ⟨rfl,rfl,rfl,rfl,rfl,hm⟩) DI DI (Ao _) (by simpa using hbd) (by simpa using hbd2))) (fun _ _ h=>h.elim) ?_ ?_
  ·rintro v S' ⟨b',cap',ex',rfl,h1,h2,rfl⟩;exact hK _
  ·rintro v S' ⟨b',cap',ex',rfl,h1,h2,rfl⟩;exact h _ _ (.inr ⟨b',cap',ex',rfl,h2,h1,by simpa using hY,by simp⟩)
 ·refine .eff _ _ (.inl J) hg (fun e he=>by cases he;simpa using hn) (FH (xs:=cs) (ex:=ex) hT J J ht hE ha hx (.inr ⟨b,rfl,hp⟩) hcs hex hle hbd hbd2) (fun _ _ h=>h.elim) ?_ ?_
  ·rintro v S' ⟨b',cap',ex',rfl,h1,h2,rfl⟩;exact hK _
  ·rintro v S' ⟨b',cap',ex',rfl,h1,h2,rfl⟩;exact h _ _ (.inr ⟨b',cap',ex',rfl,h2,h1,by rw[Aq,hcs,hY,D2],rfl⟩)
end
def C7.Ud{α:Type}(p:Nat->α->Prop):(Nat->Nat)->C7 α->Prop
 |_,.e=>True
 |g,.n l v r=>(match v with|some a=>p (g 0) a|none=>True)/\C7.Ud p (fun k=>g (2*k+1)) l/\C7.Ud p (fun k=>g (2*k+2)) r
theorem C7.Ud.at{α:Type}{p:Nat->α->Prop}:∀{t:C7 α} {g:Nat->Nat} {k:Nat} {a:α},C7.Ud p g t->t.get k=some a->p (g k) a
 | .e,g,k,a,_,h=>by simp[C7.FC]at h
 | .n l v r,g,k,a,⟨h1,h2,h3⟩,h=>by
  have e1:∀a b:Nat,Nat.mod a b=a%b:=fun _ _=>rfl
  have e2:∀a b:Nat,Nat.div a b=a/b:=fun _ _=>rfl
  have e3:∀a b:Nat,Nat.sub a b=a-b:=fun _ _=>rfl
  simp only[C7.zh,GH,e1,e2,e3]at h;by_cases k0:k=0
  ·subst k0;simp at h;subst h;exact h1
  ·by_cases k1:k%2=1
   ·simp[k0,k1]at h;have:=C7.Ud.at h2 h;rw[show 2*(k/2)+1=k by omega]at this;exact this
   ·simp[k0,k1]at h;have:=C7.Ud.at h3 h;rw[show 2*(k/2-1)+2=k by omega]at this;exact this
section
variable{P:Program} (w:World)
theorem GV(d:Nat){e:TypeId}{k:IntKind}(he:P.underlying e=some (.int k))(xs ys:List Int):∀(m i:Nat),i+m<=xs.length->i+m<=ys.length->
 (Op.eqItems (d+1) e 1 (xs.map (Value.int k)).toArray (ys.map (Value.int k)).toArray (List.range' i m)).run P w=.ok (decide ((xs.drop i).take m=(ys.drop i).take m)) w
 |0,i,_,_=>by simp[Op.eqItems]
 |m+1,i,h1,h2=>by
  have ih:=GV d he xs ys m (i+1) I I;have px:∀zs:List Int,i<zs.length->(part e (zs.map (Value.int k)).toArray (i*1)).run P w=.ok (.int k (zs.getD i 0)) w:=fun zs h=>by simp[part,isAgg,Ac he,AZ h]
  have dx:∀zs:List Int,i<zs.length->(zs.drop i).take (m+1)=zs.getD i 0::(zs.drop (i+1)).take m:=fun zs h=>by rw[CQ h,EF];simp[AZ h]
  rw[List.range'_succ];simp only[Op.eqItems,Ag,px xs I,px ys I,Ad,D4 w d e k k _ _ he,Sem.run_ite,ih,BA];rw[dx xs I,dx ys I];generalize xs.getD i 0=a;generalize ys.getD i 0=b;by_cases hq:a=b<;>simp[hq]
variable{k:IntKind}
theorem KG(d:Nat){t e:TypeId}{i:TypeInfo}(ht:P.underlying t=some (.array n e))(hi:P.info? e=some i)(hc:P.cellsOf e=1)(he:P.underlying e=some (.int k))
 (xs ys:List Int) (hx:xs.length=n) (hy:ys.length=n):
 (Op.equalIn (d+2) t (.agg (xs.map (Value.int k)).toArray) (.agg (ys.map (Value.int k)).toArray)).run P w=.ok (decide (xs=ys)) w:=by
 rw[run_equalIn_array w (d+1) _ _ ht hi,hc,List.range_eq_range',GV w d he xs ys n 0 I I];simp[AX,hx,hy]
theorem TS{k:IntKind}:∀{n:Nat} {xs ys:List Value} {b:Bool},Jz (List.replicate n (.int k)) xs ys=some b->∃a c:List Int,xs=a.map (Value.int k)/\ys=c.map (Value.int k)/\a.length=n/\c.length=n/\b=decide (a=c)
 |0,[],[],b,h=>by simp[Jz]at h;exact⟨[],[],rfl,rfl,rfl,rfl,by simp[h]⟩
 |0,[],_::_,b,h=>by simp[Jz]at h
 |0,_::_,_,b,h=>by simp[Jz]at h
 |n+1,[],_,b,h=>by simp[CJ,Jz]at h
 |n+1,_::_,[],b,h=>by simp[CJ,Jz]at h
 |n+1,x::xs,y::ys,b,h=>by
  simp only[CJ,Jz]at h;split at h
  ·rename_i t ht;split at h
   ·rename_i c hc;simp only[AH]at h;obtain⟨l,m,rfl,rfl,h3,h4,h5⟩:=TS hc;unfold nJ at ht;split at ht
    ·rename_i q k1 z k2 z' heq;cases heq;cases hk:I9 k1 k2&&I9 k k1<;>simp only[hk,AO,AN,reduceCtorEq,AH]at ht;simp only[AI]at hk;obtain rfl:=Fz hk.1;obtain rfl:=Fz hk.2;refine⟨z::l,z'::m,rfl,rfl,by simp[h3],by simp[h4],?_⟩;rw[<-h,<-ht,h5];by_cases e1:z=z'<;>by_cases e2:l=m<;>simp[e1,e2]
    ·rename_i heq;cases heq
    ·rename_i heq;cases heq
    ·cases ht
   ·cases h
  ·cases h
variable{e:Nat}
theorem JD(ht:P.underlying t=some (.array n e))(hi:JI P e 1=true)(he:P.underlying e=some (.int k))(hg:P.eqGuardType P.depth t=false):Vl P t (List.replicate n (.int k)):=by obtain⟨i,hii,hs⟩:=Gi hi;refine⟨fun xs ys b w h=> ?_,fun op x y xs ys w=>run_eqGuard_agg w op t x y xs ys hg⟩;obtain⟨a,c,rfl,rfl,h3,h4,rfl⟩:=TS h;exact KG w 9998 ht hii (by simp[Program.cellsOf,hii,hs]) he a c h3 h4
end
def oW(fn:Func):FI:=⟨fn.body.getD .skip,fn.results.toList,fn.ntmps⟩
def fnB(fn:Func):Bool:=fn.body.isSome&& !(fn.name== "runtime.NumGoroutine")
theorem oY{fn:Func}(h:P.funcs[f]? =some fn)(hb:fnB fn=true):aAi P f (oW fn):=by simp only[fnB,AI,Bo]at hb;obtain⟨c,hc⟩:=BU.1 hb.1;exact⟨⟨fn,h,by simp[oW,hc],rfl,by simp[oW]⟩,by simp[E5,h,hc,hb.2]⟩
noncomputable def ftT:C7 Func:=(.n (.n (.n (.n (.n (.n (.n (.n (.n .e (some Tryz.f255) .e) (some Tryz.f127) .e) (some Tryz.f63) (.n (.n .e (some Tryz.f319) .e) (some Tryz.f191) .e)) (some Tryz.f31) (.n (.n (.n .e (some Tryz.f287) .e) (some Tryz.f159) .e) (some Tryz.f95) (.n (.n .e (some Tryz.f351) .e) (some Tryz.f223) .e))) (some Tryz.f15) (.n (.n (.n (.n .e (some Tryz.f271) .e) (some Tryz.f143) .e) (some Tryz.f79) (.n (.n .e (some Tryz.f335) .e) (some Tryz.f207) .e)) (some Tryz.f47) (.n (.n (.n .e (some Tryz.f303) .e) (some Tryz.f175) .e) (some Tryz.f111) (.n (.n .e (some Tryz.f367) .e) (some Tryz.f239) .e)))) (some Tryz.f7) (.n (.n (.n (.n (.n .e (some Tryz.f263) .e) (some Tryz.f135) .e) (some Tryz.f71) (.n (.n .e (some Tryz.f327) .e) (some Tryz.f199) .e)) (some Tryz.f39) (.n (.n (.n .e (some Tryz.f295) .e) (some Tryz.f167) .e) (some Tryz.f103) (.n (.n .e (some Tryz.f359) .e) (some Tryz.f231) .e))) (some Tryz.f23) (.n (.n (.n (.n .e (some Tryz.f279) .e) (some Tryz.f151) .e) (some Tryz.f87) (.n (.n .e (some Tryz.f343) .e) (some Tryz.f215) .e)) (some Tryz.f55) (.n (.n (.n .e (some Tryz.f311) .e) (some Tryz.f183) .e) (some Tryz.f119) (.n .e (some Tryz.f247) .e))))) (some Tryz.f3) (.n (.n (.n (.n (.n .e (some Tryz.f131) .e) (some Tryz.f67) (.n (.n .e (some Tryz.f323) .e) (some Tryz.f195) .e)) (some Tryz.f35) (.n (.n (.n .e (some Tryz.f291) .e) (some Tryz.f163) .e) (some Tryz.f99) (.n (.n .e (some Tryz.f355) .e) (some Tryz.f227) .e))) (some Tryz.f19) (.n (.n (.n (.n .e (some Tryz.f275) .e) (some Tryz.f147) .e) (some Tryz.f83) (.n (.n .e (some Tryz.f339) .e) (some Tryz.f211) .e)) (some Tryz.f51) (.n (.n (.n .e (some Tryz.f307) .e) (some Tryz.f179) .e) (some Tryz.f115) (.n (.n .e (some Tryz.f371) .e) (some Tryz.f243) .e)))) (some Tryz.f11) (.n (.n (.n (.n (.n .e (some Tryz.f267) .e) (some Tryz.f139) .e) (some Tryz.f75) (.n (.n .e (some Tryz.f331) .e) (some Tryz.f203) .e)) (some Tryz.f43) (.n (.n (.n .e (some Tryz.f299) .e) (some Tryz.f171) .e) (some Tryz.f107) (.n (.n .e (some Tryz.f363) .e) (some Tryz.f235) .e))) (some Tryz.f27) (.n (.n (.n (.n .e (some Tryz.f283) .e) (some Tryz.f155) .e) (some Tryz.f91) (.n (.n .e (some Tryz.f347) .e) (some Tryz.f219) .e)) (some Tryz.f59) (.n (.n (.n .e (some Tryz.f315) .e) (some Tryz.f187) .e) (some Tryz.f123) (.n .e (some Tryz.f251) .e)))))) none (.n (.n (.n (.n (.n (.n (.n .e (some Tryz.f257) .e) (some Tryz.f129) .e) (some Tryz.f65) (.n (.n .e (some Tryz.f321) .e) (some Tryz.f193) .e)) (some Tryz.f33) (.n (.n (.n .e (some Tryz.f289) .e) (some Tryz.f161) .e) (some Tryz.f97) (.n (.n .e (some Tryz.f353) .e) (some Tryz.f225) .e))) (some Tryz.f17) (.n (.n (.n (.n .e (some Tryz.f273) .e) (some Tryz.f145) .e) (some Tryz.f81) (.n (.n .e (some Tryz.f337) .e) (some Tryz.f209) .e)) (some Tryz.f49) (.n (.n (.n .e (some Tryz.f305) .e) (some Tryz.f177) .e) (some Tryz.f113) (.n (.n .e (some Tryz.f369) .e) (some Tryz.f241) .e)))) (some Tryz.f9) (.n (.n (.n (.n (.n .e (some Tryz.f265) .e) (some Tryz.f137) .e) (some Tryz.f73) (.n (.n .e (some Tryz.f329) .e) (some Tryz.f201) .e)) (some Tryz.f41) (.n (.n (.n .e (some Tryz.f297) .e) (some Tryz.f169) .e) (some Tryz.f105) (.n (.n .e (some Tryz.f361) .e) (some Tryz.f233) .e))) (some Tryz.f25) (.n (.n (.n (.n .e (some Tryz.f281) .e) (some Tryz.f153) .e) (some Tryz.f89) (.n (.n .e (some Tryz.f345) .e) (some Tryz.f217) .e)) (some Tryz.f57) (.n (.n (.n .e (some Tryz.f313) .e) (some Tryz.f185) .e) (some Tryz.f121) (.n .e (some Tryz.f249) .e))))) (some Tryz.f5) (.n (.n (.n (.n (.n (.n .e (some Tryz.f261) .e) (some Tryz.f133) .e) (some Tryz.f69) (.n (.n .e (some Tryz.f325) .e) (some Tryz.f197) .e)) (some Tryz.f37) (.n (.n (.n .e (some Tryz.f293) .e) (some Tryz.f165) .e) (some Tryz.f101) (.n (.n .e (some Tryz.f357) .e) (some Tryz.f229) .e))) (some Tryz.f21) (.n (.n (.n (.n .e (some Tryz.f277) .e) (some Tryz.f149) .e) (some Tryz.f85) (.n (.n .e (some Tryz.f341) .e) (some Tryz.f213) .e)) (some Tryz.f53) (.n (.n (.n .e (some Tryz.f309) .e) (some Tryz.f181) .e) (some Tryz.f117) (.n .e (some Tryz.f245) .e)))) (some Tryz.f13) (.n (.n (.n (.n (.n .e (some Tryz.f269) .e) (some Tryz.f141) .e) (some Tryz.f77) (.n (.n .e (some Tryz.f333) .e) (some Tryz.f205) .e)) (some Tryz.f45) (.n (.n (.n .e (some Tryz.f301) .e) (some Tryz.f173) .e) (some Tryz.f109) (.n (.n .e (some Tryz.f365) .e) (some Tryz.f237) .e))) (some Tryz.f29) (.n (.n (.n (.n .e (some Tryz.f285) .e) (some Tryz.f157) .e) (some Tryz.f93) (.n (.n .e (some Tryz.f349) .e) (some Tryz.f221) .e)) (some Tryz.f61) (.n (.n (.n .e (some Tryz.f317) .e) (some Tryz.f189) .e) (some Tryz.f125) (.n .e (some Tryz.f253) .e))))))) none (.n (.n (.n (.n (.n (.n (.n (.n .e (some Tryz.f256) .e) (some Tryz.f128) .e) (some Tryz.f64) (.n .e (some Tryz.f192) .e)) (some Tryz.f32) (.n (.n (.n .e (some Tryz.f288) .e) (some Tryz.f160) .e) (some Tryz.f96) (.n (.n .e (some Tryz.f352) .e) (some Tryz.f224) .e))) (some Tryz.f16) (.n (.n (.n (.n .e (some Tryz.f272) .e) (some Tryz.f144) .e) (some Tryz.f80) (.n (.n .e (some Tryz.f336) .e) (some Tryz.f208) .e)) (some Tryz.f48) (.n (.n (.n .e (some Tryz.f304) .e) (some Tryz.f176) .e) (some Tryz.f112) (.n (.n .e (some Tryz.f368) .e) (some Tryz.f240) .e)))) (some Tryz.f8) (.n (.n (.n (.n (.n .e (some Tryz.f264) .e) (some Tryz.f136) .e) (some Tryz.f72) (.n (.n .e (some Tryz.f328) .e) (some Tryz.f200) .e)) (some Tryz.f40) (.n (.n (.n .e (some Tryz.f296) .e) (some Tryz.f168) .e) (some Tryz.f104) (.n (.n .e (some Tryz.f360) .e) (some Tryz.f232) .e))) (some Tryz.f24) (.n (.n (.n (.n .e (some Tryz.f280) .e) (some Tryz.f152) .e) (some Tryz.f88) (.n (.n .e (some Tryz.f344) .e) (some Tryz.f216) .e)) (some Tryz.f56) (.n (.n (.n .e (some Tryz.f312) .e) (some Tryz.f184) .e) (some Tryz.f120) (.n .e (some Tryz.f248) .e))))) (some Tryz.f4) (.n (.n (.n (.n (.n (.n .e (some Tryz.f260) .e) (some Tryz.f132) .e) (some Tryz.f68) (.n (.n .e (some Tryz.f324) .e) (some Tryz.f196) .e)) (some Tryz.f36) (.n (.n (.n .e (some Tryz.f292) .e) (some Tryz.f164) .e) (some Tryz.f100) (.n (.n .e (some Tryz.f356) .e) (some Tryz.f228) .e))) (some Tryz.f20) (.n (.n (.n (.n .e (some Tryz.f276) .e) (some Tryz.f148) .e) (some Tryz.f84) (.n (.n .e (some Tryz.f340) .e) (some Tryz.f212) .e)) (some Tryz.f52) (.n (.n (.n .e (some Tryz.f308) .e) (some Tryz.f180) .e) (some Tryz.f116) (.n .e (some Tryz.f244) .e)))) (some Tryz.f12) (.n (.n (.n (.n (.n .e (some Tryz.f268) .e) (some Tryz.f140) .e) (some Tryz.f76) (.n (.n .e (some Tryz.f332) .e) (some Tryz.f204) .e)) (some Tryz.f44) (.n (.n (.n .e (some Tryz.f300) .e) none .e) (some Tryz.f108) (.n (.n .e (some Tryz.f364) .e) (some Tryz.f236) .e))) (some Tryz.f28) (.n (.n (.n (.n .e (some Tryz.f284) .e) (some Tryz.f156) .e) (some Tryz.f92) (.n (.n .e (some Tryz.f348) .e) (some Tryz.f220) .e)) (some Tryz.f60) (.n (.n (.n .e (some Tryz.f316) .e) (some Tryz.f188) .e) (some Tryz.f124) (.n (.n .e (some Tryz.f380) .e) (some Tryz.f252) .e)))))) none (.n (.n (.n (.n (.n (.n (.n .e (some Tryz.f258) .e) (some Tryz.f130) (.n .e (some Tryz.f386) .e)) (some Tryz.f66) (.n (.n .e (some Tryz.f322) .e) (some Tryz.f194) .e)) (some Tryz.f34) (.n (.n (.n .e (some Tryz.f290) .e) (some Tryz.f162) .e) (some Tryz.f98) (.n (.n .e (some Tryz.f354) .e) (some Tryz.f226) .e))) (some Tryz.f18) (.n (.n (.n (.n .e (some Tryz.f274) .e) (some Tryz.f146) .e) (some Tryz.f82) (.n (.n .e (some Tryz.f338) .e) (some Tryz.f210) .e)) (some Tryz.f50) (.n (.n (.n .e (some Tryz.f306) .e) (some Tryz.f178) .e) (some Tryz.f114) (.n (.n .e (some Tryz.f370) .e) (some Tryz.f242) .e)))) (some Tryz.f10) (.n (.n (.n (.n (.n .e (some Tryz.f266) .e) (some Tryz.f138) .e) (some Tryz.f74) (.n (.n .e (some Tryz.f330) .e) (some Tryz.f202) .e)) (some Tryz.f42) (.n (.n (.n .e (some Tryz.f298) .e) (some Tryz.f170) .e) (some Tryz.f106) (.n (.n .e (some Tryz.f362) .e) (some Tryz.f234) .e))) (some Tryz.f26) (.n (.n (.n (.n .e (some Tryz.f282) .e) (some Tryz.f154) .e) (some Tryz.f90) (.n (.n .e (some Tryz.f346) .e) (some Tryz.f218) .e)) (some Tryz.f58) (.n (.n (.n .e (some Tryz.f314) .e) (some Tryz.f186) .e) (some Tryz.f122) (.n .e (some Tryz.f250) .e))))) (some Tryz.f6) (.n (.n (.n (.n (.n (.n .e (some Tryz.f262) .e) (some Tryz.f134) .e) (some Tryz.f70) (.n (.n .e (some Tryz.f326) .e) (some Tryz.f198) .e)) (some Tryz.f38) (.n (.n (.n .e (some Tryz.f294) .e) (some Tryz.f166) .e) (some Tryz.f102) (.n (.n .e (some Tryz.f358) .e) (some Tryz.f230) .e))) (some Tryz.f22) (.n (.n (.n (.n .e (some Tryz.f278) .e) (some Tryz.f150) .e) (some Tryz.f86) (.n (.n .e (some Tryz.f342) .e) (some Tryz.f214) .e)) (some Tryz.f54) (.n (.n (.n .e (some Tryz.f310) .e) (some Tryz.f182) .e) (some Tryz.f118) (.n (.n .e (some Tryz.f374) .e) (some Tryz.f246) .e)))) (some Tryz.f14) (.n (.n (.n (.n (.n .e (some Tryz.f270) .e) (some Tryz.f142) .e) (some Tryz.f78) (.n (.n .e (some Tryz.f334) .e) (some Tryz.f206) .e)) (some Tryz.f46) (.n (.n (.n .e (some Tryz.f302) .e) (some Tryz.f174) .e) (some Tryz.f110) (.n (.n .e (some Tryz.f366) .e) (some Tryz.f238) .e))) (some Tryz.f30) (.n (.n (.n (.n .e (some Tryz.f286) .e) (some Tryz.f158) .e) (some Tryz.f94) (.n (.n .e (some Tryz.f350) .e) (some Tryz.f222) .e)) (some Tryz.f62) (.n (.n (.n .e (some Tryz.f318) .e) (some Tryz.f190) .e) (some Tryz.f126) (.n .e (some Tryz.f254) .e))))))))
def NF{α:Type}:(Nat->Nat)->C7 α->List (Nat×α)
 |_,.e=>[]
 |g,.n l v r=>(match v with|some a=>[(g 0,a)]|none=>[])++(NF (fun k=>g (2*k+1)) l++NF (fun k=>g (2*k+2)) r)
theorem QM{α:Type}{p:Nat->α->Prop}:∀{t:C7 α} {g:Nat->Nat},(∀x∈NF g t,p x.1 x.2)->C7.Ud p g t
 | .e,g,_=>trivial
 | .n l v r,g,h=>by
  refine⟨?_,QM fun x hx=>h x ?_,QM fun x hx=>h x ?_⟩
  ·cases v with
   |none=>trivial
   |some a=>exact h (g 0,a) (by simp[NF])
  ·simp only[NF,Aj];exact .inr (.inl hx)
  ·simp only[NF,Aj];exact .inr (.inr hx)
theorem gK{α β:Type}{f g:α->β}:∀{l:List α},l.map f=l.map g->∀x∈l,f x=g x
 |y::l,h,x,hx=>by
  simp only[Ap,D1]at h;rcases Ab.1 hx with rfl|hx
  ·exact h.1
  ·exact gK h.2 x hx
theorem ft1:(NF (fun k=>k) ftT).map (fun x=>Tryz.prog.funcs[x.1]?)=(NF (fun k=>k) ftT).map (fun x=>some x.2):=kR
theorem ft2:(NF (fun k=>k) ftT).all (fun x=>fnB x.2)=true:=kR
theorem vG:C7.Ud (fun f fn=>Tryz.prog.funcs[f]? =some fn/\fnB fn=true) (fun k=>k) ftT:=QM fun x hx=>⟨gK ft1 x hx,AY.1 ft2 x hx⟩
def elT:C7 (Nat×Nat):=(.n (.n (.n (.n (.n .e none (.n .e none (.n (.n .e (some (67,104)) .e) none .e))) none (.n .e (some (32,32)) (.n .e (some (11,104)) .e))) (some (1,8)) (.n .e none (.n (.n .e (some (1,8)) .e) none .e))) none (.n (.n .e (some (1,16)) .e) (some (1,1)) (.n (.n .e none (.n .e (some (1,24)) .e)) none (.n (.n (.n (.n (.n .e (some (2,16)) .e) none .e) none .e) none (.n (.n (.n .e (some (172,256)) .e) none .e) none .e)) none (.n (.n .e (some (3,24)) .e) none .e))))) none (.n (.n (.n .e none (.n .e none (.n (.n .e none (.n .e (some (1,8)) .e)) (some (1,8)) .e))) none (.n (.n (.n .e none (.n .e none (.n (.n .e (some (3,24)) .e) none .e))) none .e) none .e)) none (.n (.n .e none (.n (.n .e none (.n .e none (.n .e (some (1,8)) .e))) none (.n .e (some (128,128)) .e))) none .e)))
theorem el1:(NF (fun k=>k) elT).all (fun x=>Ew Tryz.prog x.1 x.2.1 x.2.2)=true:=kR
theorem vH:C7.Ud (fun e x=>Ew Tryz.prog e x.1 x.2=true) (fun k=>k) elT:=QM fun x hx=>AY.1 el1 x hx
def aCE:C7 (List (Nat×List Nat)):=(.n (.n (.n (.n (.n (.n .e none (.n .e (some [(3,[0,1,2,3,4,5])]) .e)) none (.n (.n .e (some [(1,[0,1,2,4,5,6,8,9,11,12,13,3,7,10,14,15,16,17,18]),(7,[0,1,2,3,4,5,6,7,8])]) .e) (some [(1,[0,1,2,3])]) (.n .e none (.n .e (some [(1,[1,2,0,3,4,5,6,7,8])]) .e)))) (some [(6,[0,1,2,3,4,6,10,11,5,7,8,12,9,13,14,15,16])]) (.n (.n (.n (.n (.n .e (some [(1,[0,1,3,2,4,5,6])]) .e) none .e) none (.n .e (some [(3,[0,1,2,3,4,5,6,7,8,9,10,11,12,13,14,15,16,17,18,19,20,21,22,23])]) .e)) none (.n (.n .e (some [(10,[0,1,2,3,4,7,8,9,5,6,10,11])]) .e) none .e)) none (.n (.n .e (some [(1,[0,1,2,4,5,7,8,9,3,6,10,11,12,13])]) .e) none (.n (.n (.n .e (some [(1,[0,1,2,3,4,5,6,7,8])]) .e) none .e) none .e)))) none (.n (.n (.n .e none (.n (.n .e (some [(6,[0,1,2,3,4,5,6,7,8,9,10,11,12,13,14,15,16,17])]) .e) none (.n (.n .e (some [(1,[0,2,1,3,4])]) .e) (some [(6,[0,1,2,3,4,5,6,7,8,9,10,11,12,13,14,15,16])]) .e))) none (.n (.n (.n .e (some [(1,[0,2,3,4,1,5,6,7]),(7,[0,1,2,3,4,6,5,7,8])]) .e) (some [(1,[0,1,2,4,5,3,6,7,8])]) (.n (.n .e (some [(1,[0,1,2,4,3,5])]) .e) none .e)) none (.n .e none (.n (.n .e (some [(1,[0,1,2,3,4,5,6,7,8]),(9,[0,1,2,3,4,5,6,7,8,9,10,11,12,13,14,15]),(13,[0,1,2,3,4,5,6,7,8])]) .e) none .e)))) none (.n (.n (.n .e (some [(4,[0,1,2,3,4,5,6,7]),(6,[0,1,2,3,4,5,6,7,8,9,10,11,12,13,14,15,16,17]),(8,[0,1,2,3,4,5,6,7]),(10,[0,1,2,3,4,5,6,7])]) (.n (.n .e (some [(0,[0,1,2,3,4,5,6])]) .e) none .e)) none .e) (some [(6,[1,2,4,5,6,0,3,7,8,9])]) (.n (.n .e none (.n (.n .e (some [(4,[0,1,2,3,4,5,6,7,8,9,10,11,12,13,14,15])]) .e) none .e)) none (.n .e (some [(11,[0,1,2,3,4,5,6,7,8,9,10,11,12,13]),(12,[0,1,2,3,4,5,6,7,8,9,10,11,12,13,14,15,16]),(13,[0,1,2,3,4,5,6,7,8,9,10,11,12,13,14,15,17,18,16,19,20])]) (.n .e (some [(12,[0,1,2,3,4,5,6,7,8,9]),(13,[0,1,2,3,4,5,6,9,10,13,14,15,16,18,19,22,23,7,8,11,12,17,20,21,24,25,26,27]),(14,[0,1,2,3,4,5,6,7,8,9,10,11,12,13,14,15,16,17,18,19,20,21,22,23]),(18,[0,1,2,6,7,8,9,10,11,12,13,15,16,17,19,20,21,3,4,5,14,18,22,23])]) .e)))))) none (.n (.n (.n (.n .e none (.n .e (some [(1,[0,1,2,4,5,3,6,7]),(2,[0,1,2,3,6,7,4,5,8,9])]) .e)) none (.n (.n .e (some [(1,[0,1,2,4,5,3,6,7,8])]) .e) none .e)) (some [(9,[0,1,2,3,4,5,6,7,8,9,10,11,12]),(13,[0,1,2,3,4,5,6,7,8,9,10,11,12]),(15,[0,1,2,3,4,5,6,7,8,9]),(18,[0,1,2,3,4,5,6,7,8,9,10,11,12,13,14,15])]) (.n (.n (.n (.n .e (some [(1,[0,1,2,4,5,7,8,3,6,9,10,11,12]),(3,[0,1,2,3,4,5,6,7,8,9,10,11,12,13,14,15])]) .e) none .e) none .e) none (.n (.n (.n .e (some [(7,[0,2,1,3])]) .e) (some [(1,[0,1,2,4,5,3,6,7,8]),(3,[0,1,2,3,4,5,6,7,8,9,10,11,12,13,14]),(4,[0,1,2,3,4,5,6,7,8,9,10])]) (.n (.n .e (some [(2,[0,1,2,3,4,5,6,7])]) .e) none .e)) none .e))) none (.n (.n (.n .e none (.n (.n .e (some [(2,[0,1,2])]) .e) (some [(3,[0,1,2,3,4,5,6,7,8,9,10,11,12,13])]) (.n .e (some [(3,[0,1,2,3,4,5,6,8,7,9,10,11,12,13,14,15,16])]) .e))) none (.n (.n .e (some [(3,[0,1,2,3,4,5,6,7])]) .e) (some [(7,[0,1,2,3,4,5,6,7,8])]) (.n (.n (.n .e (some [(16,[0,1,2,3,4,5,6,7,8,9,10,11,12,13,14,15])]) .e) none .e) none .e))) (some [(1,[1,2,3,4,0,5,6,7,8])]) (.n (.n (.n (.n (.n .e (some [(7,[0,1,2,3,4,5,6,7,8,9,10,11,12,13,14]),(8,[0,1,2,3,4,5,6,7,8,9,10,11,12,13,14]),(9,[0,1,2,3,4,5,6,7,8,9,10,11,12,13,14]),(10,[0,1,2,3,4,5,6,7,8,9,10,11,12,13,14]),(17,[0,1,2,3,4,5,6,7,8,9,10,11,12,13,14]),(18,[0,1,2,3,4,5,6,7,8,9,10,11,12,13,14]),(23,[0,1,2,3,4,5,6,7,8,9,10,11,12,13,14])]) .e) none .e) none (.n .e (some [(8,[0,1,2,3,4])]) .e)) none (.n (.n (.n .e (some [(5,[1,2,0,3,4]),(7,[0,1,2,3,4,5,6,7,8,9,10,11,12,14,13,15,16]),(19,[0,1,2,3,4,5]),(20,[0,1,2,3,4,5])]) .e) none .e) none (.n .e (some [(0,[0,1,2,3,4,5,6,7,8,9,10,11,12,13])]) .e))) none (.n (.n .e none (.n (.n .e (some [(2,[0,1,2,3,4,5])]) .e) none .e)) none (.n (.n .e (some [(5,[0,1,3,4,2,5,6,7,8,9,10])]) .e) none .e)))))) none (.n (.n (.n (.n (.n (.n .e none (.n .e (some [(9,[0,1,2,3,4,5,6])]) .e)) (some [(10,[0,1,2,3,4,5,6])]) (.n (.n (.n .e (some [(3,[0,1,2,3,4,5,6,7,8,9,11,10,12,13,14,15,16,17,18,19])]) .e) (some [(6,[0,1,2,3,4])]) .e) none (.n .e (some [(11,[0,1,2,3,4,5])]) .e))) none (.n (.n .e (some [(1,[0,1,2,4,5,6,8,9,3,7,10,11,12,13])]) .e) none (.n .e none (.n .e (some [(3,[0,1,2,3,4,5,6,7,8,9,10,11,12,13])]) .e)))) (some [(10,[0,1,2,3,6,7,8,9,12,13,14,4,5,17,10,11,15,16,18,19,20,21,22])]) (.n (.n (.n (.n (.n .e (some [(1,[0,1,3,2,4,5,6])]) .e) (some [(16,[0,1,2,3,4,5,6])]) .e) (some [(1,[0,1,2,4,5,6,8,9,10,3,7,11,12,13,14]),(8,[0,1,2,3,4,5,6,7,8,9,10,11,12]),(14,[0,1,2,3,4,5,6,7,8,9,10,11,12,13,14,15]),(16,[0,1,2,3,4,5,6,7,8,9,10,11,12,13,14,15,16,17,18]),(17,[0,1,2,3,4,5,6,7]),(23,[0,1,2,3,4,5,6,7,8]),(24,[0,1,2,3,4,5,6,7,8])]) .e) none .e) none (.n (.n .e (some [(1,[0,1,2,4,5,7,8,9,11,12,13,3,6,10,14,15,16,17,18]),(6,[0,1,2,3,4,5,6,7,8,9,10,11,12])]) .e) none (.n .e (some [(1,[0,1,2,3,4,5,6,7]),(2,[0,1,2,3,4,6,5,7,8])]) (.n .e (some [(8,[0,1,2,3])]) .e))))) none (.n (.n (.n .e (some [(5,[0,1,2,3,4,5,6,7,8,9,10,11,12,13,14]),(19,[0,1,2,3,4,5,6,8,7,9,10,11,12])]) (.n (.n (.n .e (some [(1,[0,1,2,3,4,5,6,7,8])]) .e) (some [(10,[0,1,2,3,4,5])]) .e) (some [(5,[0,1,2,3,4,5,6,7,8,9,10,11,12,13])]) .e)) none (.n (.n .e (some [(1,[0,1,2,4,5,6,8,9,10,3,7,11,12,13,14]),(8,[0,1,2,3,4,5,6,7]),(9,[0,1,2,3,4,5,6,7,8]),(11,[0,1,2,3,4,5,6,7,8,9,10])]) (.n (.n .e (some [(6,[0,1,2,3,4,5,6,7,8,9])]) .e) none .e)) none (.n (.n (.n .e (some [(4,[0,1,2,3,4,5,6])]) .e) (some [(1,[1,2,4,5,0,3,6,7,8])]) .e) none .e))) none (.n (.n (.n (.n .e (some [(1,[0,1,2,3,4,5,6,7,8,9,10,11,12,13,14])]) .e) (some [(1,[0,1,2,4,5,6,8,9,11,12,3,7,10,13,14,15,16,17]),(4,[0,1,2,3,4,5,6,7,8,9,10,11,12,13,14])]) .e) none (.n (.n (.n .e (some [(1,[0,1,2,3,4,5,6,7,8,9,10,11,12,13,14,15,16])]) .e) none .e) none (.n .e (some [(1,[0,1,2,3,4,5,6,7,8,9,10,11,12,13,14,15,16,17,18,19]),(8,[0,1,2,3,4,5,6,7]),(11,[0,1,2,3,4,5,6,7,8,9,10,11,12,13,14,15,16]),(17,[0,1,2,3,4,5,6,7,8,9,10,11,12,13]),(23,[0,1,2,3,4,5,6,7,8,9]),(24,[0,1,2,3,4,5,6,7,8,9,10]),(28,[1,2,0,3,4])]) .e))) none (.n (.n (.n .e (some [(4,[0,1,2,3,4,5,6,7])]) .e) none (.n (.n .e (some [(9,[0,1,2,3,4,5,6,7,8,9,10])]) .e) none .e)) none (.n .e (some [(13,[0,1,2,3,4,5,6,7,8,9,10,11,12,13,14,15,16,17]),(17,[0,1,2,4,5,6,3,7])]) (.n (.n .e (some [(4,[2,3,4,5,6,9,0,1,7,8])]) .e) none .e)))))) none (.n (.n (.n .e (some [(1,[0,1,2,3,4,5,6,7])]) (.n (.n .e (some [(1,[0,1,2,4,5,7,8,9,3,6,10,11,12,13])]) .e) none (.n .e none (.n (.n .e (some [(2,[0,1,3,2,4,5,6])]) .e) none .e)))) none (.n (.n .e (some [(3,[0,1,2,3,4,5,6,7,8,9,10,11,12,13]),(4,[0,1,2,3,4,5,6,7,8,9,10,11,12,13,14,15,16]),(8,[0,1,2,3,4,5,6,7,8,9,10,11,12,13,14,15,16,17,18,19])]) (.n (.n (.n .e (some [(9,[0,1,2,3,4,5,6,7,8,9,10])]) .e) none .e) none (.n .e (some [(5,[0,1,2,3,4,5])]) .e))) none (.n (.n (.n .e (some [(16,[0,1,2,3,4,5,6,7,8,9,10,11,12,13]),(25,[0,1,2,3,4,5,6,7,8,9,10,11,12]),(26,[0,1,2,3,4,5,6,7,8,9,10,11,12,13,14,15]),(27,[0,1,2,3,4,5,6,7,8,9,10,11,12,13,14,15])]) .e) (some [(1,[0,1,2,3,4,5,6,7,8,9,10,11,12,13,14,15]),(2,[0,1,2,3,4,5,6,7,8,9])]) (.n (.n .e (some [(1,[0,1,2,3,4,5,6,7]),(6,[0,1,2,3,4,5,6,7,8,9,10,11,12,13,14,15,16,17,18]),(16,[0,1,2,3,4,5,6,7,8,9,10,11,12,13,14,15,16,17,18]),(19,[0,1,2,3,4,5,6,7,8,9,10,11,12,13,14])]) .e) none .e)) none .e))) (some [(11,[0,1,2,3,4,5,6,7,8]),(16,[0,1,3,5,2,4,6,7,8])]) (.n (.n (.n .e (some [(2,[0,1,2,3])]) (.n .e (some [(1,[0,1,2,3,4,5,6,7,8,9,10])]) .e)) none (.n (.n .e (some [(1,[0,1,2,4,5,6,3,7,8,9]),(10,[0,1,2,3,4,5,6,7,8,9,10,11,12,13,14,15,16,17,18,19,20,21,22,23,24,25,26,27,28]),(11,[0,1,2,3,4,5,6,7]),(12,[0,1,2,3,4,5,6,7,8,9]),(13,[0,1,2,3,4,5,6,7,8,9,10,11]),(15,[0,1,2,3,4,5,6,7]),(16,[0,1,2,3,4,5,6,7,8,9,10,11])]) .e) none (.n (.n (.n .e (some [(4,[0,1,2,3,4,5,6,7,8])]) .e) (some [(1,[0,1,2,3,4,5,6,7])]) .e) none .e))) (some [(9,[1,2,4,5,0,3,6,7,8])]) (.n (.n (.n .e none (.n .e (some [(3,[0,1,2,3,4]),(4,[0,1,2,3,4,5,6])]) .e)) none .e) none (.n (.n .e (some [(2,[0,1,2,3,4,5,6,7,8,9,10]),(10,[0,1,2,3,4,5,6,7,8,9,10]),(11,[0,1,2,3,4,5,6,7,8,9,10,11,12])]) .e) (some [(1,[0,2,3,1,4,5,6])]) (.n (.n (.n .e (some [(3,[0,1,2,3,4,5,6,7,8,9,10,11,12,13,14,15])]) .e) (some [(8,[0,1,2,3,4,5,6,7,8,9,10,11,12,13,14])]) .e) none .e)))))))
def rf:List (Nat×List Nat)->Nat->List Nat
 |[],_=>[]
 |x::r,k=>bif Nat.beq x.1 k then x.2 else rf r k
noncomputable def aCF(f id:Nat):List Nat:=match aCE.get f with|some l=>rf l id|none=>[]
def ltF(u:Nat):Option (List Kd):=bif Nat.beq u 23 then some (List.replicate 32 (.int .u8))else bif Nat.beq u 58 then some (List.replicate 128 (.int .u8))else bif Nat.beq u 44 then some (List.replicate 4 (.int .u64))else bif Nat.beq u 394 then some (List.replicate 8 (.int .u8))else none
theorem gP:∀u ls,ltF u=some ls->Vl Tryz.prog u ls:=by
 intro u ls h;unfold ltF at h;cases h23:Nat.beq u 23 with
 |true=>rw[h23]at h;obtain rfl:=AK h23;simp only[AN,AH]at h;subst h;exact JD Tryz.underlying23 kR kR Tryz.eqGuardType23
 |false=>
  rw[h23]at h;simp only[AO]at h;cases h58:Nat.beq u 58 with
  |true=>rw[h58]at h;obtain rfl:=AK h58;simp only[AN,AH]at h;subst h;exact JD Tryz.underlying58 kR kR Tryz.eqGuardType58
  |false=>
   rw[h58]at h;simp only[AO]at h;cases h44:Nat.beq u 44 with
   |true=>rw[h44]at h;obtain rfl:=AK h44;simp only[AN,AH]at h;subst h;exact JD Tryz.underlying44 kR kR Tryz.eqGuardType44
   |false=>
    rw[h44]at h;simp only[AO]at h;cases vI:Nat.beq u 394 with
    |true=>rw[vI]at h;obtain rfl:=AK vI;simp only[AN,AH]at h;subst h;exact JD Tryz.underlying394 kR kR Tryz.eqGuardType394
    |false=>rw[vI]at h;cases h
noncomputable def vJ(ct:Nat->Option (List AV->St->Option (List R1))):GI:=⟨TT,zt,ltF,elT.get,aCF,fun f=>match ftT.get f with|some fn=>some (oW fn)|none=>none,ct⟩
variable{RS:EA}
theorem oZ{ct:Nat->Option (List AV->St->Option (List R1))}(h:∀f c,ct f=some c->ET Tryz.prog RS f c)(k:∀f c,ct f=some c->E5 Tryz.prog f=true):En Tryz.prog RS (vJ ct) where
 T:=tt
 zt:=hz
 lt:=gP
 el:=fun e a b he=>vH.at he
 ft:=fun f fi hf=>by
  simp only[vJ]at hf;split at hf
  ·rename_i fn hfn;simp only[AH]at hf;subst hf;obtain⟨h1,h2⟩:=vG.at hfn;exact oY h1 h2
  ·cases hf
 ct:=h
 uy:=k
 mixed:=mixed
def gY(N δ:Nat)(a:AV):R1->Bool
 | .val v s=>gB v a&&(match s.hp.get 2 with|some (.res 2 [x])=>Nat.ble x δ|_=>false)&&s.md.all (fun k=>Nat.ble N k||Nat.beq k 2)
 | .Eu _ _=>false
def L8(E:GI)(ih:Ih)(f:Nat)(B:List AB)(DK:List AV)(a:AV)(δ:Nat):Bool:=nL B.length a&&Nat.blt 2 B.length&&Nat.ble B.length 16777216&&(match B7 E ih f DK (EC B)with|some rs=>rs.all (gY B.length δ a)|none=>false)
theorem vS{E:GI}(hE:En P RS E){ih:Ih}(hih:GK P RS ih){B:List AB}{DK:List AV}{a:AV}{δ:Nat}(h:L8 E ih f B DK a δ=true)
 {ρ:Nm}  (hρ:ρ.length=B.length) (hS:S.length=B.length) (hB:∀(k:Nat) (hk:k<B.length) (hk':k<S.length),Da RS ρ k B[k] S[k]) {vs:List Value} (hv:Bt ρ DK vs) {b2 c2:Nat} (h2:ρ[2]? =some (b2,c2)):
 Fn P f vs S (fun e S'=>∃v c' x,EM ρ a v/\e=.returned v/\S'=S.set 2 c'/\x<=δ/\RS 2 [x] b2 c'):=by
 unfold L8 at h;simp only[AI]at h;obtain⟨⟨⟨hnm,h2N⟩,J5⟩,hrun⟩:=h;have J5:B.length<=2^24:=AL J5;have h2N:2<B.length:=by simpa using h2N
 split at hrun
 ·rename_i rs hcall;rw[AY]at hrun;let N:=B.length
  let C0:Nat->List CH:=fun k=>S.getD k []
  have hC0:(List.range N).map C0=S:=by
   refine List.ext_getElem (by simp[N,hS]) fun i h1 h3=> ?_
   simp[C0,BR,AZ h3]
  let p0:Pt:=⟨ρ,EC B,[],S,List.range N,C0⟩
  have hget:∀k,(Gf 0 B .e).get k=if k<N then B[k]? else none:=fun k=>by rw[HL I];simp[C7.FC,N]
  have hp0:p0.good RS:=by
   refine⟨fun s a hs=>by simp[p0,EC,C7.FC]at hs,⟨hρ,Bc,fun k hk=>Ak.1 hk,?_,fun k ab hk=> ?_⟩,J5⟩
   ·show S.Perm ((List.range N).map C0);rw[hC0]
   ·have hk':(Gf 0 B .e).get k=some ab:=hk;rw[hget]at hk';by_cases hkN:k<N
    ·rw[BE hkN]at hk';obtain⟨_,e⟩:=Ae.1 hk';subst e;have gZ:k<S.length:=by rw[hS];exact hkN
     refine⟨Ak.2 hkN,?_⟩;have:=hB k hkN gZ;show Da RS ρ k _ (C0 k);rw[show C0 k=S[k] by simp[C0,BR,AZ gZ]];exact this
    ·rw[Ah hkN]at hk';cases hk'
  intro A U w hs;refine((FD hE hih hp0 hcall).2 vs hv A U w hs).mono ?_;rintro e w' ⟨hw,S',hs1,hret⟩;refine⟨hw,?_⟩;rcases hret with⟨a1,s,hm,q,v,e1,_,e3,hto,hgood,hcon,rfl⟩|⟨a1,s,hm,_⟩
  ·have hr:=hrun _ hm;simp only[gY,AI]at hr;obtain⟨⟨hle,hx⟩,hmd⟩:=hr;rw[AY]at hmd;split at hx
   ·rename_i x hg2;have hx:x<=δ:=AL hx;obtain⟨hl2,hc2⟩:=hgood.mem (k:=2) (ab:=.res 2 [x]) (by rw[e1];exact hg2);obtain⟨σ,y9⟩:=hto.ext;have hat:q.ρ[2]? =some (b2,c2):=by rw[y9];exact Dz σ h2
    have V8:∀k,k<N->k≠2->k∈q.live/\q.C k=C0 k:=fun k hk hk2=>hto.kept k (Ak.2 hk) (fun hm2=>by
     rw[e1]at hm2;have:=hmd k hm2;simp only[BI]at this;rcases this with h|h
     ·have:=AL h;omega
     ·exact hk2 (AK h))
    have hin:∀k,k<N->k∈q.live:=fun k hk=>by
     by_cases e:k=2
     ·subst e;exact hl2
     ·exact(V8 k hk e).1
    let rest:=q.live.filter (fun k=> !decide (k<N))
    have hperm:q.live.Perm (List.range N++rest):=by
     have e1:q.live.Perm (q.live.filter (fun k=>decide (k<N))++rest):=(CO _ _).symm;refine e1.trans (Bm _ ?_);refine(B8 (hgood.H.nd.filter _) Bc).2 fun k=> ?_
     simp only[Bh,Ak,decide_eq_true_eq];exact⟨fun hk=>hk.2,fun hk=>⟨hin k hk,hk⟩⟩
    have vT:q.S.Perm (rest.map q.C++(List.range N).map q.C):=by refine hgood.H.perm.trans ?_;have:=hperm.map q.C;rw[Ai]at this;exact this.trans CC
    have hset:(List.range N).map q.C=S.set 2 (q.C 2):=by
     refine List.ext_getElem (by simp[N,hS]) fun i h1 h3=> ?_
     simp only[D3,List.length_range]at h1;simp only[List.getElem_map,List.getElem_range,List.getElem_set];by_cases e:i=2
     ·subst e;simp
     ·rw[Ah (fun h=>e h.symm),(V8 i h1 e).2];have hiS:i<S.length:=by rw[hS];exact h1
      simp[C0,BR,AZ hiS]
    subst e3;cases hc2 with| @res _ b _ _ _ E8 hr=>
    rw[hat]at E8;cases E8;have I5:SZ N q.ρ ρ:=fun n hn=>by rw[y9];show(ρ++σ)[n]? =_;rw[BG (by rw[hρ];exact hn)]
    refine⟨S.set 2 (q.C 2),?_,v,q.C 2,x,JU I5 hnm (Kz hcon hle),rfl,rfl,hx,hr⟩;rw[<-hset];have h5:=hs1.perm (vT.append_right U);rw[AU]at h5;exact h5.drops
   ·cases hx
  ·have hr:=hrun _ hm;simp[gY]at hr
 ·cases hrun
abbrev P5:=Option (Ej×List Nat×List Nat)
def om(k:St->P5)(d:Option Nat)(rs:List R1):P5:=List.rec (motive:=fun _=>P5) (some ([],[],[]))
 (fun r _ ih=>R1.casesOn (motive:=fun _=>P5) r
  (fun a s=>Option.rec (motive:=fun _=>P5) none (fun x=>Option.rec (motive:=fun _=>P5) none (fun y=>some (x.1++y.1,x.2.1++y.2.1,s.md++x.2.2++y.2.2)) ih) (k (s.put d a)))
  (fun v s=>Option.rec (motive:=fun _=>P5) none (fun y=>some ((.Eu v,s)::y.1,y.2.1,s.md++y.2.2)) ih)) rs
theorem Um(k:St->P5)(d:Option Nat):∀rs:List R1,om k d rs=Xd k d rs
 |[]=>rfl
 | .val a s::q=>by
  have ih:=Um k d q;have e:om k d (.val a s::q)=Option.rec (motive:=fun _=>P5) none (fun x=>Option.rec (motive:=fun _=>P5) none (fun y=>some (x.1++y.1,x.2.1++y.2.1,s.md++x.2.2++y.2.2)) (om k d q)) (k (s.put d a)):=rfl;rw[e,Xd,ih];cases k (s.put d a)with
  |none=>rfl
  |some x=>
   obtain⟨o,L,M⟩:=x;simp only;cases Xd k d q with
   |none=>rfl
   |some y=>rfl
 | .Eu v s::q=>by
  have ih:=Um k d q;have e:om k d (.Eu v s::q)=Option.rec (motive:=fun _=>P5) none (fun y=>some ((.Eu v,s)::y.1,y.2.1,s.md++y.2.2)) (om k d q):=rfl;rw[e,Xd,ih];cases Xd k d q with
  |none=>rfl
  |some y=>rfl
def go1(k:St->P5)(d:Option Nat)(rs:List R1):P5:=List.casesOn (motive:=fun _=>P5) rs (some ([],[],[])) (fun r q=>R1.casesOn (motive:=fun _=>P5) r
 (fun a s=>List.casesOn (motive:=fun _=>P5) q (Option.rec (motive:=fun _=>P5) none (fun x=>some (x.1,x.2.1,s.md++x.2.2)) (k (s.put d a))) (fun _ _=>om k d rs))
 (fun _ _=>om k d rs))
theorem vU(k:St->P5)(d:Option Nat)(rs:List R1):go1 k d rs=Xd k d rs:=by
 cases rs with
 |nil=>rfl
 |cons r q=>
  cases r with
  |Eu v s=>show om k d (.Eu v s::q)=_;exact Um k d _
  |val a s=>
   cases q with
   |cons r2 q2=>show om k d (.val a s::r2::q2)=_;exact Um k d _
   |nil=>
    show Option.rec (motive:=fun _=>P5) none (fun x=>some (x.1,x.2.1,s.md++x.2.2)) (k (s.put d a))=_;rw[Xd];cases k (s.put d a)with
    |none=>rfl
    |some x=>obtain⟨o,L,M⟩:=x;simp[Xd]
def V9(E:GI)(ih:Ih)(n:Nat)(l:List FO):St->P5:=List.rec (motive:=fun _=>St->P5) (fun s=>some ([(.nor,s)],[],s.md))
 (fun x _ k s=>bif Lq n x.o.dst then Option.rec (motive:=fun _=>P5) none (fun r=>Option.rec (motive:=fun _=>P5) none (fun y=>some (y.1,r.2++y.2.1,y.2.2)) (go1 k x.o.dst r.1)) (aE E ih x s)else none) l
theorem QP(E:GI)(ih:Ih)(n:Nat):∀l:List FO,V9 E ih n l=LY E ih n l
 |[]=>rfl
 |x::r=>by
  have h:=QP E ih n r;funext s;have e:V9 E ih n (x::r) s=bif Lq n x.o.dst then Option.rec (motive:=fun _=>P5) none (fun q=>Option.rec (motive:=fun _=>P5) none (fun y=>some (y.1,q.2++y.2.1,y.2.2)) (go1 (V9 E ih n r) x.o.dst q.1)) (aE E ih x s)else none:=rfl;rw[e,LY,h];cases Lq n x.o.dst with
  |false=>rfl
  |true=>
   simp only[AN];cases aE E ih x s with
   |none=>rfl
   |some q=>
    obtain⟨rs,L⟩:=q;simp only[vU];cases Xd (LY E ih n r) x.o.dst rs with
    |none=>rfl
    |some y=>rfl
def WA{α β:Type}(l:List α)(f:α->Option (List β)):Option (List β):=List.rec (motive:=fun _=>Option (List β)) (some [])
 (fun x _ ih=>Option.rec (motive:=fun _=>Option (List β)) none (fun a=>Option.rec (motive:=fun _=>Option (List β)) none (fun b=>some (a++b)) ih) (f x)) l
theorem WB{α β:Type}(f:α->Option (List β)):∀l:List α,WA l f=Lp l f
 |[]=>rfl
 |x::r=>by
  have ih:=WB f r;have e:WA (x::r) f=Option.rec (motive:=fun _=>Option (List β)) none (fun a=>Option.rec (motive:=fun _=>Option (List β)) none (fun b=>some (a++b)) (WA r f)) (f x):=rfl;rw[e,Lp,ih];cases f x with
  |none=>rfl
  |some a=>simp only;cases Lp r f<;>rfl
def Xy(f:St->Option Ej)(x:Ex×St):Option Ej:=Ex.casesOn (motive:=fun _=>Option Ej) x.1 (f x.2) (some [(.ret,x.2)]) (fun j=>some [(.ex j,x.2)]) (fun v=>some [(.Eu v,x.2)])
def gg(o:Ej)(f:St->Option Ej):Option Ej:=List.casesOn (motive:=fun _=>Option Ej) o (some []) (fun x r=>List.casesOn (motive:=fun _=>Option Ej) r (Xy f x) (fun _ _=>WA o (Xy f)))
theorem oo(f:St->Option Ej)(x:Ex×St):Xy f x=(match x.1 with| .nor=>f x.2|e=>some [(e,x.2)]):=by obtain⟨e,s⟩:=x;cases e<;>rfl
theorem ZH(o:Ej)(f:St->Option Ej):gg o f=Hj o f:=by
 have h:WA o (Xy f)=Hj o f:=by
  rw[WB,Hj];congr 1
  funext x;exact oo f x
 cases o with
 |nil=>rfl
 |cons x r=>
  cases r with
  |cons _ _=>exact h
  |nil=>
   rw[<-h];show Xy f x=Option.rec (motive:=fun _=>Option Ej) none (fun a=>Option.rec (motive:=fun _=>Option Ej) none (fun b=>some (a++b)) (some [])) (Xy f x);cases Xy f x with
   |none=>rfl
   |some a=>simp
def gh(E:GI)(ih:Ih)(f n id:Nat)(An:List Oper)(s:St):Option Ej:=match US (E.ord f id)with
 |some (pre,z)=>bif HN An.toArray (pre++[z])&&FT An.toArray&&HO E.zt n An.toArray&&lastB An.toArray z then
  (match V9 E ih n (E2 An pre) {s with md:=[]}with
  |some (o,L,M)=>bif L.all (fun k=>Nat.blt k s.nx&& !(Gu k M))&&o.all IV then
   (match Hj o (fun s'=>match V9 E ih n (E2 An [z]) s' with|some (o',_,_)=>some o'|none=>none)with
   |some o2=>some (o2.map fun x=>(x.1,{x.2 with md:=x.2.md++s.md}))
   |none=>none)else none
  |none=>none)else none
 |none=>none
theorem gi(E:GI)(ih:Ih)(f n id:Nat)(An:List Oper)(s:St):gh E ih f n id An s=fj E ih f n id An s:=by unfold gh fj;simp only[QP];rfl
def vW(E:GI)(f n id:Nat)(An:List Oper):Bool:=HN An.toArray (E.ord f id)&&FT An.toArray&&HO E.zt n An.toArray
def vX(E:GI)(ih:Ih)(f n id:Nat)(An:List Oper)(draw:Bool)(s:St):Option Ej:=
 Bool.casesOn (motive:=fun _=>Option Ej) draw
  (bif I2 An then Option.rec (motive:=fun _=>Option Ej) none (fun y=>some y.1) (V9 E ih n (He An An 0) s)else none)
  (bif vW E f n id An then
   (match V9 E ih n (E2 An (E.ord f id)) {s with md:=[]}with
   |some (o,L,M)=>bif L.all (fun k=>Nat.blt k s.nx&& !(Gu k M))then some (o.map fun x=>(x.1,{x.2 with md:=x.2.md++s.md}))else gh E ih f n id An s
   |none=>none)else none)
theorem oq(E:GI)(ih:Ih)(f n id:Nat)(An:List Oper)(draw:Bool)(s:St):vX E ih f n id An draw s=aF E ih f n id An draw s:=by
 cases draw with
 |false=>
  show(bif I2 An then Option.rec (motive:=fun _=>Option Ej) none (fun y=>some y.1) (V9 E ih n (He An An 0) s)else none)=_;rw[QP];unfold aF;simp only[AO];cases I2 An with
  |false=>rfl
  |true=>
   simp only[AN];cases LY E ih n (He An An 0) s with
   |none=>rfl
   |some y=>rfl
 |true=>show(bif vW E f n id An then _ else none)=_;unfold aF vW;simp only[AN,QP,gi];rfl
def gj(g:St->Option Ej)(m:Nat):St->Option Ej:=Nat.rec (motive:=fun _=>St->Option Ej) (fun _=>none) (fun _ k s=>Option.rec (motive:=fun _=>Option Ej) none (fun o=>gg o k) (g s)) m
theorem ZI(g:St->Option Ej):∀m,gj g m=Xe g m
 |0=>rfl
 |m+1=>by
  have ih:=ZI g m;funext s;have e:gj g (m+1) s=Option.rec (motive:=fun _=>Option Ej) none (fun o=>gg o (gj g m)) (g s):=rfl;rw[e,Xe,ih];cases g s with
  |none=>rfl
  |some o=>exact ZH o _
inductive aAC
 |mk (f:GI->Ih->Nat->Nat->St->Option Ej)
def aAD(c:Code):aAC:=match c with
 | .skip=>.mk fun _ _ _ _ s=>some [(.nor,s)]
 | .label _=>.mk fun _ _ _ _ s=>some [(.nor,s)]
 | .ret=>.mk fun _ _ _ _ s=>some [(.ret,s)]
 | .exit id=>.mk fun _ _ _ _ s=>some [(.ex id,s)]
 | .seq a b=>.mk fun _ ih f n s=>Option.rec (motive:=fun _=>Option Ej) none (fun o=>gg o (ih f n b)) (ih f n a s)
 | .cond (.tmp t) a b=>.mk fun E ih f n s=>match s.fr.get t with
  |some (.boo (some c))=>bif c then ih f n a s else ih f n b s
  |_=>HB E ih f n (.cond (.tmp t) a b) s
 | .block id a=>.mk fun _ ih f n s=>Option.rec (motive:=fun _=>Option Ej) none (fun o=>some (P4 id o)) (ih f n a s)
 | .loop a=>.mk fun _ ih f n s=>gj (ih f n a) 100000 s
 | .scope a=>.mk fun _ ih f n s=>ih f n a s
 | .region id An draw=>.mk fun E ih f n s=>vX E ih f n id An.toList draw s
 |c=>.mk fun E ih f n s=>HB E ih f n c s
def PI(E:GI)(ih:Ih)(f n:Nat)(c:Code)(s:St):Option Ej:=aAC.casesOn (motive:=fun _=>Option Ej) (aAD c) (fun g=>g E ih f n s)
theorem Tc(E:GI)(ih:Ih)(f n:Nat)(c:Code)(s:St):PI E ih f n c s=HB E ih f n c s:=by
 unfold PI aAD;cases c with
 |seq a b=>
  show Option.rec (motive:=fun _=>Option Ej) none (fun o=>gg o (ih f n b)) (ih f n a s)=_;simp only[HB];cases ih f n a s with
  |none=>rfl
  |some o=>exact ZH o _
 |block id a=>show Option.rec (motive:=fun _=>Option Ej) none (fun o=>some (P4 id o)) (ih f n a s)=_;simp only[HB];cases ih f n a s<;>rfl
 |loop a=>show gj (ih f n a) 100000 s=_;simp only[HB,ZI]
 |region id An draw=>show vX E ih f n id An.toList draw s=_;simp only[HB,oq]
 |cond c a b=>
  cases c with
  |tmp t=>
   show(match s.fr.get t with|some (.boo (some c))=>bif c then ih f n a s else ih f n b s|_=>HB E ih f n (.cond (.tmp t) a b) s)=_;split
   ·rename_i c hc;simp only[HB,ao,hc]
   ·rfl
  |_=>rfl
 |_=>rfl
def E3(E:GI)(m:Nat):Ih:=Nat.rec (motive:=fun _=>Ih) (fun _ _ _ _=>none) (fun _ e=>PI E e) m
theorem WC(E:GI):∀m,E3 E m=exec E m
 |0=>rfl
 |m+1=>by have h:=WC E m;funext f n c s;show PI E (E3 E m) f n c s=exec E (m+1) f n c s;rw[Tc,h,exec]
section
variable{P:Program} {RS:EA} {E:GI}
theorem FG(hE:En P RS E)(m:Nat):GK P RS (E3 E m):=by rw[WC];exact Y6 hE m
def L9(E:GI)(hk:Hk)(m:Nat):Ih:=Nat.rec (motive:=fun _=>Ih) (fun _ _ _ _=>none) (fun _ e f n c s=>Option.rec (motive:=fun _=>Option Ej) (PI E e f n c s) (fun o=>some o) (hk f n c s)) m
theorem Td(E:GI)(hk:Hk):∀m,L9 E hk m=RH E hk m
 |0=>rfl
 |m+1=>by have h:=Td E hk m;funext f n c s;show Option.rec (motive:=fun _=>Option Ej) (PI E (L9 E hk m) f n c s) (fun o=>some o) (hk f n c s)=RH E hk (m+1) f n c s;rw[Tc,h,RH];cases hk f n c s<;>rfl
theorem KI(hE:En P RS E){hk:Hk}(hh:GK P RS hk)(m:Nat):GK P RS (L9 E hk m):=by rw[Td];exact V2 hE hh m
end
end
end Go.Proofs.YtfekkjbdcdnhlaaGreatDoor.Sep
