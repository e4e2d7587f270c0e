import Derived.Defers
import Derived.Recover
import Derived.Test.YtbcgocpihobjnaaGreatDoorCL12
import Derived.Test.YtbcgocpihobjnaaGreatDoorCL0
set_option linter.all false
set_option maxHeartbeats 4000000
set_option maxRecDepth 100000
namespace Go.Proofs.YtbcgocpihobjnaaGreatDoor
section
open Go.RowKit
theorem RU(w:World)(P:Nat->Prop)(p:Prd)(vs:List Value)(h:cK w P p vs)(hc:cO p<=1000000) :
  Calls Tryz.prog 136 #[.agg vs.toArray] w fun e w'=>e = .returned (.bool (sA p))/\Below w.heap.size w w':=by
 obtain⟨a,n,c,rfl,-⟩:=h.form;have h2:=h.mono (P':=fun g=>g<w.heap.size) (fun g _ hl=>hl);have b1:=(bwA w (.cells #[.int .i64 p.k,.string (aB p.l),.string (aB p.r),.int .i64 p.c,.slice a n c] 54)).alloc (by simp) (.cells #[.int .i64 100] 3);have PX:=I (h2.below b1);have QX:Hid (aC ((w.alloc (.cells #[.int .i64 p.k,.string (aB p.l),.string (aB p.r),.int .i64 p.c,.slice a n c] 54)).alloc (.cells #[.int .i64 100] 3)) (w.heap.size+1) 3 [.int .i64 ((100:Nat):Int)]):=I (heap_alloc2_new w _ _);have BX:=I b1;clear h h2 b1;generalize p.k=q0 at *;generalize aB p.l=q1 at *;generalize aB p.r=q2 at *;generalize p.c=q3 at *
 go_enter Tryz.func136,Tryz.ntmps136
 go_wp2_with fail
 generalize (w.alloc (.cells #[.int .i64 q0,.string q1,.string q2,.int .i64 q3,.slice a n c] 54)).alloc (.cells #[.int .i64 100] 3)=wx at *;refine(RT 12 p wx _ _ (w.heap.size+1) 100 (by omega) (by omega) hc PX.o QX.o (fun g hg=>by omega)).mono ?_;rintro e w2 ⟨o2,h1,h0⟩;have B2:=I (BX.o.trans (o2.below (B:=w.heap.size) BX.o.size (fun g hg=>by omega)));by_cases hs:cO p<=100/\oH p<=12
 ·obtain⟨rfl,-⟩:=h1 hs
  have HS:Hid (sA p=true):=I (by unfold sA;rw[decide_eq_true hs.1,decide_eq_true hs.2];rfl);clear h1 h0 hs o2
  go_wp2
  go_ret;exact⟨aF HS.o.symm,B2.o⟩
 ·obtain rfl:=h0 hs
  have HS:Hid (sA p=false):=I (by
   unfold sA;rw[Bool.eq_false_iff];intro h;simp only[dB,decide_eq_true_eq] at h
   exact hs h)
  clear h1 h0 hs o2
  go_wp2
  go_ret;exact⟨aF HS.o.symm,B2.o⟩
end
section
open Go.RowKit
theorem aC.newAt(w:World)(t:TypeId)(cs:List Value)(g:Nat)(hg:g=w.heap.size):aC (w.alloc (.cells cs.toArray t)) g t cs:=by subst hg;exact aC.new w t cs
end
section
open Go.RowKit
theorem RV:∀ a b:List Nat,(∀ y∈a,y<256)->(∀ y∈b,y<256)->Op.bytesLess (a.map UInt8.ofNat) (b.map UInt8.ofNat)=ltL a b
 | [],[],_,_=>rfl
 | [],_::_,_,_=>rfl
 | _::_,[],_,_=>rfl
 | x::xs,y::ys,ha,hb=>by
  have hx:=ha x (by simp);have hy:=hb y (by simp);have ih:=RV xs ys (fun z hz=>ha z (by simp[hz])) (fun z hz=>hb z (by simp[hz]))
  have e1:decide (UInt8.ofNat x<UInt8.ofNat y)=decide (x<y):=by
   rw[decide_eq_decide,UInt8.lt_iff_toNat_lt];simp[Nat.mod_eq_of_lt hx,Nat.mod_eq_of_lt hy]
  have e2:(UInt8.ofNat x==UInt8.ofNat y)=(x==y):=by
   rw[Bool.eq_iff_iff,beq_iff_eq,beq_iff_eq,<- UInt8.toNat_inj];simp[Nat.mod_eq_of_lt hx,Nat.mod_eq_of_lt hy]
  simp only[List.map_cons,Op.bytesLess,ltL,e1,e2,ih]
theorem DC(a b:List Nat)(ha:∀ y∈a,y<256)(hb:∀ y∈b,y<256):Op.bytesLess (aB a).toList (aB b).toList=ltL a b:=by
 rw[Nq,Nq,RV a b ha hb]
theorem RY(a b:List Nat)(w:World)(ha:∀ y∈a,y<256)(hb:∀ y∈b,y<256) :
  Calls Tryz.prog 185 #[.string (aB a),.string (aB b)] w fun e w'=>e = .returned (.int .i64 (vL a b))/\w=w':=by
 have h1:=DC a b ha hb;have h2:=DC b a hb ha;have HV:=I (show vL a b=if ltL a b=true then -1 else if ltL b a=true then 1 else 0 from rfl);generalize vL a b=V at *
 cases hx:ltL a b with
 | true =>
  rw[hx] at h1 HV;clear hx ha hb h2;generalize aB a=s at *;generalize aB b=t at *
  go_enter Tryz.func185,Tryz.ntmps185
  go_wp2
  go_ret;exact⟨mI (by rw[HV.o];rfl),rfl⟩
 | false =>
  cases hy:ltL b a with
  | true =>
   have he:((aB a).toList==(aB b).toList)=false:=by rw[Nr a b ha hb,beq_eq_false_iff_ne];rintro rfl;rw[Kp] at hy;cases hy
   rw[hx] at h1 HV;rw[hy] at HV;clear hx ha hb hy h2;generalize aB a=s at *;generalize aB b=t at *
   go_enter Tryz.func185,Tryz.ntmps185
   go_wp2
   go_ret;exact⟨mI (by rw[HV.o];rfl),rfl⟩
  | false =>
   have he:((aB a).toList==(aB b).toList)=true:=by
    rw[Nr a b ha hb,beq_iff_eq];rcases dt a b with h | h | h
    ·rw[hx] at h;cases h
    ·exact h
    ·rw[hy] at h;cases h
   have HX:Hid (V=0):=I (by rw[HV.o,hx,hy];rfl);rw[hx] at h1;clear hx ha hb hy h2 HV;generalize aB a=s at *;generalize aB b=t at *
   go_enter Tryz.func185,Tryz.ntmps185
   go_wp2
   go_ret;exact⟨mI HX.o.symm,rfl⟩
theorem U_(a b:Int)(w:World) :
  Calls Tryz.prog 186 #[.int .i64 a,.int .i64 b] w fun e w'=>e = .returned (.int .i64 (Sh a b))/\w=w':=by
 have HV:=I (show Sh a b=if a<b then -1 else if a=b then 0 else 1 from rfl);generalize Sh a b=V at *
 go_enter Tryz.func186,Tryz.ntmps186
 go_wp2
 all_goals
  go_ret;refine⟨mI ?_,rfl⟩;rw[HV.o]
  (repeat' split)<;>first | rfl | (exfalso;omega)
theorem V_(g cp:Nat)(a b c:Int)(w:World)(h0:w.cell? ⟨g,0,none⟩=some (.int .i64 a))(h1:w.cell? ⟨g,1,none⟩=some (.int .i64 b))(h2:w.cell? ⟨g,2,none⟩=some (.int .i64 c)) :
  Calls Tryz.prog 184 #[.slice (some ⟨g,0,none⟩) 3 cp] w fun e w'=>e = .returned (.int .i64 (or3 a b c))/\w=w':=by
 have HV:=I (show or3 a b c=if a≠0 then a else if b≠0 then b else c from rfl);generalize or3 a b c=V at *
 have k0:∀ x:Int,x=0->(x != 0)=false:=fun x h=>by rw[h];rfl
 have k1:∀ x:Int,x≠0->(x != 0)=true:=fun x h=>by rw[bne_iff_ne];exact h
 by_cases ha:a=0
 ·have ka:=k0 a ha
  by_cases hb:b=0
  ·have kb:=k0 b hb
   have HX:Hid (V=c):=I (by rw[HV.o,if_neg (by simp[ha]),if_neg (by simp[hb])]);by_cases hc:c=0
   ·have kc:=k0 c hc
    have HC:=I hc;clear ha hb hc k0 k1
    go_enter Tryz.func184,Tryz.ntmps184
    go_wp2
    refine wp_loop_rounds 4 ?_;rw[rounds_succ];go_wp2;rw[rounds_succ];go_wp2;rw[rounds_succ];go_wp2;rw[rounds_succ];go_wp2;go_ret;exact⟨mI (by rw[HX.o,HC.o]),rfl⟩
   ·have kc:=k1 c hc
    clear ha hb hc k0 k1
    go_enter Tryz.func184,Tryz.ntmps184
    go_wp2
    refine wp_loop_rounds 4 ?_;rw[rounds_succ];go_wp2;rw[rounds_succ];go_wp2;rw[rounds_succ];go_wp2;go_ret;exact⟨mI HX.o.symm,rfl⟩
  ·have kb:=k1 b hb
   have HX:Hid (V=b):=I (by rw[HV.o,if_neg (by simp[ha]),if_pos hb]);clear ha hb k0 k1
   go_enter Tryz.func184,Tryz.ntmps184
   go_wp2
   refine wp_loop_rounds 4 ?_;rw[rounds_succ];go_wp2;rw[rounds_succ];go_wp2;go_ret;exact⟨mI HX.o.symm,rfl⟩
 ·have ka:=k1 a ha
  have HX:Hid (V=a):=I (by rw[HV.o,if_pos ha]);clear ha k0 k1
  go_enter Tryz.func184,Tryz.ntmps184
  go_wp2
  refine wp_loop_rounds 4 ?_;rw[rounds_succ];go_wp2;go_ret;exact⟨mI HX.o.symm,rfl⟩
end
section
open Go.RowKit
theorem RZ(w:World) :
  Calls Tryz.prog 235 #[] w fun e w'=>e = .returned (.slice (some ⟨w.heap.size,0,none⟩) 8 8)/\aC w' w.heap.size 9 (tY.map (fun s=>.string (aB s)))/\Below w.heap.size w w':=by
 have R0:Hid (aC (w.alloc (.cells #[.string ⟨#[113,117,101,115,116,105,111,110]⟩,.string ⟨#[97,110,100]⟩,.string ⟨#[111,114]⟩,.string ⟨#[110,111,116]⟩,.string ⟨#[97,116]⟩,.string ⟨#[108,101,97,115,116]⟩,.string ⟨#[111,102]⟩,.string ⟨#[105,110]⟩] 9)) w.heap.size 9 (tY.map (fun s=>.string (aB s)))):=I (aC.new w 9 (tY.map (fun s=>.string (aB s))));have B0:=I (bwA w (.cells #[.string ⟨#[113,117,101,115,116,105,111,110]⟩,.string ⟨#[97,110,100]⟩,.string ⟨#[111,114]⟩,.string ⟨#[110,111,116]⟩,.string ⟨#[97,116]⟩,.string ⟨#[108,101,97,115,116]⟩,.string ⟨#[111,102]⟩,.string ⟨#[105,110]⟩] 9))
 go_enter Tryz.func235,Tryz.ntmps235
 go_wp2
 go_ret;exact⟨rfl,R0.o,B0.o⟩
theorem SD(g off cp n:Nat)(L:List (List Nat))(x:List Nat)(w:World)(hn:n=L.length)(hl:n<=1000000)(hr:dD w g off (L.map (fun s=>Value.string (aB s))))(hx:∀ y∈x,y<256)(hL:∀ s∈L,∀ y∈s,y<256) :
  Calls Tryz.prog 234 #[.slice (some ⟨g,off,none⟩) n cp,.string (aB x)] w fun e w'=>e = .returned (.bool (yN L x))/\w=w':=by
 have HA:=I (fun j hj=>SE hr j hj);have HE:Hid (∀ j,j<n->((aB (L.getD j [])).toList==(aB x).toList)=(L.getD j []==x)):=I (fun j hj=>Nr _ x (hL _ (by rw[List.getD,aL (by omega)];exact List.getElem_mem _)) hx);have HN:=I hn;clear hr hx hL hn;obtain⟨V,hV⟩:=exq (yN L x);rw[hV];have HV:=I hV;clear hV;generalize aB x=t at *
 go_enter Tryz.func234,Tryz.ntmps234
 go_wp2_with fail
 go_loop [5] (fun c=>∃ i:Nat,c = .int .i64 i/\i<=n/\Hid (∀ j,j<i->(L.getD j []==x)=false)) (fun c=>(n-intOf c).toNat)
 case atStart=>exact⟨0,rfl,by omega,I (fun j hj=>absurd hj (jU j))⟩
 case round =>
  obtain⟨i,rfl,hi,hz⟩:=hrel;have e2:=w1i i (by omega);by_cases aE:i<n
  ·have k1:=HA.o i (by rw[<- HN.o];exact aE)
   have hq:=HE.o i aE
   have ii:(i:Int)<n:=by omega
   obtain⟨q,hv⟩:∃ q,(L.getD i []==x)=q:=⟨_,rfl⟩;rw[hv] at hq;have HQ:=I hv;clear hv;generalize aB (L.getD i [])=u at *
   cases q with
   | true =>
    have HX:Hid (true=V):=I (by
     rw[<- HV.o];unfold yN;symm;rw[List.contains_iff_mem];rw[<- beq_iff_eq.1 HQ.o,List.getD,aL (by rw[<- HN.o];exact aE)]
     exact List.getElem_mem _)
    go_wp2
    all_goals
     go_ret;exact⟨aF HX.o,rfl⟩
   | false =>
    go_wp2
    go_round
    case rel=>exact⟨i+1,rfl,by omega,I (fun j hj=>by
     rcases gQ j i with h | h
     ·exact hz.o j h
     ·obtain rfl:j=i:=by omega
      exact HQ.o)⟩
    case measure=>simp[intOf];omega
  ·have ii:¬ ((i:Int)<n):=by omega
   have HX:Hid (false=V):=I (by
    rw[<- HV.o];unfold yN;symm;rw[Bool.eq_false_iff];intro h;obtain⟨j,hj,he⟩:=List.getElem_of_mem (List.contains_iff_mem.1 h);have:=hz.o j (by rw[HN.o] at hi aE;omega);rw[List.getD,aL hj,Option.getD_some,he] at this
    simp at this)
   go_wp2
   go_ret;exact⟨aF HX.o,rfl⟩
end
section
open Go.RowKit
section
variable {P:Program} {ops:Array Oper} {Q:Exit->Act->World->Prop} {md:Region.Mode} {S:World->Prop} {early:List Nat}
def lx:Op->Bool
 | .move _=>true
 | .assign _=>true
 | .load _ _=>true
 | .fieldAddr _ _ _=>true
 | .indexAddr _ _ _=>true
 | .nilCheck _=>true
 | .build _ _=>true
 | .binOp _ _ _ _ _=>true
 | .call c=>match c.callee with
  | .builtin .len=>true
  | _=>false
 | _=>false
theorem SG{P:Program}{ρ:Operand->Value}{o:Oper}(h:lx o.op=true){w w':World}{n:Next}(hr:(execOp ρ o).run P w = .ok n w'):∃ v,n = .value v:=by
 unfold execOp at hr
 cases jP:o.op with
 | move x=>rw[jP] at hr;simp only[Sem.run_pure] at hr;cases hr;exact⟨_,rfl⟩
 | assign x=>rw[jP] at hr;simp only[Sem.run_pure] at hr;cases hr;exact⟨_,rfl⟩
 | load t a=>rw[jP] at hr;exact Hi _ hr
 | build t ps=>rw[jP] at hr;exact Hi _ hr
 | fieldAddr t a f=>rw[jP] at hr;exact Hi _ hr
 | binOp b t x y u=>rw[jP] at hr;exact Hi _ hr
 | indexAddr t a f=>rw[jP] at hr;exact Hi _ hr
 | call c =>
  rw[jP] at hr h;obtain⟨cal,args,tys⟩:=c
  cases cal with
  | builtin b =>
   cases b<;>first | (simp[lx] at h;done) | (simp only[resolve,invoke,builtin,Sem.run_bind,Sem.run_pure,Result.andThen] at hr;exact Hi (w:=w) (w':=w') (Builtin.len_ tys o.type (args.map ρ)) (by simp only[Sem.run_bind,Sem.run_pure,Result.andThen];exact hr))
  | _=>simp[lx] at h
 | nilCheck x =>
  rw[jP] at hr
  have sK:∀ v:Value,(pure (Next.value v):Sem Next).run P w = .ok n w'->∃ v,n = .value v:=fun v h=>by
   simp only[Sem.run_pure] at h;cases h;exact⟨v,rfl⟩
  dsimp only at hr
  split at hr
  ·simp[runtimePanic] at hr
  ·simp[runtimePanic] at hr
  ·simp[runtimePanic] at hr
  ·split at hr
   ·simp[runtimePanic] at hr
   ·have uK:∀ {α:Type} (r:Result α) (f:α->World->Result Next),(∀ a w1,f a w1 = .ok n w'->∃ v,n = .value v)->r.andThen f = .ok n w'->∃ v,n = .value v:=fun r f hf h=>by
     cases r with
     | ok a w1=>exact hf a w1 h
     | halt x w1=>simp only[Result.andThen] at h;cases h
    simp only[Sem.run_bind] at hr;refine uK _ _ (fun a w1 h=>?_) hr;refine uK _ _ (fun a w1 h=>?_) h
    split at h
    ·simp only[Sem.run_bind] at h
     refine uK _ _ (fun a w1 h=>?_) h;simp only[Sem.run_pure] at h;cases h;exact⟨_,rfl⟩
    ·simp only[Sem.run_pure] at h;cases h;exact⟨_,rfl⟩
   ·exact sK _ hr
  ·exact sK _ hr
 | _=>rw[jP] at h;cases h
def ly(sz:Nat):List Oper->Bool
 | []=>true
 | o::l=>lx o.op&&(match o.dst with | some d=>decide (d<sz)&&l.all (fun o'=>o'.dst != some d) | none=>false)&&ly sz l
theorem SH{F:Act}{fuel:Nat}(gF:Region.noSelect ops=true)(hQ:∀ c a (d:Option Tmp) v w,Q (.panic c) (a.put d v) w->Q (.panic c) a w) :
  ∀ (l:List (Nat×Oper)) (listed:Array Bool) (a:Act) (w:World),(∀ p∈l,ops[p.1]?=some p.2)->Sk md ops early l listed=true->ly a.tmps.size (l.map (·.2))=true ->
   (∀ w',S w'->wpStill P ops w' (fun a'=>a'=F) (l.map (·.2)) a)->S w->wW P md ops Q S early fuel (Sl l listed) F w->wW P md ops Q S early (l.length+fuel) listed a w
 | [],listed,a,w,_,_,_,h,hS,H=>by
  have:a=F:=h w hS;subst this;rw[show([]:List (Nat×Oper)).length+fuel=fuel by simp];exact H
 | (k,o)::l,listed,a,w,hl,hB,hD,h,hS,H=>by
  have h0:ops[k]?=some o:=hl (k,o) (by simp)
  have uJ:∀ p∈l,ops[p.1]?=some p.2:=fun p hp=>hl p (List.mem_cons_of_mem _ hp)
  have key:∀ w',S w'->∃ v,YieldsAt P ops w' o v a/\wpStill P ops w' (fun a'=>a'=F) (l.map (·.2)) (a.put o.dst v):=fun w' bM=>by
   have aV:stOp P ops w' k (wpStill P ops w' (fun a'=>a'=F) (l.map (·.2))) a:=by unfold stOp;simp only[h0];exact h w' bM
   exact yieldsAt_of_stOp h0 aV
  simp only[Sk,dB] at hB;obtain⟨⟨⟨hf,hr⟩,ho⟩,hB'⟩:=hB;simp only[List.map_cons,ly,dB] at hD;obtain⟨⟨Ja,mR⟩,hD'⟩:=hD
  cases eD:o.dst with
  | none=>rw[eD] at mR;cases mR
  | some d =>
   rw[eD] at mR;simp only[dB,decide_eq_true_eq] at mR
   have hv:∀ w' v,wpStill P ops w' (fun a'=>a'=F) (l.map (·.2)) (a.put o.dst v)->v=(F.tmps[d]?).getD undef:=fun w' v hk=>by
    rw[CS d l _ uJ mR.2 hk,eD];simp only[Act.put];rw[Array.getElem?_setIfInBounds_self_of_lt mR.1];rfl
   have hy:YieldsIf P ops S o ((F.tmps[d]?).getD undef) a:=by
    have kY:∀ w',S w'->(Region.wanted o (yielded ops a.tmps)=true/\(execOp a.eval o).run P w' = .ok (.value ((F.tmps[d]?).getD undef)) w')\/(Region.wanted o (yielded ops a.tmps)=false/\(F.tmps[d]?).getD undef=undef):=fun w' bM=>by
     obtain⟨v,hy,hk⟩:=key w' bM;obtain rfl:=hv w' v hk;rcases hy with ⟨h1,h2 | ⟨h2,_⟩ | ⟨f,args,h2,_⟩⟩ | h1
     ·exact .inl ⟨h1,h2⟩
     ·obtain⟨_,h3⟩:=SG Ja h2;cases h3
     ·obtain⟨_,h3⟩:=SG Ja h2;cases h3
     ·exact .inr h1
    rcases kY w hS with ⟨h1,_⟩ | h1
    ·refine .inl ⟨h1,fun w' bM=>?_⟩
     rcases kY w' bM with h2 | h2
     ·exact h2.2
     ·rw[h1] at h2;cases h2.1
    ·exact .inr h1
   rw[show((k,o)::l).length+fuel=(l.length+fuel)+1 by simp;omega];refine QU k h0 (by simp[gF,hf,ho];simpa using hr) (fun c a w hh=>hQ c a _ _ w hh) hS hy ?_;refine SH gF hQ l _ _ w uJ hB' (by rw[QZ];exact hD') (fun w' bM=>?_) hS H;obtain⟨v',f5,kZ⟩:=key w' bM;rw[<- hv w' v' kZ];exact kZ
def Kv(P:Program)(ops:Array Oper)(Q:Exit->Act->World->Prop)(S:World->Prop):List Oper->Act->World->Prop
 | [],a,w=>Q .normal a w
 | o::l,a,w=>wpList P ops (Ks (fun a' w'=>S w'/\Kv P ops Q S l a' w') Q) [o] a w
theorem Sp{o:Oper}{l:List Oper}{a:Act}{w:World}(h:wpList P ops (Ks (fun a' w'=>S w'/\Kv P ops Q S l a' w') Q) [o] a w):Kv P ops Q S (o::l) a w:=h
theorem SI:∀ (l:List (Nat×Oper)) (listed:Array Bool) (a:Act) (w:World),(∀ p∈l,ops[p.1]?=some p.2)->No md ops l listed=true ->
  Kv P ops Q S (l.map (·.2)) a w->wW P md ops Q S early l.length listed a w
 | [],listed,a,w,_,hB,h=>CR hB h 0
 | (k,o)::l,listed,a,w,hl,hB,h=>by
  have h0:ops[k]?=some o:=hl (k,o) (by simp);rw[show((k,o)::l).length=l.length+1 from rfl];rw[No] at hB;simp only[dB] at hB
  have hr:Region.ready md ops listed=[k]:=by simpa using hB.1
  have h:wpList P ops (Ks (fun a' w'=>S w'/\Kv P ops Q S (l.map (·.2)) a' w') Q) [o] a w:=h
  have qR:=fun a' w'=>SI l (listed.setIfInBounds k true) a' w' (fun p hp=>hl p (List.mem_cons_of_mem _ hp)) hB.2
  have h3:wpOp P ops Q k (fun a' w'=>S w'/\Kv P ops Q S (l.map (·.2)) a' w') a w:=by
   unfold wpOp;simp only[h0];unfold wpList at h;split
   ·rename_i hw
    rw[if_pos hw] at h;exact h.imp CQ id
   ·rename_i hw
    rw[if_neg hw] at h;exact h
  refine⟨fun h1=>(by rw[hr] at h1;cases h1),fun j hj=>?_⟩;rw[hr] at hj
  obtain rfl:j=k:=by simpa using hj
  exact wpOp_mono (fun a' w' hq=>⟨fun _=>hq.1,qR a' w' hq.2⟩) h3
theorem SJ {id:Nat} {a:Act} {w:World} {l:List Oper} (hd tl:List Nat) (S:World->Prop) (hm:P.follows .mixedOrders=true)
  (hB:(Region.noSelect l.toArray&&Sk .any l.toArray (hd++tl) (iH l hd) (Array.replicate l.length false)&&No .any l.toArray (iH l tl) (Sl (iH l hd) (Array.replicate l.length false))&&decide ((iH l hd).length+(iH l tl).length=l.length))=true)
  (hD:ly a.tmps.size ((iH l hd).map (·.2))=true) (hQ:∀ c a (d:Option Tmp) v w,Q (.panic c) (a.put d v) w->Q (.panic c) a w) (hS:S w.drew)
  (h:∃ F,(∀ w',S w'->wpStill P l.toArray w' (fun a'=>a'=F) ((iH l hd).map (·.2)) a)/\Kv P l.toArray Q S ((iH l tl).map (·.2)) F w.drew):(Code.region id l.toArray true).wp P Q a w:=by
 obtain⟨F,h1,h2⟩:=h;simp only[dB,decide_eq_true_eq] at hB;obtain⟨⟨⟨gF,hh⟩,hs⟩,aQ⟩:=hB;refine QV S (hd++tl) hm ?_
 have iK:l.toArray.size=l.length:=by simp
 have H1:=SI (P:=P) (md:=.any) (ops:=l.toArray) (Q:=Q) (S:=S) (early:=(hd++tl)) (iH l tl) (Sl (iH l hd) (Array.replicate l.length false)) F w.drew (fun p hp=>by simpa using lk hp) hs h2
 have H2:=SH (P:=P) (md:=.any) (ops:=l.toArray) (Q:=Q) (S:=S) (early:=(hd++tl)) (F:=F) (fuel:=(iH l tl).length) gF hQ (iH l hd) (Array.replicate l.length false) a w.drew
  (fun p hp=>by simpa using lk hp) hh hD h1 hS H1
 rw[aQ] at H2;rw[iK];exact H2
end
end
section
open Go.RowKit
theorem SK{W:World}{P:Nat->Prop}{m1 m2:Prd}{g:Nat}{T:TypeId}{v1 v2:List Value}(h1:v1.length=5)(h:aC W g T (v1++v2))(p1:cK W P m1 v1)(p2:cK W P m2 v2):gE W P [m1,m2] g 0:=by
 unfold gE;refine⟨⟨v1,p1,fun j u hj=>?_⟩,?_⟩
 ·have hl:=(fD.1 hj).1
  rw[Nat.zero_add];exact h.cell j u (by rw[List.getElem?_append_left hl];exact hj)
 ·unfold gE
  refine⟨⟨v2,p2,fun j u hj=>?_⟩,by unfold gE;trivial⟩;exact h.cell (0+5+j) u (by rw[List.getElem?_append_right (by omega),h1];rw[show 0+5+j-5=j by omega];exact hj)
end
end Go.Proofs.YtbcgocpihobjnaaGreatDoor
