import Derived.Test.YtmkdfbelbcocpaaGreatDoorHP12
set_option linter.unusedVariables false
set_option linter.unusedSimpArgs false
set_option maxHeartbeats 16000000
set_option maxRecDepth 100000
namespace Go.Proofs.YtmkdfbelbcocpaaGreatDoor
section
open Go.RowKit
theorem sname_later (w:World) (R:Nat) (ao:Option Addr) (cap:Nat) (ts:List Tok) (sz i:Nat) (x y:Int) (h:SrcW w R ao cap ts sz i x y) (hx:x≠0) :
  Calls Tryz.prog 79 #[.pointer (some ⟨R,0,none⟩)] w fun e w'=>e = .returned (.string ⟨#[]⟩)∧Below w.heap.size w w':=by
 have H0:=ħ h
 obtain⟨c0,c1,c2,c3,c4⟩:=h.cells
 have hxb:(x==0)=false:=beq_eq_false_iff_ne.mpr hx
 have HX:=ħ hx
 clear h c0 c1 c2 c4 hx
 go_enter Tryz.func79,Tryz.ntmps79
 go_wp2_with fail
 go_quiet (fail)
 have hB:=ħ (below_drewN (Below.refl w.heap.size w) nq)
 have H1:=ħ (H0.o.step hB.o)
 clear c3
 generalize w.drewN nq=wd at *
 obtain⟨c0,c1,c2,c3,c4⟩:=H1.o.cells
 clear c0 c2 c3 c4
 go_wp2_with fail
 refine (sfail_later wd R ao cap ts sz i x y 12 i H1.o HX.o).mono ?_
 rintro e w2 ⟨rfl,rfl⟩
 go_wp2
 go_ret
 exact⟨rfl,hB.o⟩
theorem sname_end (w:World) (R:Nat) (ao:Option Addr) (cap:Nat) (ts:List Tok) (sz i:Nat) (y:Int) (h:SrcW w R ao cap ts sz i 0 y) (hk:¬ i<ts.length) (hi:i≤ts.length) (hn:ts.length≤1000000) :
  Calls Tryz.prog 79 #[.pointer (some ⟨R,0,none⟩)] w fun e w'=>e = .returned (.string ⟨#[]⟩)∧SrcW w' R ao cap ts sz i 12 (offP ts sz i:Nat)∧Only w w' (· = R):=by
 have H0:=ħ h
 obtain⟨c0,c1,c2,c3,c4⟩:=h.cells
 have hkb:decide ((i:Int)<(ts.length:Int))=false:=decide_eq_false (by omega)
 have hkc:decide (i<ts.length)=false:=decide_eq_false hk
 clear h c2 c4 hk
 go_enter Tryz.func79,Tryz.ntmps79
 go_wp2_with fail
 go_quiet (fail)
 have hB:=ħ (below_drewN (Below.refl w.heap.size w) nq)
 have H1:=ħ (H0.o.step hB.o)
 clear c3 c0 c1
 generalize w.drewN nq=wd at *
 obtain⟨c0,c1,c2,c3,c4⟩:=H1.o.cells
 clear c0 c2 c3 c4
 go_wp2_with fail
 refine (sfail_first wd R ao cap ts sz i i y 12 H1.o hi hn).mono ?_
 rintro e w2 ⟨rfl,h2,o2⟩
 have H2:=ħ h2
 have O2:=ħ o2
 clear h2 o2
 go_wp2
 go_ret
 exact⟨rfl,H2.o,(Only.of_below hB.o).trans O2.o⟩
theorem sname_not (w:World) (R:Nat) (ao:Option Addr) (cap:Nat) (ts:List Tok) (sz i:Nat) (y:Int) (h:SrcW w R ao cap ts sz i 0 y) (hlt:i<ts.length) (hk0:¬ (tokAt ts i).k=0) (hn:ts.length≤1000000) (hts:∀ t∈ts,TokOk t) :
  Calls Tryz.prog 79 #[.pointer (some ⟨R,0,none⟩)] w fun e w'=>Only w w' (· = R) ∧
   (isNamP ts i=true→e = .returned (.string (strN (txtP ts i)))∧SrcW w' R ao cap ts sz (i+1) 0 y)∧(isNamP ts i=false→e = .returned (.string ⟨#[]⟩)∧SrcW w' R ao cap ts sz i 12 (offP ts sz i:Nat)):=by
 have H0:=ħ h
 have hkb:decide ((i:Int)<(ts.length:Int))=true:=decide_eq_true (by omega)
 have hkc:decide (i<ts.length)=true:=decide_eq_true hlt
 have HV:=ħ (isNamP_at (ts:=ts) (i:=i) hlt)
 have HVV:=ħ (txtP_at (ts:=ts) (i:=i) hlt)
 have HTK:=ħ (tokAt_ok hts hlt)
 have e2:IntKind.i64.wrap ((i:Int)+1)=(i:Int)+1:=IntWalk.i64_in _ (by omega)
 obtain⟨V,hV⟩:∃ V,isNamP ts i=V:=⟨_,rfl⟩
 obtain⟨N,hN⟩:∃ N,txtP ts i=N:=⟨_,rfl⟩
 rw[hV] at HV ⊢
 rw[hN] at HVV ⊢
 clear hV hN h hts
 have HLT:=ħ hlt
 go_enter Tryz.func79,Tryz.ntmps79
 obtain⟨c0,c1,c2,c3,c4⟩:=H0.o.cells
 go_wp2_with fail
 go_quiet (fail)
 have H1:=ħ (H0.o.step (below_drewN (Below.refl w.heap.size w) nq))
 have B1:=ħ (below_drewN (Below.refl w.heap.size w) nq)
 clear c0 c1 c2 c3 c4
 generalize w.drewN nq=w1 at *
 go_upto_region 2 with (fail)
 obtain⟨c0,c1,c2,c3,c4⟩:=H1.o.cells
 obtain⟨g,off,hao,hg,t0,t1,t2,t3,-⟩:=H1.o.tok i HLT.o
 subst hao
 have A1:=(Below.refl w1.heap.size w1).alloc (Nat.le_refl _) (.cells #[.int .i64 0,.string ⟨#[]⟩,.int .i64 0,.int .i64 0] 169)
 have H2:=ħ (H1.o.step A1)
 clear A1
 obtain⟨d0,d1,d2,d3,d4⟩:=H2.o.cells
 obtain⟨g',off',hao,hg',u0,u1,u2,u3,-⟩:=H2.o.tok i HLT.o
 obtain⟨rfl,rfl⟩:g=g'∧off=off':=by simp only[Option.some.injEq,Addr.mk.injEq] at hao;exact⟨hao.1,hao.2.1⟩
 clear hao
 generalize tokAt ts i=T at *
 have ij:(i:Int)<ts.length:=by have:=HLT.o;omega
 clear hkb hkc
 go_region
 clear c0 c1 c2 c3 c4 d0 d1 d2 d3 d4 t0 t1 t2 t3 u0 u1 u2 u3 H2
 have T3:Hid (HasT (w1.alloc (.cells #[.int .i64 T.k,.string (strN T.t),.int .i64 T.n,.int .i64 T.p] 169)).drew w1.heap.size T):=ħ (HasT.new w1 T)
 have A3:=ħ (((Below.refl w1.heap.size w1).alloc (Nat.le_refl _) (.cells #[.int .i64 T.k,.string (strN T.t),.int .i64 T.n,.int .i64 T.p] 169)).drew)
 have H3:=ħ (H1.o.step A3.o)
 generalize (w1.alloc (.cells #[.int .i64 T.k,.string (strN T.t),.int .i64 T.n,.int .i64 T.p] 169)).drew=w3 at *
 obtain⟨c0,c1,c2,c3,c4⟩:=H3.o.cells
 obtain⟨q0,q1,q2,q3⟩:=T3.o.cells
 have f1:=H3.o.warm 1
 clear c0 c2 c3 c4 q2 q3
 obtain⟨κ,hκ⟩:∃ κ,T.k=κ:=⟨_,rfl⟩
 rw[hκ] at HV q0 hk0 ⊢
 clear hκ
 have k1:¬ κ=0:=hk0
 clear hk0
 have k1b:(κ==0)=false:=beq_eq_false_iff_ne.mpr k1
 have HVF:Hid (V=false):=ħ (by rw[HV.o,k1b];rfl)
 clear k1
 go_wp2_with fail
 go_quiet (fail)
 have H5:=ħ (H3.o.step (below_drewN (Below.refl w3.heap.size w3) nq))
 have B5:=ħ (below_drewN (Below.refl w3.heap.size w3) nq)
 clear c1 q0 q1 f1
 generalize w3.drewN nq=w5 at *
 obtain⟨c0,c1,c2,c3,c4⟩:=H5.o.cells
 clear c0 c2 c3 c4
 go_wp2_with fail
 refine (sfail_first w5 R _ cap ts sz i i y 12 H5.o (Nat.le_of_lt HLT.o) hn).mono ?_
 rintro e w4 ⟨rfl,h4,o4⟩
 have H4:=ħ h4
 have O4:=ħ o4
 clear h4 o4
 go_wp2
 go_ret
 refine⟨(((Only.of_below B1.o).step A3.o).step B5.o).trans O4.o,fun hf=>?_,fun _=>⟨rfl,H4.o⟩⟩
 rw[HVF.o] at hf;cases hf
end
section
open Go.RowKit
section
variable {P:Program} {ops:Array Oper} {Q:Exit→Act→World→Prop} {md:Region.Mode} {S:World→Prop} {early:List Nat}
def valueOp2:Op→Bool
 | .move _=>true
 | .assign _=>true
 | .load _ _=>true
 | .fieldAddr _ _ _=>true
 | .indexAddr _ _ _=>true
 | .nilCheck _=>true
 | .build _ _=>true
 | .binOp _ _ _ _ _=>true
 | _=>false
theorem value_of2 {P:Program} {ρ:Operand→Value} {o:Oper} (h:valueOp2 o.op=true) {w w':World} {n:Next} (hr:(execOp ρ o).run P w = .ok n w'):∃ v,n = .value v:=by
 unfold execOp at hr
 cases hop:o.op with
 | move x=>rw[hop] at hr;simp only[Sem.run_pure] at hr;cases hr;exact⟨_,rfl⟩
 | assign x=>rw[hop] at hr;simp only[Sem.run_pure] at hr;cases hr;exact⟨_,rfl⟩
 | load t a=>rw[hop] at hr;exact run_value _ hr
 | build t ps=>rw[hop] at hr;exact run_value _ hr
 | fieldAddr t a f=>rw[hop] at hr;exact run_value _ hr
 | binOp b t x y u=>rw[hop] at hr;exact run_value _ hr
 | indexAddr t a f=>rw[hop] at hr;exact run_value _ hr
 | nilCheck x =>
  rw[hop] at hr
  have hpure:∀ v:Value,(pure (Next.value v):Sem Next).run P w = .ok n w'→∃ v,n = .value v:=fun v h=>by
   simp only[Sem.run_pure] at h
   cases h
   exact⟨v,rfl⟩
  dsimp only at hr
  split at hr
  ·simp[runtimePanic] at hr
  ·simp[runtimePanic] at hr
  ·simp[runtimePanic] at hr
  ·split at hr
   ·simp[runtimePanic] at hr
   ·have hand:∀ {α:Type} (r:Result α) (f:α→World→Result Next),(∀ a w1,f a w1 = .ok n w'→∃ v,n = .value v)→r.andThen f = .ok n w'→∃ v,n = .value v:=fun r f hf h=>by
     cases r with
     | ok a w1=>exact hf a w1 h
     | halt x w1=>simp only[Result.andThen] at h;cases h
    simp only[Sem.run_bind] at hr
    refine hand _ _ (fun a w1 h=>?_) hr
    refine hand _ _ (fun a w1 h=>?_) h
    split at h
    ·simp only[Sem.run_bind] at h
     refine hand _ _ (fun a w1 h=>?_) h
     simp only[Sem.run_pure] at h;cases h;exact⟨_,rfl⟩
    ·simp only[Sem.run_pure] at h;cases h;exact⟨_,rfl⟩
   ·exact hpure _ hr
  ·exact hpure _ hr
 | _=>rw[hop] at h;cases h
def dstI2 (sz:Nat):List Oper→Bool
 | []=>true
 | o::l=>valueOp2 o.op&&(match o.dst with | some d=>decide (d<sz)&&l.all (fun o'=>o'.dst != some d) | none=>false)&&dstI2 sz l
theorem wpAnyT_stillJ {F:Act} {fuel:Nat} (hsel:Region.noSelect ops=true) (hQ:∀ c a (d:Option Tmp) v w,Q (.panic c) (a.put d v) w→Q (.panic c) a w) :
  ∀ (l:List (Nat×Oper)) (listed:Array Bool) (a:Act) (w:World),(∀ p∈l,ops[p.1]?=some p.2)→headI md ops early l listed=true→dstI2 a.tmps.size (l.map (·.2))=true →
   (∀ w',S w'→wpStill P ops w' (fun a'=>a'=F) (l.map (·.2)) a)→S w→wpAnyT P md ops Q S early fuel (setI l listed) F w→wpAnyT P md ops Q S early (l.length+fuel) listed a w
 | [],listed,a,w,_,_,_,h,hS,H=>by
  have:a=F:=h w hS
  subst this
  rw[show ([]:List (Nat×Oper)).length+fuel=fuel by simp]
  exact H
 | (k,o)::l,listed,a,w,hl,hB,hD,h,hS,H=>by
  have h0:ops[k]?=some o:=hl (k,o) (by simp)
  have hl':∀ p∈l,ops[p.1]?=some p.2:=fun p hp=>hl p (List.mem_cons_of_mem _ hp)
  have key:∀ w',S w'→∃ v,YieldsAt P ops w' o v a∧wpStill P ops w' (fun a'=>a'=F) (l.map (·.2)) (a.put o.dst v):=fun w' hw'=>by
   have hst:stOp P ops w' k (wpStill P ops w' (fun a'=>a'=F) (l.map (·.2))) a:=by unfold stOp;simp only[h0];exact h w' hw'
   exact yieldsAt_of_stOp h0 hst
  simp only[headI,Bool.and_eq_true] at hB
  obtain⟨⟨⟨hf,hr⟩,ho⟩,hB'⟩:=hB
  simp only[List.map_cons,dstI2,Bool.and_eq_true] at hD
  obtain⟨⟨hvo,hd1⟩,hD'⟩:=hD
  cases hdst:o.dst with
  | none=>rw[hdst] at hd1;cases hd1
  | some d =>
   rw[hdst] at hd1
   simp only[Bool.and_eq_true,decide_eq_true_eq] at hd1
   have hv:∀ w' v,wpStill P ops w' (fun a'=>a'=F) (l.map (·.2)) (a.put o.dst v)→v=(F.tmps[d]?).getD undef:=fun w' v hk=>by
    rw[still_keepsI d l _ hl' hd1.2 hk,hdst]
    simp only[Act.put]
    rw[Array.getElem?_setIfInBounds_self_of_lt hd1.1]
    rfl
   have hy:YieldsIf P ops S o ((F.tmps[d]?).getD undef) a:=by
    have hval:∀ w',S w'→(Region.wanted o (yielded ops a.tmps)=true∧(execOp a.eval o).run P w' = .ok (.value ((F.tmps[d]?).getD undef)) w')∨(Region.wanted o (yielded ops a.tmps)=false∧(F.tmps[d]?).getD undef=undef):=fun w' hw'=>by
     obtain⟨v,hy,hk⟩:=key w' hw'
     obtain rfl:=hv w' v hk
     rcases hy with ⟨h1,h2 | ⟨h2,_⟩ | ⟨f,args,h2,_⟩⟩ | h1
     ·exact .inl ⟨h1,h2⟩
     ·obtain⟨_,h3⟩:=value_of2 hvo h2;cases h3
     ·obtain⟨_,h3⟩:=value_of2 hvo h2;cases h3
     ·exact .inr h1
    rcases hval w hS with ⟨h1,_⟩ | h1
    ·refine .inl ⟨h1,fun w' hw'=>?_⟩
     rcases hval w' hw' with h2 | h2
     ·exact h2.2
     ·rw[h1] at h2;cases h2.1
    ·exact .inr h1
   rw[show ((k,o)::l).length+fuel=(l.length+fuel)+1 by simp;omega]
   refine wpAnyT_load k h0 (by simp[hsel,hf,ho];simpa using hr) (fun c a w hh=>hQ c a _ _ w hh) hS hy ?_
   refine wpAnyT_stillJ hsel hQ l _ _ w hl' hB' (by rw[put_size];exact hD') (fun w' hw'=>?_) hS H
   obtain⟨v',hy',hk'⟩:=key w' hw'
   rw[← hv w' v' hk']
   exact hk'
def wpTailS (P:Program) (ops:Array Oper) (Q:Exit→Act→World→Prop) (S:World→Prop):List Oper→Act→World→Prop
 | [],a,w=>Q .normal a w
 | o::l,a,w=>wpList P ops (postOf (fun a' w'=>S w'∧wpTailS P ops Q S l a' w') Q) [o] a w
theorem wpTailS_cons {o:Oper} {l:List Oper} {a:Act} {w:World} (h:wpList P ops (postOf (fun a' w'=>S w'∧wpTailS P ops Q S l a' w') Q) [o] a w):wpTailS P ops Q S (o::l) a w:=h
theorem wpAnyT_tailS:∀ (l:List (Nat×Oper)) (listed:Array Bool) (a:Act) (w:World),(∀ p∈l,ops[p.1]?=some p.2)→seqI md ops l listed=true →
  wpTailS P ops Q S (l.map (·.2)) a w→wpAnyT P md ops Q S early l.length listed a w
 | [],listed,a,w,_,hB,h=>wpAnyT_done hB h 0
 | (k,o)::l,listed,a,w,hl,hB,h=>by
  have h0:ops[k]?=some o:=hl (k,o) (by simp)
  rw[show ((k,o)::l).length=l.length+1 from rfl]
  rw[seqI] at hB
  simp only[Bool.and_eq_true] at hB
  have hr:Region.ready md ops listed=[k]:=by simpa using hB.1
  have h:wpList P ops (postOf (fun a' w'=>S w'∧wpTailS P ops Q S (l.map (·.2)) a' w') Q) [o] a w:=h
  have hrec:=fun a' w'=>wpAnyT_tailS l (listed.setIfInBounds k true) a' w' (fun p hp=>hl p (List.mem_cons_of_mem _ hp)) hB.2
  have h3:wpOp P ops Q k (fun a' w'=>S w'∧wpTailS P ops Q S (l.map (·.2)) a' w') a w:=by
   unfold wpOp
   simp only[h0]
   unfold wpList at h
   split
   ·rename_i hw
    rw[if_pos hw] at h
    exact h.imp wp_postOf id
   ·rename_i hw
    rw[if_neg hw] at h
    exact h
  refine⟨fun h1=>(by rw[hr] at h1;cases h1),fun j hj=>?_⟩
  rw[hr] at hj
  obtain rfl:j=k:=by simpa using hj
  exact wpOp_mono (fun a' w' hq=>⟨fun _=>hq.1,hrec a' w' hq.2⟩) h3
theorem wp_region_pickS {id:Nat} {a:Act} {w:World} {l:List Oper} (hd tl:List Nat) (S:World→Prop) (hm:P.follows .mixedOrders=true)
  (hB:(Region.noSelect l.toArray&&headI .any l.toArray (hd++tl) (pickI l hd) (Array.replicate l.length false)&&seqI .any l.toArray (pickI l tl) (setI (pickI l hd) (Array.replicate l.length false))&&decide ((pickI l hd).length+(pickI l tl).length=l.length))=true)
  (hD:dstI2 a.tmps.size ((pickI l hd).map (·.2))=true) (hQ:∀ c a (d:Option Tmp) v w,Q (.panic c) (a.put d v) w→Q (.panic c) a w) (hS:S w.drew)
  (h:∃ F,(∀ w',S w'→wpStill P l.toArray w' (fun a'=>a'=F) ((pickI l hd).map (·.2)) a)∧wpTailS P l.toArray Q S ((pickI l tl).map (·.2)) F w.drew):(Code.region id l.toArray true).wp P Q a w:=by
 obtain⟨F,h1,h2⟩:=h
 simp only[Bool.and_eq_true,decide_eq_true_eq] at hB
 obtain⟨⟨⟨hsel,hh⟩,hs⟩,hlen⟩:=hB
 refine wp_region_T S (hd++tl) hm ?_
 have hsz:l.toArray.size=l.length:=by simp
 have H1:=wpAnyT_tailS (P:=P) (md:=.any) (ops:=l.toArray) (Q:=Q) (S:=S) (early:=(hd++tl)) (pickI l tl) (setI (pickI l hd) (Array.replicate l.length false)) F w.drew (fun p hp=>by simpa using pickI_mem hp) hs h2
 have H2:=wpAnyT_stillJ (P:=P) (md:=.any) (ops:=l.toArray) (Q:=Q) (S:=S) (early:=(hd++tl)) (F:=F) (fuel:=(pickI l tl).length) hsel hQ (pickI l hd) (Array.replicate l.length false) a w.drew
  (fun p hp=>by simpa using pickI_mem hp) hh hD h1 hS H1
 rw[hlen] at H2
 rw[hsz]
 exact H2
end
end
section
open Go.RowKit
theorem sname_zero (w:World) (R:Nat) (ao:Option Addr) (cap:Nat) (ts:List Tok) (sz i:Nat) (y:Int) (h:SrcW w R ao cap ts sz i 0 y) (hlt:i<ts.length) (hk0:(tokAt ts i).k=0) (hn:ts.length≤1000000) (hts:∀ t∈ts,TokOk t) :
  Calls Tryz.prog 79 #[.pointer (some ⟨R,0,none⟩)] w fun e w'=>Only w w' (· = R) ∧
   (isNamP ts i=true→e = .returned (.string (strN (txtP ts i)))∧SrcW w' R ao cap ts sz (i+1) 0 y)∧(isNamP ts i=false→e = .returned (.string ⟨#[]⟩)∧SrcW w' R ao cap ts sz i 12 (offP ts sz i:Nat)):=by
 have H0:=ħ h
 have HK0:=ħ hk0
 clear hk0
 have hkb:decide ((i:Int)<(ts.length:Int))=true:=decide_eq_true (by omega)
 have hkc:decide (i<ts.length)=true:=decide_eq_true hlt
 have HV:=ħ (isNamP_at (ts:=ts) (i:=i) hlt)
 have HVV:=ħ (txtP_at (ts:=ts) (i:=i) hlt)
 have HTK:=ħ (tokAt_ok hts hlt)
 have e2:IntKind.i64.wrap ((i:Int)+1)=(i:Int)+1:=IntWalk.i64_in _ (by omega)
 obtain⟨V,hV⟩:∃ V,isNamP ts i=V:=⟨_,rfl⟩
 obtain⟨N,hN⟩:∃ N,txtP ts i=N:=⟨_,rfl⟩
 rw[hV] at HV ⊢
 rw[hN] at HVV ⊢
 clear hV hN h hts
 have HLT:=ħ hlt
 go_enter Tryz.func79,Tryz.ntmps79
 obtain⟨c0,c1,c2,c3,c4⟩:=H0.o.cells
 go_wp2_with fail
 go_quiet (fail)
 have H1:=ħ (H0.o.step (below_drewN (Below.refl w.heap.size w) nq))
 have B1:=ħ (below_drewN (Below.refl w.heap.size w) nq)
 clear c0 c1 c2 c3 c4
 generalize w.drewN nq=w1 at *
 go_upto_region 2 with (fail)
 obtain⟨c0,c1,c2,c3,c4⟩:=H1.o.cells
 obtain⟨g,off,hao,hg,t0,t1,t2,t3,-⟩:=H1.o.tok i HLT.o
 subst hao
 have A1:=(Below.refl w1.heap.size w1).alloc (Nat.le_refl _) (.cells #[.int .i64 0,.string ⟨#[]⟩,.int .i64 0,.int .i64 0] 169)
 have H2:=ħ (H1.o.step A1)
 clear A1
 obtain⟨d0,d1,d2,d3,d4⟩:=H2.o.cells
 obtain⟨g',off',hao,hg',u0,u1,u2,u3,-⟩:=H2.o.tok i HLT.o
 obtain⟨rfl,rfl⟩:g=g'∧off=off':=by simp only[Option.some.injEq,Addr.mk.injEq] at hao;exact⟨hao.1,hao.2.1⟩
 clear hao
 generalize tokAt ts i=T at *
 have ij:(i:Int)<ts.length:=by have:=HLT.o;omega
 clear hkb hkc
 go_region
 clear c0 c1 c2 c3 c4 d0 d1 d2 d3 d4 t0 t1 t2 t3 u0 u1 u2 u3 H2
 have T3:Hid (HasT (w1.alloc (.cells #[.int .i64 T.k,.string (strN T.t),.int .i64 T.n,.int .i64 T.p] 169)).drew w1.heap.size T):=ħ (HasT.new w1 T)
 have A3:=ħ (((Below.refl w1.heap.size w1).alloc (Nat.le_refl _) (.cells #[.int .i64 T.k,.string (strN T.t),.int .i64 T.n,.int .i64 T.p] 169)).drew)
 have H3:=ħ (H1.o.step A3.o)
 generalize (w1.alloc (.cells #[.int .i64 T.k,.string (strN T.t),.int .i64 T.n,.int .i64 T.p] 169)).drew=w3 at *
 obtain⟨c0,c1,c2,c3,c4⟩:=H3.o.cells
 obtain⟨q0,q1,q2,q3⟩:=T3.o.cells
 have f1:=H3.o.warm 1
 clear c0 c2 c3 c4 q2 q3
 obtain⟨κ,hκ⟩:∃ κ,T.k=κ:=⟨_,rfl⟩
 have hk0:=HK0.o
 rw[hκ] at HV q0 hk0 ⊢
 clear hκ
 subst hk0
 have HN2:Hid (T.t=N):=ħ HVV.o.symm
 have TO:=ħ HTK.o
 go_upto_region 3 with (fail)
 refine wp_region_pickS [0,1,2,3,5,6] [4,7,8,9] (fun w'=>w'.cell? ⟨w1.heap.size,0,none⟩=some (.int .i64 0)∧w'.cell? ⟨w1.heap.size,1,none⟩=some (.string (strN T.t))) (by kernel_rfl) (by kernel_rfl) (by kernel_rfl) (fun c a d v w' hh=>by cases d<;>exact hh) ⟨q0,q1⟩ ?_
 simp only[pickI,List.filterMap_cons,List.filterMap_nil,List.getElem?_cons_zero,List.getElem?_cons_succ,Option.map_some,List.map_cons,List.map_nil]
 apply Exists.intro
 refine⟨?hh,?ht⟩
 case hh =>
  intro w' hw'
  obtain⟨x0,x1⟩:=hw'
  repeat still_step
  exact wpStill_nil rfl
 case ht =>
  have D3:Hid (Below w3.heap.size w3 w3.drew):=ħ (Below.refl w3.heap.size w3).drew
  have T4:Hid (HasT w3.drew w1.heap.size T):=ħ T3.o
  have H4:=ħ (H3.o.step D3.o)
  have L4:Hid (w1.heap.size<w3.drew.heap.size):=ħ ((Array.getElem?_eq_some_iff.1 T4.o).1)
  generalize w3.drew=w4 at *
  refine wpTailS_cons ?_
  go_wp2_with fail
  refine (rwords_any w4).mono ?_
  rintro e w6 ⟨rfl,h6,b6⟩
  have W6:=ħ h6
  have T6:=ħ (T4.o.below b6 L4.o)
  have B6:=ħ b6
  clear h6 b6
  go_wp2_with fail
  refine postOf_normal ⟨⟨T6.o.cells.1.trans (by rw[HK0.o]),T6.o.cells.2.1⟩,?_⟩
  refine wpTailS_cons ?_
  go_wp2_with fail
  refine (rhas_any w4.heap.size 0 8 8 wordsL T.t w6 rfl (by omega) (fun j u hj=>by rw[Nat.zero_add];exact W6.o.cell j u hj) TO.o.byte (by decide)).mono ?_
  rintro e w7 ⟨rfl,rfl⟩
  have H6:=ħ (H4.o.step B6.o)
  have O6:=ħ (((Only.of_below (p:=(· = R)) B1.o).step A3.o).step D3.o)
  have O7:=ħ (O6.o.step B6.o)
  have HVX:Hid (V=!hasL wordsL T.t):=ħ (by rw[HV.o];unfold freeB;rw[TO.o.name HK0.o];rfl)
  have RN:Hid (w1.heap.size≠R):=ħ (by have:=H1.o.lt;omega)
  have s0:=T6.o.cells.1.trans (by rw[HK0.o]:_=some (Value.int .i64 0))
  have s1:=T6.o.cells.2.1
  clear c1 q0 q1 f1
  cases hh:hasL wordsL T.t with
  | false =>
   rw[hh] at HVX
   go_wp2_with fail
   refine postOf_normal ⟨⟨s0,s1⟩,?_⟩
   refine wpTailS_cons ?_
   go_wp2_with fail
   refine postOf_normal ⟨⟨s0,s1⟩,?_⟩
   refine wpTailS_cons ?_
   go_wp2_with fail
   refine postOf_normal ⟨⟨s0,s1⟩,?_⟩
   unfold wpTailS
   obtain⟨c0,c1,c2,c3,c4⟩:=H6.o.cells
   have f1:=H6.o.warm 1
   have q4:=(cell_set_other w6 ⟨R,1,none⟩ (.int .i64 ((i:Int)+1)) ⟨w1.heap.size,1,none⟩ RN.o).trans s1
   clear c0 c2 c3 c4 s0 hh
   go_wp2_with fail
   go_ret
   refine⟨O7.o.trans (SrcW.nextOnly R 1 _),fun _=>⟨by rw[HN2.o];rfl,H6.o.next (i+1)⟩,fun hf=>?_⟩
   rw[HVX.o] at hf;cases hf
  | true =>
   rw[hh] at HVX
   go_wp2_with fail
   refine postOf_normal ⟨⟨s0,s1⟩,?_⟩
   refine wpTailS_cons ?_
   go_wp2_with fail
   refine postOf_normal ⟨⟨s0,s1⟩,?_⟩
   refine wpTailS_cons ?_
   go_wp2_with fail
   refine postOf_normal ⟨⟨s0,s1⟩,?_⟩
   unfold wpTailS
   obtain⟨c0,c1,c2,c3,c4⟩:=H6.o.cells
   clear c0 c2 c3 c4 s0 s1 hh
   go_wp2_with fail
   refine (sfail_first w6 R _ cap ts sz i i y 12 H6.o (Nat.le_of_lt HLT.o) hn).mono ?_
   rintro e w8 ⟨rfl,h8,o8⟩
   have H8:=ħ h8
   have O8:=ħ o8
   clear h8 o8
   go_wp2
   go_ret
   refine⟨O7.o.trans O8.o,fun hf=>?_,fun _=>⟨rfl,H8.o⟩⟩
   rw[HVX.o] at hf;cases hf
end
section
open Go.RowKit
theorem sname_any (w:World) (R:Nat) (ao:Option Addr) (cap:Nat) (ts:List Tok) (sz i:Nat) (y:Int) (h:SrcW w R ao cap ts sz i 0 y) (hi:i≤ts.length) (hn:ts.length≤1000000) (hts:∀ t∈ts,TokOk t) :
  Calls Tryz.prog 79 #[.pointer (some ⟨R,0,none⟩)] w fun e w'=>Only w w' (· = R)∧match nameP ts sz i with
   | .ok r=>e = .returned (.string (strN r.1))∧SrcW w' R ao cap ts sz r.2 0 y
   | .error z=>e = .returned (.string ⟨#[]⟩)∧SrcW w' R ao cap ts sz i z.1 (z.2:Nat):=by
 have key:∀ (e:Ending) (w':World),(Only w w' (· = R)∧(isNamP ts i=true→e = .returned (.string (strN (txtP ts i)))∧SrcW w' R ao cap ts sz (i+1) 0 y)∧(isNamP ts i=false→e = .returned (.string ⟨#[]⟩)∧SrcW w' R ao cap ts sz i 12 (offP ts sz i:Nat))) →
   Only w w' (· = R)∧match nameP ts sz i with
   | .ok r=>e = .returned (.string (strN r.1))∧SrcW w' R ao cap ts sz r.2 0 y
   | .error z=>e = .returned (.string ⟨#[]⟩)∧SrcW w' R ao cap ts sz i z.1 (z.2:Nat):=by
  rintro e w' ⟨o,h1,h2⟩
  unfold nameP
  cases hq:isNamP ts i with
  | true=>exact⟨o,h1 hq⟩
  | false=>exact⟨o,h2 hq⟩
 by_cases hlt:i<ts.length
 ·by_cases hk:(tokAt ts i).k=0
  ·exact (sname_zero w R ao cap ts sz i y h hlt hk hn hts).mono key
  ·exact (sname_not w R ao cap ts sz i y h hlt hk hn hts).mono key
 ·have hq:isNamP ts i=false:=by unfold isNamP;rw[List.getElem?_eq_none (by omega)]
  refine (sname_end w R ao cap ts sz i y h hlt hi hn).mono ?_
  rintro e w' ⟨h1,h2,o⟩
  exact key e w' ⟨o,(fun hf=>absurd (hq.symm.trans hf) Bool.false_ne_true),(fun _=>⟨h1,h2⟩)⟩
end
section
open Go.RowKit
abbrev StP:=Except (Int×Nat) Nat
def SrcS (w:World) (R:Nat) (ao:Option Addr) (cap:Nat) (ts:List Tok) (sz:Nat) (s:StP):Prop:=match s with
 | .ok i=>i≤ts.length∧∃ y,SrcW w R ao cap ts sz i 0 y
 | .error z=>z.1≠0∧∃ i,i≤ts.length∧SrcW w R ao cap ts sz i z.1 (z.2:Nat)
def errS (s:StP):Int:=match s with
 | .ok _=>0
 | .error z=>z.1
theorem SrcS.get {w:World} {R cap sz:Nat} {ao:Option Addr} {ts:List Tok} {s:StP} (h:SrcS w R ao cap ts sz s):∃ i y,i≤ts.length∧SrcW w R ao cap ts sz i (errS s) y∧(∀ k,s = .ok k→k=i)∧(errS s=0↔s = .ok i):=by
 cases s with
 | ok k =>
  obtain⟨h1,y,h2⟩:=h
  exact⟨k,y,h1,h2,(fun j hj=>by cases hj;rfl),⟨fun _=>rfl,fun _=>rfl⟩⟩
 | error z =>
  obtain⟨h0,i,h1,h2⟩:=h
  exact⟨i,_,h1,h2,(fun j hj=>by cases hj),⟨fun hz=>absurd hz h0,(fun hz=>by cases hz)⟩⟩
theorem SrcS.lt {w:World} {R cap sz:Nat} {ao:Option Addr} {ts:List Tok} {s:StP} (h:SrcS w R ao cap ts sz s):R<w.heap.size:=by
 obtain⟨i,y,-,h2,-⟩:=h.get
 exact h2.lt
theorem SrcS.step {w w':World} {R cap sz:Nat} {ao:Option Addr} {ts:List Tok} {s:StP} (h:SrcS w R ao cap ts sz s) (hb:Below w.heap.size w w'):SrcS w' R ao cap ts sz s:=by
 cases s with
 | ok k=>exact⟨h.1,h.2.choose,h.2.choose_spec.step hb⟩
 | error z=>exact⟨h.1,h.2.choose,h.2.choose_spec.1,h.2.choose_spec.2.step hb⟩
def isS (ts:List Tok) (s:List Nat):StP→Bool
 | .ok i=>isP ts s i
 | .error _=>false
theorem is_s (w:World) (R:Nat) (ao:Option Addr) (cap:Nat) (ts:List Tok) (sz:Nat) (st:StP) (s:List Nat) (h:SrcS w R ao cap ts sz st) (hn:ts.length≤1000000) (hts:∀ t∈ts,TokOk t) (hs:∀ y∈s,y<256) :
  Calls Tryz.prog 142 #[.pointer (some ⟨R,0,none⟩),.string (strN s)] w fun e w'=>e = .returned (.bool (isS ts s st))∧Below w.heap.size w w':=by
 cases st with
 | ok i=>obtain⟨-,y,h2⟩:=h;exact sis_any w R ao cap ts sz i y s h2 hn hts hs
 | error z=>obtain⟨h0,i,-,h2⟩:=h;exact sis_later w R ao cap ts sz i z.1 _ (strN s) h2 h0
theorem isS_ok {ts:List Tok} {s:List Nat} {st:StP} (h:isS ts s st=true):∃ i,st = .ok i∧i<ts.length∧isP ts s i=true:=by
 cases st with
 | ok i=>exact⟨i,rfl,isP_lt h,h⟩
 | error z=>cases h
theorem take_s (w:World) (R:Nat) (ao:Option Addr) (cap:Nat) (ts:List Tok) (sz:Nat) (st:StP) (s:List Nat) (h:SrcS w R ao cap ts sz st) (hn:ts.length≤1000000) (hts:∀ t∈ts,TokOk t) (hs:∀ y∈s,y<256) :
  Calls Tryz.prog 78 #[.pointer (some ⟨R,0,none⟩),.string (strN s)] w fun e w'=>e = .returned (.tuple #[])∧SrcS w' R ao cap ts sz (st.bind (takeP ts sz s))∧Only w w' (· = R):=by
 cases st with
 | ok i =>
  obtain⟨h1,y,h2⟩:=h
  cases hy:isP ts s i with
  | true =>
   refine (stake_ok w R ao cap ts sz i y s h2 hn hts hs hy).mono ?_
   rintro e w' ⟨he,h3,ho⟩
   refine⟨he,?_,ho⟩
   show SrcS w' R ao cap ts sz (takeP ts sz s i)
   rw[takeP_yes hy]
   exact⟨isP_lt hy,y,h3⟩
  | false =>
   refine (stake_no w R ao cap ts sz i y s h2 h1 hn hts hs hy).mono ?_
   rintro e w' ⟨he,h3,ho⟩
   refine⟨he,?_,ho⟩
   show SrcS w' R ao cap ts sz (takeP ts sz s i)
   rw[takeP_no hy]
   exact⟨(show (12:Int)≠0 by decide),i,h1,h3⟩
 | error z =>
  obtain⟨h0,i,h1,h2⟩:=h
  refine (stake_later w R ao cap ts sz i z.1 _ (strN s) h2 h0).mono ?_
  rintro e w' ⟨he,hb⟩
  exact⟨he,⟨h0,i,h1,h2.step hb⟩,Only.of_below hb⟩
def nxS {α:Type} (r:PR α):StP:=r.map Prod.snd
def nmbV:PR Nat→Nat
 | .ok r=>r.1
 | .error _=>0
def nmeV:PR (List Nat)→List Nat
 | .ok r=>r.1
 | .error _=>[]
theorem num_s (w:World) (R:Nat) (ao:Option Addr) (cap:Nat) (ts:List Tok) (sz:Nat) (st:StP) (h:SrcS w R ao cap ts sz st) (hn:ts.length≤1000000) :
  Calls Tryz.prog 295 #[.pointer (some ⟨R,0,none⟩)] w fun e w'=>e = .returned (.int .i64 (nmbV (st.bind (numP ts sz)):Nat))∧SrcS w' R ao cap ts sz (nxS (st.bind (numP ts sz)))∧Only w w' (· = R):=by
 cases st with
 | ok i =>
  obtain⟨h1,y,h2⟩:=h
  refine (snum_any w R ao cap ts sz i y h2 h1 hn).mono ?_
  rintro e w' ⟨ho,hr⟩
  show e = .returned (.int .i64 (nmbV (numP ts sz i):Nat))∧SrcS w' R ao cap ts sz (nxS (numP ts sz i))∧_
  cases hk:isNumP ts i with
  | true =>
   rw[numP_yes hk] at hr ⊢
   exact⟨hr.1,⟨isNumP_lt hk,y,hr.2⟩,ho⟩
  | false =>
   rw[numP_no hk] at hr ⊢
   exact⟨hr.1,⟨(show (12:Int)≠0 by decide),i,h1,hr.2⟩,ho⟩
 | error z =>
  obtain⟨h0,i,h1,h2⟩:=h
  refine (snum_later w R ao cap ts sz i z.1 _ h2 h0).mono ?_
  rintro e w' ⟨he,hb⟩
  exact⟨he,⟨h0,i,h1,h2.step hb⟩,Only.of_below hb⟩
theorem name_s (w:World) (R:Nat) (ao:Option Addr) (cap:Nat) (ts:List Tok) (sz:Nat) (st:StP) (h:SrcS w R ao cap ts sz st) (hn:ts.length≤1000000) (hts:∀ t∈ts,TokOk t) :
  Calls Tryz.prog 79 #[.pointer (some ⟨R,0,none⟩)] w fun e w'=>e = .returned (.string (strN (nmeV (st.bind (nameP ts sz)))))∧SrcS w' R ao cap ts sz (nxS (st.bind (nameP ts sz)))∧Only w w' (· = R):=by
 cases st with
 | ok i =>
  obtain⟨h1,y,h2⟩:=h
  refine (sname_any w R ao cap ts sz i y h2 h1 hn hts).mono ?_
  rintro e w' ⟨ho,hr⟩
  show e = .returned (.string (strN (nmeV (nameP ts sz i))))∧SrcS w' R ao cap ts sz (nxS (nameP ts sz i))∧_
  cases hk:isNamP ts i with
  | true =>
   rw[nameP_yes hk] at hr ⊢
   exact⟨hr.1,⟨isNamP_lt hk,y,hr.2⟩,ho⟩
  | false =>
   rw[nameP_no hk] at hr ⊢
   exact⟨hr.1,⟨(show (12:Int)≠0 by decide),i,h1,hr.2⟩,ho⟩
 | error z =>
  obtain⟨h0,i,h1,h2⟩:=h
  refine (sname_later w R ao cap ts sz i z.1 _ h2 h0).mono ?_
  rintro e w' ⟨he,hb⟩
  exact⟨he,⟨h0,i,h1,h2.step hb⟩,Only.of_below hb⟩
def failS (ts:List Tok) (sz:Nat) (z:Int) (i:Nat) (st:StP):StP:=st.bind (fun _=>.error (z,offP ts sz i))
theorem fail_s (w:World) (R:Nat) (ao:Option Addr) (cap:Nat) (ts:List Tok) (sz:Nat) (st:StP) (i:Nat) (z:Int) (h:SrcS w R ao cap ts sz st) (hz:z≠0) (hi:i≤ts.length) (hn:ts.length≤1000000) :
  Calls Tryz.prog 81 #[.pointer (some ⟨R,0,none⟩),.int .i64 z,.int .i64 (i:Int)] w fun e w'=>e = .returned (.tuple #[])∧SrcS w' R ao cap ts sz (failS ts sz z i st)∧Only w w' (· = R):=by
 cases st with
 | ok k =>
  obtain⟨h1,y,h2⟩:=h
  refine (sfail_first w R ao cap ts sz i k y z h2 hi hn).mono ?_
  rintro e w' ⟨he,h3,ho⟩
  exact⟨he,⟨hz,k,h1,h3⟩,ho⟩
 | error x =>
  obtain⟨h0,k,h1,h2⟩:=h
  refine (sfail_later w R ao cap ts sz k x.1 _ z (i:Int) h2 h0).mono ?_
  rintro e w' ⟨he,rfl⟩
  exact⟨he,⟨h0,k,h1,h2⟩,Only.refl w _⟩
theorem SrcS.next {w:World} {R cap sz i:Nat} {ao:Option Addr} {ts:List Tok} (h:SrcS w R ao cap ts sz (.ok i)) (hi:i<ts.length):SrcS (w.setCell ⟨R,1,none⟩ (.int .i64 ((i+1:Nat):Int))) R ao cap ts sz (.ok (i+1)):=by
 obtain⟨-,y,h2⟩:=h
 exact⟨hi,y,h2.next (i+1)⟩
theorem SrcS.at {w:World} {R cap sz i:Nat} {ao:Option Addr} {ts:List Tok} (h:SrcS w R ao cap ts sz (.ok i)):∃ y,SrcW w R ao cap ts sz i 0 y:=h.2
end
section
open Go.RowKit
theorem nmbV_le {ts:List Tok} (hts:∀ t∈ts,TokOk t) (sz:Nat) (st:StP):nmbV (st.bind (numP ts sz))≤1099511627776:=by
 cases st with
 | error z=>exact Nat.zero_le _
 | ok i =>
  show nmbV (numP ts sz i)≤_
  cases hk:isNumP ts i with
  | true=>rw[numP_yes hk];exact valP_le hts i
  | false=>rw[numP_no hk];exact Nat.zero_le _
theorem nmeV_len {ts:List Tok} (sz:Nat) (st:StP):(nmeV (st.bind (nameP ts sz))).length≤20:=by
 cases st with
 | error z=>exact Nat.zero_le _
 | ok i =>
  show (nmeV (nameP ts sz i)).length≤_
  cases hk:isNamP ts i with
  | true=>rw[nameP_yes hk];exact txtP_len hk
  | false=>rw[nameP_no hk];exact Nat.zero_le _
abbrev SumQ (w:World) (R:Nat) (ao:Option Addr) (cap:Nat) (ts:List Tok) (sz:Nat) (r:PR SumV) (e:Ending) (w':World):Prop :=
 (∃ a:SumV,e = .returned (.tuple #[.string (strN a.1),.int .i64 a.2])∧∀ q,r = .ok q→q.1=a)∧SrcS w' R ao cap ts sz (nxS r)∧Only w w' (· = R)
theorem ssum_minus (w:World) (R:Nat) (ao:Option Addr) (cap:Nat) (ts:List Tok) (sz i:Nat) (h:SrcS w R ao cap ts sz (.ok i)) (hn:ts.length≤1000000) (hts:∀ t∈ts,TokOk t) (hm:isP ts [45] i=true) :
  Calls Tryz.prog 251 #[.pointer (some ⟨R,0,none⟩)] w fun e w'=>SumQ w R ao cap ts sz (sumP ts sz i) e w':=by
 have HS:=ħ (is_s w R ao cap ts sz (.ok i) [45] h hn hts (by decide))
 rw[show isS ts [45] (.ok i)=true from hm] at HS
 have hlt:=isP_lt hm
 have HLT:=ħ hlt
 have EV:Hid (sumP ts sz i=(numP ts sz (i+1)).bind (fun m=>.ok (([],-(m.1:Int)),m.2))):=ħ (by unfold sumP;rw[if_pos hm])
 have e2:IntKind.i64.wrap ((i:Int)+1)=(i:Int)+1:=IntWalk.i64_in _ (by omega)
 have H0:=ħ h
 have HTS:=ħ hts
 have HNV:=ħ (nmbV_le hts sz (.ok (i+1)))
 have HNU:=ħ (fun W (hW:SrcS W R ao cap ts sz (.ok (i+1)))=>num_s W R ao cap ts sz (.ok (i+1)) hW hn)
 rw[EV.o]
 rw[show Except.bind (.ok (i+1)) (numP ts sz)=numP ts sz (i+1) from rfl] at HNV HNU
 clear EV
 obtain⟨r,hr⟩:∃ r,numP ts sz (i+1)=r:=⟨_,rfl⟩
 rw[hr] at HNV HNU ⊢
 clear hr
 obtain⟨N,hN⟩:∃ N,nmbV r=N:=⟨_,rfl⟩
 rw[hN] at HNV HNU
 have HN:=ħ hN
 clear hN
 have e1:IntKind.i64.wrap (-((N:Nat):Int)) = -((N:Nat):Int):=IntWalk.i64_in _ (by have:=HNV.o;omega)
 clear h hm hts hlt
 go_enter Tryz.func251,Tryz.ntmps251
 go_wp2_with fail
 refine HS.o.mono ?_
 rintro e w1 ⟨rfl,b1⟩
 have H1:=ħ (H0.o.step b1)
 have O1:=ħ (Only.of_below (p:=(· = R)) b1)
 clear b1 HS H0
 obtain⟨y,hy⟩:=H1.o.at
 obtain⟨c0,c1,c2,c3,c4⟩:=hy.cells
 have f1:=hy.warm 1
 clear c0 c2 c3 c4 hy
 go_wp2_with fail
 have H2:Hid (SrcS (w1.setCell ⟨R,1,none⟩ (.int .i64 ((i:Int)+1))) R ao cap ts sz (.ok (i+1))):=ħ (H1.o.next HLT.o)
 have O2:Hid (Only w (w1.setCell ⟨R,1,none⟩ (.int .i64 ((i:Int)+1))) (· = R)):=ħ (O1.o.trans (SrcW.nextOnly R 1 _))
 clear c1 f1 H1 O1
 generalize w1.setCell ⟨R,1,none⟩ (.int .i64 ((i:Int)+1))=w2 at *
 refine (HNU.o w2 H2.o).mono ?_
 rintro e w3 ⟨rfl,h3,o3⟩
 have H3:=ħ h3
 have O3:=ħ (O2.o.trans o3)
 clear h3 o3 H2 O2
 go_wp2
 go_ret2
 refine⟨⟨([],-((N:Nat):Int)),rfl,fun q hq=>?_⟩,?_,O3.o⟩
 ·cases r with
  | ok m=>cases hq;rw[← HN.o];rfl
  | error z=>cases hq
 ·have:=H3.o
  cases r with
  | ok m=>exact this
  | error z=>exact this
theorem ok_bind {α β:Type} (i:α) (f:α→Except (Int×Nat) β):Except.bind (.ok i) f=f i:=rfl
def sumQ (ts:List Tok) (sz:Nat) (st:StP):SumV×StP :=
 let r1:=st.bind (nameP ts sz)
 let r2:=((nxS r1).bind (takeP ts sz [46])).bind (nameP ts sz)
 let n:=nmeV r1++46::nmeV r2
 if isS ts [43] (nxS r2)=true then (let r3:=(nxS r2).bind (fun j=>numP ts sz (j+1));((n,(nmbV r3:Int)),nxS r3))
 else if isS ts [45] (nxS r2)=true then (let r3:=(nxS r2).bind (fun j=>numP ts sz (j+1));((n,-(nmbV r3:Int)),nxS r3))
 else ((n,0),nxS r2)
def isNumS (ts:List Tok):StP→Bool
 | .ok i=>isNumP ts i
 | .error _=>false
theorem sumQ_law (ts:List Tok) (sz:Nat) (st:StP) (h1:isS ts [45] st=false) (h2:isNumS ts st=false) :
  (∀ q,st.bind (sumP ts sz) = .ok q→q.1=(sumQ ts sz st).1)∧nxS (st.bind (sumP ts sz))=(sumQ ts sz st).2:=by
 cases st with
 | error z=>exact⟨(fun q hq=>by cases hq),(by first | rfl | trivial)⟩
 | ok i =>
  have h1':isP ts [45] i=false:=h1
  have h2':isNumP ts i=false:=h2
  rw[ok_bind]
  unfold sumP sumQ
  rw[if_neg (by rw[h1'];simp),if_neg (by rw[h2'];simp)]
  simp only[ok_bind]
  cases hk:isNamP ts i with
  | false=>simp only[nameP_no hk];exact⟨(fun q hq=>by cases hq),(by first | rfl | trivial)⟩
  | true =>
   simp only[nameP_yes hk,ok_bind,nxS,Except.map,nmeV]
   cases hj:isP ts [46] (i+1) with
   | false=>simp only[takeP_no hj];exact⟨(fun q hq=>by cases hq),(by first | rfl | trivial)⟩
   | true =>
    simp only[takeP_yes hj,ok_bind]
    cases hk2:isNamP ts (i+1+1) with
    | false=>simp only[nameP_no hk2];exact⟨(fun q hq=>by cases hq),(by first | rfl | trivial)⟩
    | true =>
     simp only[nameP_yes hk2,ok_bind,isS]
     by_cases hp:isP ts [43] (i+1+1+1)=true
     ·simp only[if_pos hp]
      cases hm:isNumP ts (i+1+1+1+1) with
      | false=>simp only[numP_no hm];exact⟨(fun q hq=>by cases hq),(by first | rfl | trivial)⟩
      | true=>simp only[numP_yes hm];exact⟨(fun q hq=>by cases hq;rfl),(by first | rfl | trivial)⟩
     ·simp only[if_neg hp]
      by_cases hq:isP ts [45] (i+1+1+1)=true
      ·simp only[if_pos hq]
       cases hm:isNumP ts (i+1+1+1+1) with
       | false=>simp only[numP_no hm];exact⟨(fun q hq=>by cases hq),(by first | rfl | trivial)⟩
       | true=>simp only[numP_yes hm];exact⟨(fun q hq=>by cases hq;rfl),(by first | rfl | trivial)⟩
      ·simp only[if_neg hq]
       exact⟨(fun q hq=>by cases hq;rfl),(by first | rfl | trivial)⟩
theorem ssum_later (w:World) (R:Nat) (ao:Option Addr) (cap:Nat) (ts:List Tok) (sz:Nat) (st:StP) (h:SrcS w R ao cap ts sz st) (hn:ts.length≤1000000) (hts:∀ t∈ts,TokOk t) (hm:isS ts [45] st=false) (hk:isNumS ts st=false) (hx:errS st≠0) :
  Calls Tryz.prog 251 #[.pointer (some ⟨R,0,none⟩)] w fun e w'=>SumQ w R ao cap ts sz (st.bind (sumP ts sz)) e w':=by
 have HL:=ħ (sumQ_law ts sz st hm hk)
 have HS:=ħ (is_s w R ao cap ts sz st [45] h hn hts (by decide))
 rw[hm] at HS
 obtain⟨RR,hRR⟩:∃ RR,st.bind (sumP ts sz)=RR:=⟨_,rfl⟩
 rw[hRR] at HL ⊢
 clear hRR
 unfold sumQ at HL
 dsimp only at HL
 have HN1:=ħ (fun W (hW:SrcS W R ao cap ts sz st)=>name_s W R ao cap ts sz st hW hn hts)
 have L1:=ħ (nmeV_len (ts:=ts) sz st)
 obtain⟨r1,hr1⟩:∃ r1,st.bind (nameP ts sz)=r1:=⟨_,rfl⟩
 rw[hr1] at HL HN1 L1
 clear hr1
 have HTK:=ħ (fun W (hW:SrcS W R ao cap ts sz (nxS r1))=>take_s W R ao cap ts sz (nxS r1) [46] hW hn hts (by decide))
 obtain⟨s3,hs3⟩:∃ s3,(nxS r1).bind (takeP ts sz [46])=s3:=⟨_,rfl⟩
 rw[hs3] at HL HTK
 clear hs3
 have HN2:=ħ (fun W (hW:SrcS W R ao cap ts sz s3)=>name_s W R ao cap ts sz s3 hW hn hts)
 have L2:=ħ (nmeV_len (ts:=ts) sz s3)
 obtain⟨r2,hr2⟩:∃ r2,s3.bind (nameP ts sz)=r2:=⟨_,rfl⟩
 rw[hr2] at HL HN2 L2
 clear hr2
 obtain⟨a,ha⟩:∃ a,nmeV r1=a:=⟨_,rfl⟩
 obtain⟨b,hb⟩:∃ b,nmeV r2=b:=⟨_,rfl⟩
 rw[ha] at HL HN1 L1
 rw[hb] at HL HN2 L2
 obtain⟨s4,hs4⟩:∃ s4,nxS r2=s4:=⟨_,rfl⟩
 obtain⟨s1,hs1⟩:∃ s1,nxS r1=s1:=⟨_,rfl⟩
 rw[hs4] at HL HN2
 rw[hs1] at HN1 HTK
 clear hs4 hs1 ha hb
 have HI1:=ħ (fun W (hW:SrcS W R ao cap ts sz s4)=>is_s W R ao cap ts sz s4 [43] hW hn hts (by decide))
 have HI2:=ħ (fun W (hW:SrcS W R ao cap ts sz s4)=>is_s W R ao cap ts sz s4 [45] hW hn hts (by decide))
 have HNB:=ħ (fun W j (hW:SrcS W R ao cap ts sz (.ok (j+1)))=>num_s W R ao cap ts sz (.ok (j+1)) hW hn)
 have HNV:=ħ (fun j=>nmbV_le hts sz (.ok (j+1)))
 have d1:strN a++(⟨#[46]⟩:ByteArray)=strN (a++[46]):=strN_append a [46]
 have d2:strN (a++[46])++strN b=strN (a++46::b):=by rw[strN_append];simp
 have z1:¬ 9223372036854775807<(strN a).size+1:=by rw[strN_size];have:=L1.o;omega
 have z2:¬ 9223372036854775807<(strN (a++[46])).size+(strN b).size:=by rw[strN_size,strN_size,List.length_append];have:=L1.o;have:=L2.o;simp only[List.length_singleton];omega
 have H0:=ħ h
 have HTS:=ħ hts
 have HN:=ħ hn
 have D2:=ħ d2
 have HX:=ħ hx
 clear h hm hts L1 L2 hn d2
 obtain⟨xab,hxab⟩:∃ xab,strN (a++46::b)=xab:=⟨_,rfl⟩
 rw[hxab] at D2
 have HAB:=ħ hxab
 clear hxab
 have d2:=D2.o
 generalize strN (a++[46])=xa1 at *
 generalize strN a=xa at *
 generalize strN b=xb at *
 go_enter Tryz.func251,Tryz.ntmps251
 go_wp2_with fail
 refine HS.o.mono ?_
 rintro e w1 ⟨rfl,b1⟩
 have H1:=ħ (H0.o.step b1)
 have O1:=ħ (Only.of_below (p:=(· = R)) b1)
 clear b1 HS H0
 obtain⟨i,y,hi,hsw,-,-⟩:=H1.o.get
 obtain⟨c0,c1,c2,c3,c4⟩:=hsw.cells
 have hxb:(errS st==0)=false:=beq_eq_false_iff_ne.mpr HX.o
 clear hsw
 generalize errS st=x at *
 go_wp2_with fail
 go_quiet (fail)
 have H2:=ħ (H1.o.step (below_drewN (Below.refl w1.heap.size w1) nq))
 have O2:=ħ (O1.o.trans (Only.of_below (below_drewN (Below.refl w1.heap.size w1) nq)))
 clear c0 c1 c2 c3 c4 H1 O1
 generalize w1.drewN nq=w2 at *
 go_wp2_with fail
 refine (HN1.o w2 H2.o).mono ?_
 rintro e w3 ⟨rfl,h3,o3⟩
 have H3:=ħ h3
 have O3:=ħ (O2.o.trans o3)
 clear h3 o3 H2 O2 HN1
 go_wp2_with fail
 refine (HTK.o w3 H3.o).mono ?_
 rintro e w4 ⟨rfl,h4,o4⟩
 have H4:=ħ h4
 have O4:=ħ (O3.o.trans o4)
 clear h4 o4 H3 O3 HTK
 go_wp2_with fail
 refine (HN2.o w4 H4.o).mono ?_
 rintro e w5 ⟨rfl,h5,o5⟩
 have H5:=ħ h5
 have O5:=ħ (O4.o.trans o5)
 clear h5 o5 H4 O4 HN2
 go_wp2_with fail
 refine (HI1.o w5 H5.o).mono ?_
 rintro e w6 ⟨rfl,b6⟩
 have H6:=ħ (H5.o.step b6)
 have O6:=ħ (O5.o.trans (Only.of_below b6))
 clear b6 H5 O5 HI1
 cases hp:isS ts [43] s4 with
 | true =>
  obtain⟨j,rfl,hj,-⟩:=isS_ok hp
  have HL2:=ħ HL.o
  rw[if_pos hp,ok_bind] at HL2
  have HJ:=ħ hj
  have e2:IntKind.i64.wrap ((j:Int)+1)=(j:Int)+1:=IntWalk.i64_in _ (by have:=HN.o;omega)
  obtain⟨y,hy⟩:=H6.o.at
  obtain⟨c0,c1,c2,c3,c4⟩:=hy.cells
  have f1:=hy.warm 1
  clear c0 c2 c3 c4 hy hp hj HL
  go_wp2_with fail
  have H7:Hid (SrcS (w6.setCell ⟨R,1,none⟩ (.int .i64 ((j:Int)+1))) R _ cap ts sz (.ok (j+1))):=ħ (H6.o.next HJ.o)
  have O7:Hid (Only w (w6.setCell ⟨R,1,none⟩ (.int .i64 ((j:Int)+1))) (· = R)):=ħ (O6.o.trans (SrcW.nextOnly R 1 _))
  clear c1 f1 H6 O6
  generalize w6.setCell ⟨R,1,none⟩ (.int .i64 ((j:Int)+1))=w7 at *
  refine (HNB.o w7 j H7.o).mono ?_
  rintro e w8 ⟨rfl,h8,o8⟩
  have H8:=ħ h8
  have O8:=ħ (O7.o.trans o8)
  clear h8 o8 H7 O7
  rw[ok_bind] at H8 ⊢
  go_wp2
  go_ret2
  refine⟨⟨(a++46::b,((nmbV (numP ts sz (j+1)):Nat):Int)),(show _=Ending.returned (.tuple #[.string (strN (a++46::b)),.int .i64 ((nmbV (numP ts sz (j+1)):Nat):Int)]) by rw[HAB.o]<;>rfl),fun q hq=>HL2.o.1 q hq⟩,?_,O8.o⟩
  rw[HL2.o.2]
  exact H8.o
 | false =>
  have HP:=ħ hp
  clear hp
  go_wp2_with fail
  refine (HI2.o w6 H6.o).mono ?_
  rintro e w7 ⟨rfl,b7⟩
  have H7:=ħ (H6.o.step b7)
  have O7:=ħ (O6.o.trans (Only.of_below b7))
  clear b7 H6 O6 HI2
  cases hp:isS ts [45] s4 with
  | true =>
   obtain⟨j,rfl,hj,-⟩:=isS_ok hp
   have HL2:=ħ HL.o
   rw[if_neg (by rw[HP.o];simp),if_pos hp,ok_bind] at HL2
   have HJ:=ħ hj
   have e2:IntKind.i64.wrap ((j:Int)+1)=(j:Int)+1:=IntWalk.i64_in _ (by have:=HN.o;omega)
   obtain⟨N,hN⟩:∃ N,nmbV (Except.bind (.ok (j+1)) (numP ts sz))=N:=⟨_,rfl⟩
   have e1:IntKind.i64.wrap (-((N:Nat):Int)) = -((N:Nat):Int):=IntWalk.i64_in _ (by have:=HNV.o j;rw[hN] at this;omega)
   have HNE:=ħ hN
   obtain⟨y,hy⟩:=H7.o.at
   obtain⟨c0,c1,c2,c3,c4⟩:=hy.cells
   have f1:=hy.warm 1
   clear c0 c2 c3 c4 hy hp hj HL hN
   go_wp2_with fail
   have H8:Hid (SrcS (w7.setCell ⟨R,1,none⟩ (.int .i64 ((j:Int)+1))) R _ cap ts sz (.ok (j+1))):=ħ (H7.o.next HJ.o)
   have O8:Hid (Only w (w7.setCell ⟨R,1,none⟩ (.int .i64 ((j:Int)+1))) (· = R)):=ħ (O7.o.trans (SrcW.nextOnly R 1 _))
   clear c1 f1 H7 O7
   generalize w7.setCell ⟨R,1,none⟩ (.int .i64 ((j:Int)+1))=w8 at *
   refine (HNB.o w8 j H8.o).mono ?_
   rw[HNE.o]
   rintro e w9 ⟨rfl,h9,o9⟩
   have H9:=ħ h9
   have O9:=ħ (O8.o.trans o9)
   clear h9 o9 H8 O8
   rw[ok_bind] at H9 HNE
   go_wp2
   go_ret2
   refine⟨⟨(a++46::b,-((N:Nat):Int)),(show _=Ending.returned (.tuple #[.string (strN (a++46::b)),.int .i64 (-((N:Nat):Int))]) by rw[HAB.o]<;>rfl),fun q hq=>by rw[HL2.o.1 q hq,HNE.o]⟩,?_,O9.o⟩
   rw[HL2.o.2]
   exact H9.o
  | false =>
   have HL2:=ħ HL.o
   rw[if_neg (by rw[HP.o];simp),if_neg (by rw[hp];simp)] at HL2
   clear hp HL
   go_wp2
   go_ret2
   refine⟨⟨(a++46::b,0),(show _=Ending.returned (.tuple #[.string (strN (a++46::b)),.int .i64 0]) by rw[HAB.o]<;>rfl),fun q hq=>HL2.o.1 q hq⟩,?_,O7.o⟩
   rw[HL2.o.2]
   exact H7.o
theorem ssum_end (w:World) (R:Nat) (ao:Option Addr) (cap:Nat) (ts:List Tok) (sz:Nat) (st:StP) (h:SrcS w R ao cap ts sz st) (hn:ts.length≤1000000) (hts:∀ t∈ts,TokOk t) (hm:isS ts [45] st=false) (hk:isNumS ts st=false) (i:Nat) (he:st = .ok i) (hi:¬ i<ts.length) :
  Calls Tryz.prog 251 #[.pointer (some ⟨R,0,none⟩)] w fun e w'=>SumQ w R ao cap ts sz (st.bind (sumP ts sz)) e w':=by
 have HL:=ħ (sumQ_law ts sz st hm hk)
 have HS:=ħ (is_s w R ao cap ts sz st [45] h hn hts (by decide))
 rw[hm] at HS
 obtain⟨RR,hRR⟩:∃ RR,st.bind (sumP ts sz)=RR:=⟨_,rfl⟩
 rw[hRR] at HL ⊢
 clear hRR
 unfold sumQ at HL
 dsimp only at HL
 have HN1:=ħ (fun W (hW:SrcS W R ao cap ts sz st)=>name_s W R ao cap ts sz st hW hn hts)
 have L1:=ħ (nmeV_len (ts:=ts) sz st)
 obtain⟨r1,hr1⟩:∃ r1,st.bind (nameP ts sz)=r1:=⟨_,rfl⟩
 rw[hr1] at HL HN1 L1
 clear hr1
 have HTK:=ħ (fun W (hW:SrcS W R ao cap ts sz (nxS r1))=>take_s W R ao cap ts sz (nxS r1) [46] hW hn hts (by decide))
 obtain⟨s3,hs3⟩:∃ s3,(nxS r1).bind (takeP ts sz [46])=s3:=⟨_,rfl⟩
 rw[hs3] at HL HTK
 clear hs3
 have HN2:=ħ (fun W (hW:SrcS W R ao cap ts sz s3)=>name_s W R ao cap ts sz s3 hW hn hts)
 have L2:=ħ (nmeV_len (ts:=ts) sz s3)
 obtain⟨r2,hr2⟩:∃ r2,s3.bind (nameP ts sz)=r2:=⟨_,rfl⟩
 rw[hr2] at HL HN2 L2
 clear hr2
 obtain⟨a,ha⟩:∃ a,nmeV r1=a:=⟨_,rfl⟩
 obtain⟨b,hb⟩:∃ b,nmeV r2=b:=⟨_,rfl⟩
 rw[ha] at HL HN1 L1
 rw[hb] at HL HN2 L2
 obtain⟨s4,hs4⟩:∃ s4,nxS r2=s4:=⟨_,rfl⟩
 obtain⟨s1,hs1⟩:∃ s1,nxS r1=s1:=⟨_,rfl⟩
 rw[hs4] at HL HN2
 rw[hs1] at HN1 HTK
 clear hs4 hs1 ha hb
 have HI1:=ħ (fun W (hW:SrcS W R ao cap ts sz s4)=>is_s W R ao cap ts sz s4 [43] hW hn hts (by decide))
 have HI2:=ħ (fun W (hW:SrcS W R ao cap ts sz s4)=>is_s W R ao cap ts sz s4 [45] hW hn hts (by decide))
 have HNB:=ħ (fun W j (hW:SrcS W R ao cap ts sz (.ok (j+1)))=>num_s W R ao cap ts sz (.ok (j+1)) hW hn)
 have HNV:=ħ (fun j=>nmbV_le hts sz (.ok (j+1)))
 have d1:strN a++(⟨#[46]⟩:ByteArray)=strN (a++[46]):=strN_append a [46]
 have d2:strN (a++[46])++strN b=strN (a++46::b):=by rw[strN_append];simp
 have z1:¬ 9223372036854775807<(strN a).size+1:=by rw[strN_size];have:=L1.o;omega
 have z2:¬ 9223372036854775807<(strN (a++[46])).size+(strN b).size:=by rw[strN_size,strN_size,List.length_append];have:=L1.o;have:=L2.o;simp only[List.length_singleton];omega
 have H0:=ħ h
 have HTS:=ħ hts
 have HN:=ħ hn
 have D2:=ħ d2
 have HI:=ħ hi
 subst he
 clear h hm hts hi L1 L2 hn d2
 obtain⟨xab,hxab⟩:∃ xab,strN (a++46::b)=xab:=⟨_,rfl⟩
 rw[hxab] at D2
 have HAB:=ħ hxab
 clear hxab
 have d2:=D2.o
 generalize strN (a++[46])=xa1 at *
 generalize strN a=xa at *
 generalize strN b=xb at *
 go_enter Tryz.func251,Tryz.ntmps251
 go_wp2_with fail
 refine HS.o.mono ?_
 rintro e w1 ⟨rfl,b1⟩
 have H1:=ħ (H0.o.step b1)
 have O1:=ħ (Only.of_below (p:=(· = R)) b1)
 clear b1 HS H0
 obtain⟨y,hsw⟩:=H1.o.at
 obtain⟨c0,c1,c2,c3,c4⟩:=hsw.cells
 have hkb:decide ((i:Int)<(ts.length:Int))=false:=decide_eq_false (by have:=HI.o;omega)
 have hkc:decide (i<ts.length)=false:=decide_eq_false HI.o
 clear hsw
 go_wp2_with fail
 go_quiet (fail)
 have H2:=ħ (H1.o.step (below_drewN (Below.refl w1.heap.size w1) nq))
 have O2:=ħ (O1.o.trans (Only.of_below (below_drewN (Below.refl w1.heap.size w1) nq)))
 clear hkb hkc c0 c1 c2 c3 c4 H1 O1
 generalize w1.drewN nq=w2 at *
 go_wp2_with fail
 refine (HN1.o w2 H2.o).mono ?_
 rintro e w3 ⟨rfl,h3,o3⟩
 have H3:=ħ h3
 have O3:=ħ (O2.o.trans o3)
 clear h3 o3 H2 O2 HN1
 go_wp2_with fail
 refine (HTK.o w3 H3.o).mono ?_
 rintro e w4 ⟨rfl,h4,o4⟩
 have H4:=ħ h4
 have O4:=ħ (O3.o.trans o4)
 clear h4 o4 H3 O3 HTK
 go_wp2_with fail
 refine (HN2.o w4 H4.o).mono ?_
 rintro e w5 ⟨rfl,h5,o5⟩
 have H5:=ħ h5
 have O5:=ħ (O4.o.trans o5)
 clear h5 o5 H4 O4 HN2
 go_wp2_with fail
 refine (HI1.o w5 H5.o).mono ?_
 rintro e w6 ⟨rfl,b6⟩
 have H6:=ħ (H5.o.step b6)
 have O6:=ħ (O5.o.trans (Only.of_below b6))
 clear b6 H5 O5 HI1
 cases hp:isS ts [43] s4 with
 | true =>
  obtain⟨j,rfl,hj,-⟩:=isS_ok hp
  have HL2:=ħ HL.o
  rw[if_pos hp,ok_bind] at HL2
  have HJ:=ħ hj
  have e2:IntKind.i64.wrap ((j:Int)+1)=(j:Int)+1:=IntWalk.i64_in _ (by have:=HN.o;omega)
  obtain⟨y,hy⟩:=H6.o.at
  obtain⟨c0,c1,c2,c3,c4⟩:=hy.cells
  have f1:=hy.warm 1
  clear c0 c2 c3 c4 hy hp hj HL
  go_wp2_with fail
  have H7:Hid (SrcS (w6.setCell ⟨R,1,none⟩ (.int .i64 ((j:Int)+1))) R _ cap ts sz (.ok (j+1))):=ħ (H6.o.next HJ.o)
  have O7:Hid (Only w (w6.setCell ⟨R,1,none⟩ (.int .i64 ((j:Int)+1))) (· = R)):=ħ (O6.o.trans (SrcW.nextOnly R 1 _))
  clear c1 f1 H6 O6
  generalize w6.setCell ⟨R,1,none⟩ (.int .i64 ((j:Int)+1))=w7 at *
  refine (HNB.o w7 j H7.o).mono ?_
  rintro e w8 ⟨rfl,h8,o8⟩
  have H8:=ħ h8
  have O8:=ħ (O7.o.trans o8)
  clear h8 o8 H7 O7
  rw[ok_bind] at H8 ⊢
  go_wp2
  go_ret2
  refine⟨⟨(a++46::b,((nmbV (numP ts sz (j+1)):Nat):Int)),(show _=Ending.returned (.tuple #[.string (strN (a++46::b)),.int .i64 ((nmbV (numP ts sz (j+1)):Nat):Int)]) by rw[HAB.o]<;>rfl),fun q hq=>HL2.o.1 q hq⟩,?_,O8.o⟩
  rw[HL2.o.2]
  exact H8.o
 | false =>
  have HP:=ħ hp
  clear hp
  go_wp2_with fail
  refine (HI2.o w6 H6.o).mono ?_
  rintro e w7 ⟨rfl,b7⟩
  have H7:=ħ (H6.o.step b7)
  have O7:=ħ (O6.o.trans (Only.of_below b7))
  clear b7 H6 O6 HI2
  cases hp:isS ts [45] s4 with
  | true =>
   obtain⟨j,rfl,hj,-⟩:=isS_ok hp
   have HL2:=ħ HL.o
   rw[if_neg (by rw[HP.o];simp),if_pos hp,ok_bind] at HL2
   have HJ:=ħ hj
   have e2:IntKind.i64.wrap ((j:Int)+1)=(j:Int)+1:=IntWalk.i64_in _ (by have:=HN.o;omega)
   obtain⟨N,hN⟩:∃ N,nmbV (Except.bind (.ok (j+1)) (numP ts sz))=N:=⟨_,rfl⟩
   have e1:IntKind.i64.wrap (-((N:Nat):Int)) = -((N:Nat):Int):=IntWalk.i64_in _ (by have:=HNV.o j;rw[hN] at this;omega)
   have HNE:=ħ hN
   obtain⟨y,hy⟩:=H7.o.at
   obtain⟨c0,c1,c2,c3,c4⟩:=hy.cells
   have f1:=hy.warm 1
   clear c0 c2 c3 c4 hy hp hj HL hN
   go_wp2_with fail
   have H8:Hid (SrcS (w7.setCell ⟨R,1,none⟩ (.int .i64 ((j:Int)+1))) R _ cap ts sz (.ok (j+1))):=ħ (H7.o.next HJ.o)
   have O8:Hid (Only w (w7.setCell ⟨R,1,none⟩ (.int .i64 ((j:Int)+1))) (· = R)):=ħ (O7.o.trans (SrcW.nextOnly R 1 _))
   clear c1 f1 H7 O7
   generalize w7.setCell ⟨R,1,none⟩ (.int .i64 ((j:Int)+1))=w8 at *
   refine (HNB.o w8 j H8.o).mono ?_
   rw[HNE.o]
   rintro e w9 ⟨rfl,h9,o9⟩
   have H9:=ħ h9
   have O9:=ħ (O8.o.trans o9)
   clear h9 o9 H8 O8
   rw[ok_bind] at H9 HNE
   go_wp2
   go_ret2
   refine⟨⟨(a++46::b,-((N:Nat):Int)),(show _=Ending.returned (.tuple #[.string (strN (a++46::b)),.int .i64 (-((N:Nat):Int))]) by rw[HAB.o]<;>rfl),fun q hq=>by rw[HL2.o.1 q hq,HNE.o]⟩,?_,O9.o⟩
   rw[HL2.o.2]
   exact H9.o
  | false =>
   have HL2:=ħ HL.o
   rw[if_neg (by rw[HP.o];simp),if_neg (by rw[hp];simp)] at HL2
   clear hp HL
   go_wp2
   go_ret2
   refine⟨⟨(a++46::b,0),(show _=Ending.returned (.tuple #[.string (strN (a++46::b)),.int .i64 0]) by rw[HAB.o]<;>rfl),fun q hq=>HL2.o.1 q hq⟩,?_,O7.o⟩
   rw[HL2.o.2]
   exact H7.o
theorem ssum_not (w:World) (R:Nat) (ao:Option Addr) (cap:Nat) (ts:List Tok) (sz:Nat) (st:StP) (h:SrcS w R ao cap ts sz st) (hn:ts.length≤1000000) (hts:∀ t∈ts,TokOk t) (hm:isS ts [45] st=false) (hk:isNumS ts st=false) (i:Nat) (he:st = .ok i) (hi:i<ts.length) :
  Calls Tryz.prog 251 #[.pointer (some ⟨R,0,none⟩)] w fun e w'=>SumQ w R ao cap ts sz (st.bind (sumP ts sz)) e w':=by
 have HL:=ħ (sumQ_law ts sz st hm hk)
 have HS:=ħ (is_s w R ao cap ts sz st [45] h hn hts (by decide))
 rw[hm] at HS
 obtain⟨RR,hRR⟩:∃ RR,st.bind (sumP ts sz)=RR:=⟨_,rfl⟩
 rw[hRR] at HL ⊢
 clear hRR
 unfold sumQ at HL
 dsimp only at HL
 have HN1:=ħ (fun W (hW:SrcS W R ao cap ts sz st)=>name_s W R ao cap ts sz st hW hn hts)
 have L1:=ħ (nmeV_len (ts:=ts) sz st)
 obtain⟨r1,hr1⟩:∃ r1,st.bind (nameP ts sz)=r1:=⟨_,rfl⟩
 rw[hr1] at HL HN1 L1
 clear hr1
 have HTK:=ħ (fun W (hW:SrcS W R ao cap ts sz (nxS r1))=>take_s W R ao cap ts sz (nxS r1) [46] hW hn hts (by decide))
 obtain⟨s3,hs3⟩:∃ s3,(nxS r1).bind (takeP ts sz [46])=s3:=⟨_,rfl⟩
 rw[hs3] at HL HTK
 clear hs3
 have HN2:=ħ (fun W (hW:SrcS W R ao cap ts sz s3)=>name_s W R ao cap ts sz s3 hW hn hts)
 have L2:=ħ (nmeV_len (ts:=ts) sz s3)
 obtain⟨r2,hr2⟩:∃ r2,s3.bind (nameP ts sz)=r2:=⟨_,rfl⟩
 rw[hr2] at HL HN2 L2
 clear hr2
 obtain⟨a,ha⟩:∃ a,nmeV r1=a:=⟨_,rfl⟩
 obtain⟨b,hb⟩:∃ b,nmeV r2=b:=⟨_,rfl⟩
 rw[ha] at HL HN1 L1
 rw[hb] at HL HN2 L2
 obtain⟨s4,hs4⟩:∃ s4,nxS r2=s4:=⟨_,rfl⟩
 obtain⟨s1,hs1⟩:∃ s1,nxS r1=s1:=⟨_,rfl⟩
 rw[hs4] at HL HN2
 rw[hs1] at HN1 HTK
 clear hs4 hs1 ha hb
 have HI1:=ħ (fun W (hW:SrcS W R ao cap ts sz s4)=>is_s W R ao cap ts sz s4 [43] hW hn hts (by decide))
 have HI2:=ħ (fun W (hW:SrcS W R ao cap ts sz s4)=>is_s W R ao cap ts sz s4 [45] hW hn hts (by decide))
 have HNB:=ħ (fun W j (hW:SrcS W R ao cap ts sz (.ok (j+1)))=>num_s W R ao cap ts sz (.ok (j+1)) hW hn)
 have HNV:=ħ (fun j=>nmbV_le hts sz (.ok (j+1)))
 have d1:strN a++(⟨#[46]⟩:ByteArray)=strN (a++[46]):=strN_append a [46]
 have d2:strN (a++[46])++strN b=strN (a++46::b):=by rw[strN_append];simp
 have z1:¬ 9223372036854775807<(strN a).size+1:=by rw[strN_size];have:=L1.o;omega
 have z2:¬ 9223372036854775807<(strN (a++[46])).size+(strN b).size:=by rw[strN_size,strN_size,List.length_append];have:=L1.o;have:=L2.o;simp only[List.length_singleton];omega
 have H0:=ħ h
 have HTS:=ħ hts
 have HN:=ħ hn
 have D2:=ħ d2
 have HI:=ħ hi
 subst he
 have HK:=ħ (show ((tokAt ts i).k==1)=false by rw[← isNumP_at hi];exact hk)
 clear h hm hts hi L1 L2 hn d2
 obtain⟨xab,hxab⟩:∃ xab,strN (a++46::b)=xab:=⟨_,rfl⟩
 rw[hxab] at D2
 have HAB:=ħ hxab
 clear hxab
 have d2:=D2.o
 generalize strN (a++[46])=xa1 at *
 generalize strN a=xa at *
 generalize strN b=xb at *
 go_enter Tryz.func251,Tryz.ntmps251
 go_wp2_with fail
 refine HS.o.mono ?_
 rintro e w1 ⟨rfl,b1⟩
 have H1:=ħ (H0.o.step b1)
 have O1:=ħ (Only.of_below (p:=(· = R)) b1)
 clear b1 HS H0
 obtain⟨y,hsw⟩:=H1.o.at
 obtain⟨c0,c1,c2,c3,c4⟩:=hsw.cells
 obtain⟨g,off,hao,hg,t0,t1,t2,t3,-⟩:=hsw.tok i HI.o
 subst hao
 have hkb:decide ((i:Int)<(ts.length:Int))=true:=decide_eq_true (by have:=HI.o;omega)
 have hkc:decide (i<ts.length)=true:=decide_eq_true HI.o
 have e3:IntKind.i64.wrap ((ts.length:Int)-1)=(ts.length:Int)-1:=IntWalk.i64_in _ (by have:=HI.o;have:=HN.o;omega)
 have e4:¬ ((ts.length:Int)-1<(i:Int)):=by have:=HI.o;omega
 have ij:(i:Int)<ts.length:=by have:=HI.o;omega
 generalize tokAt ts i=T at *
 generalize T.k=κ at *
 clear hsw t1 t2 t3
 have k1b:(κ==1)=false:=HK.o
 go_wp2_with fail
 go_quiet (fail)
 have H2:=ħ (H1.o.step (below_drewN (Below.refl w1.heap.size w1) nq))
 have O2:=ħ (O1.o.trans (Only.of_below (below_drewN (Below.refl w1.heap.size w1) nq)))
 clear hkb hkc e3 e4 ij t0 k1b c0 c1 c2 c3 c4 H1 O1
 generalize w1.drewN nq=w2 at *
 go_wp2_with fail
 refine (HN1.o w2 H2.o).mono ?_
 rintro e w3 ⟨rfl,h3,o3⟩
 have H3:=ħ h3
 have O3:=ħ (O2.o.trans o3)
 clear h3 o3 H2 O2 HN1
 go_wp2_with fail
 refine (HTK.o w3 H3.o).mono ?_
 rintro e w4 ⟨rfl,h4,o4⟩
 have H4:=ħ h4
 have O4:=ħ (O3.o.trans o4)
 clear h4 o4 H3 O3 HTK
 go_wp2_with fail
 refine (HN2.o w4 H4.o).mono ?_
 rintro e w5 ⟨rfl,h5,o5⟩
 have H5:=ħ h5
 have O5:=ħ (O4.o.trans o5)
 clear h5 o5 H4 O4 HN2
 go_wp2_with fail
 refine (HI1.o w5 H5.o).mono ?_
 rintro e w6 ⟨rfl,b6⟩
 have H6:=ħ (H5.o.step b6)
 have O6:=ħ (O5.o.trans (Only.of_below b6))
 clear b6 H5 O5 HI1
 cases hp:isS ts [43] s4 with
 | true =>
  obtain⟨j,rfl,hj,-⟩:=isS_ok hp
  have HL2:=ħ HL.o
  rw[if_pos hp,ok_bind] at HL2
  have HJ:=ħ hj
  have e2:IntKind.i64.wrap ((j:Int)+1)=(j:Int)+1:=IntWalk.i64_in _ (by have:=HN.o;omega)
  obtain⟨y,hy⟩:=H6.o.at
  obtain⟨c0,c1,c2,c3,c4⟩:=hy.cells
  have f1:=hy.warm 1
  clear c0 c2 c3 c4 hy hp hj HL
  go_wp2_with fail
  have H7:Hid (SrcS (w6.setCell ⟨R,1,none⟩ (.int .i64 ((j:Int)+1))) R _ cap ts sz (.ok (j+1))):=ħ (H6.o.next HJ.o)
  have O7:Hid (Only w (w6.setCell ⟨R,1,none⟩ (.int .i64 ((j:Int)+1))) (· = R)):=ħ (O6.o.trans (SrcW.nextOnly R 1 _))
  clear c1 f1 H6 O6
  generalize w6.setCell ⟨R,1,none⟩ (.int .i64 ((j:Int)+1))=w7 at *
  refine (HNB.o w7 j H7.o).mono ?_
  rintro e w8 ⟨rfl,h8,o8⟩
  have H8:=ħ h8
  have O8:=ħ (O7.o.trans o8)
  clear h8 o8 H7 O7
  rw[ok_bind] at H8 ⊢
  go_wp2
  go_ret2
  refine⟨⟨(a++46::b,((nmbV (numP ts sz (j+1)):Nat):Int)),(show _=Ending.returned (.tuple #[.string (strN (a++46::b)),.int .i64 ((nmbV (numP ts sz (j+1)):Nat):Int)]) by rw[HAB.o]<;>rfl),fun q hq=>HL2.o.1 q hq⟩,?_,O8.o⟩
  rw[HL2.o.2]
  exact H8.o
 | false =>
  have HP:=ħ hp
  clear hp
  go_wp2_with fail
  refine (HI2.o w6 H6.o).mono ?_
  rintro e w7 ⟨rfl,b7⟩
  have H7:=ħ (H6.o.step b7)
  have O7:=ħ (O6.o.trans (Only.of_below b7))
  clear b7 H6 O6 HI2
  cases hp:isS ts [45] s4 with
  | true =>
   obtain⟨j,rfl,hj,-⟩:=isS_ok hp
   have HL2:=ħ HL.o
   rw[if_neg (by rw[HP.o];simp),if_pos hp,ok_bind] at HL2
   have HJ:=ħ hj
   have e2:IntKind.i64.wrap ((j:Int)+1)=(j:Int)+1:=IntWalk.i64_in _ (by have:=HN.o;omega)
   obtain⟨N,hN⟩:∃ N,nmbV (Except.bind (.ok (j+1)) (numP ts sz))=N:=⟨_,rfl⟩
   have e1:IntKind.i64.wrap (-((N:Nat):Int)) = -((N:Nat):Int):=IntWalk.i64_in _ (by have:=HNV.o j;rw[hN] at this;omega)
   have HNE:=ħ hN
   obtain⟨y,hy⟩:=H7.o.at
   obtain⟨c0,c1,c2,c3,c4⟩:=hy.cells
   have f1:=hy.warm 1
   clear c0 c2 c3 c4 hy hp hj HL hN
   go_wp2_with fail
   have H8:Hid (SrcS (w7.setCell ⟨R,1,none⟩ (.int .i64 ((j:Int)+1))) R _ cap ts sz (.ok (j+1))):=ħ (H7.o.next HJ.o)
   have O8:Hid (Only w (w7.setCell ⟨R,1,none⟩ (.int .i64 ((j:Int)+1))) (· = R)):=ħ (O7.o.trans (SrcW.nextOnly R 1 _))
   clear c1 f1 H7 O7
   generalize w7.setCell ⟨R,1,none⟩ (.int .i64 ((j:Int)+1))=w8 at *
   refine (HNB.o w8 j H8.o).mono ?_
   rw[HNE.o]
   rintro e w9 ⟨rfl,h9,o9⟩
   have H9:=ħ h9
   have O9:=ħ (O8.o.trans o9)
   clear h9 o9 H8 O8
   rw[ok_bind] at H9 HNE
   go_wp2
   go_ret2
   refine⟨⟨(a++46::b,-((N:Nat):Int)),(show _=Ending.returned (.tuple #[.string (strN (a++46::b)),.int .i64 (-((N:Nat):Int))]) by rw[HAB.o]<;>rfl),fun q hq=>by rw[HL2.o.1 q hq,HNE.o]⟩,?_,O9.o⟩
   rw[HL2.o.2]
   exact H9.o
  | false =>
   have HL2:=ħ HL.o
   rw[if_neg (by rw[HP.o];simp),if_neg (by rw[hp];simp)] at HL2
   clear hp HL
   go_wp2
   go_ret2
   refine⟨⟨(a++46::b,0),(show _=Ending.returned (.tuple #[.string (strN (a++46::b)),.int .i64 0]) by rw[HAB.o]<;>rfl),fun q hq=>HL2.o.1 q hq⟩,?_,O7.o⟩
   rw[HL2.o.2]
   exact H7.o
theorem ssum_num (w:World) (R:Nat) (ao:Option Addr) (cap:Nat) (ts:List Tok) (sz i:Nat) (h:SrcS w R ao cap ts sz (.ok i)) (hn:ts.length≤1000000) (hts:∀ t∈ts,TokOk t) (hm:isP ts [45] i=false) (hk:isNumP ts i=true) :
  Calls Tryz.prog 251 #[.pointer (some ⟨R,0,none⟩)] w fun e w'=>SumQ w R ao cap ts sz (sumP ts sz i) e w':=by
 have HS:=ħ (is_s w R ao cap ts sz (.ok i) [45] h hn hts (by decide))
 rw[show isS ts [45] (.ok i)=false from hm] at HS
 have HI:=ħ (isNumP_lt hk)
 have HNU:=ħ (fun W (hW:SrcS W R ao cap ts sz (.ok i))=>num_s W R ao cap ts sz (.ok i) hW hn)
 rw[ok_bind,numP_yes hk] at HNU
 rw[show sumP ts sz i = .ok (([],(valP ts i:Int)),i+1) by unfold sumP;rw[if_neg (by rw[hm];simp),if_pos hk]]
 have HK:=ħ (show ((tokAt ts i).k==1)=true by rw[← isNumP_at HI.o];exact hk)
 have H0:=ħ h
 have HN:=ħ hn
 clear h hm hts hk hn
 go_enter Tryz.func251,Tryz.ntmps251
 go_wp2_with fail
 refine HS.o.mono ?_
 rintro e w1 ⟨rfl,b1⟩
 have H1:=ħ (H0.o.step b1)
 have O1:=ħ (Only.of_below (p:=(· = R)) b1)
 clear b1 HS H0
 obtain⟨y,hsw⟩:=H1.o.at
 obtain⟨c0,c1,c2,c3,c4⟩:=hsw.cells
 obtain⟨g,off,hao,hg,t0,t1,t2,t3,-⟩:=hsw.tok i HI.o
 subst hao
 have hkb:decide ((i:Int)<(ts.length:Int))=true:=decide_eq_true (by have:=HI.o;omega)
 have hkc:decide (i<ts.length)=true:=decide_eq_true HI.o
 have e3:IntKind.i64.wrap ((ts.length:Int)-1)=(ts.length:Int)-1:=IntWalk.i64_in _ (by have:=HI.o;have:=HN.o;omega)
 have e4:¬ ((ts.length:Int)-1<(i:Int)):=by have:=HI.o;omega
 have ij:(i:Int)<ts.length:=by have:=HI.o;omega
 generalize tokAt ts i=T at *
 generalize T.k=κ at *
 clear hsw t1 t2 t3
 have k1b:(κ==1)=true:=HK.o
 go_wp2_with fail
 go_quiet (fail)
 have H2:=ħ (H1.o.step (below_drewN (Below.refl w1.heap.size w1) nq))
 have O2:=ħ (O1.o.trans (Only.of_below (below_drewN (Below.refl w1.heap.size w1) nq)))
 clear hkb hkc e3 e4 ij t0 k1b c0 c1 c2 c3 c4 H1 O1
 generalize w1.drewN nq=w2 at *
 go_wp2_with fail
 refine (HNU.o w2 H2.o).mono ?_
 rintro e w3 ⟨rfl,h3,o3⟩
 have H3:=ħ h3
 have O3:=ħ (O2.o.trans o3)
 clear h3 o3 H2 O2
 go_wp2
 go_ret2
 exact⟨⟨([],((valP ts i:Nat):Int)),rfl,fun q hq=>by cases hq;rfl⟩,H3.o,O3.o⟩
theorem ssum_any (w:World) (R:Nat) (ao:Option Addr) (cap:Nat) (ts:List Tok) (sz:Nat) (st:StP) (h:SrcS w R ao cap ts sz st) (hn:ts.length≤1000000) (hts:∀ t∈ts,TokOk t) :
  Calls Tryz.prog 251 #[.pointer (some ⟨R,0,none⟩)] w fun e w'=>SumQ w R ao cap ts sz (st.bind (sumP ts sz)) e w':=by
 cases st with
 | error z=>exact ssum_later w R ao cap ts sz (.error z) h hn hts rfl rfl h.1
 | ok i =>
  cases hm:isP ts [45] i with
  | true=>exact ssum_minus w R ao cap ts sz i h hn hts hm
  | false =>
   cases hk:isNumP ts i with
   | true=>exact ssum_num w R ao cap ts sz i h hn hts hm hk
   | false =>
    by_cases hi:i<ts.length
    ·exact ssum_not w R ao cap ts sz (.ok i) h hn hts hm hk i rfl hi
    ·exact ssum_end w R ao cap ts sz (.ok i) h hn hts hm hk i rfl hi
end
section
open Go.RowKit
abbrev zP:List Value:=[.int .i64 0,.string ⟨#[]⟩,.string ⟨#[]⟩,.int .i64 0,.slice none 0 0]
theorem HasV.new2 (w:World) (t t2:TypeId) (cs ds:List Value):HasV ((w.alloc (.cells cs.toArray t)).alloc (.cells ds.toArray t2)) w.heap.size t cs:=(HasV.new w t cs).below (Below.alloc (Below.refl _ _) (Nat.le_refl _) _) (by simp)
def atS (ts:List Tok) (sz u:Nat) (p:Prd) (st:StP):StP:=if inP p=true then st else failS ts sz 3 u st
theorem SrcS.upd {w wk w':World} {R cap sz g:Nat} {ao:Option Addr} {ts:List Tok} {s0 st:StP} (h0:SrcS w R ao cap ts sz s0) (h:SrcS wk R ao cap ts sz st) (hu:Upd wk w' g) (hg:w.heap.size≤g):SrcS w' R ao cap ts sz st:=by
 obtain⟨i0,y0,-,hs0,-⟩:=h0.get
 have key:∀ i x y,SrcW wk R ao cap ts sz i x y→SrcW w' R ao cap ts sz i x y:=fun i x y h1=>by
  have hl:=hs0.lt
  refine⟨?_,?_⟩
  ·unfold HasS;rw[hu.block R (by omega)];exact h1.blk
  ·rcases hs0.toks with h2 | ⟨g1,off,h2,h3,h4,h5⟩
   ·exact .inl h2
   ·rcases h1.toks with h6 | ⟨g5,off5,h6,h7,h8,h9⟩
    ·exact .inl h6
    ·have e:g5=g1∧off5=off:=by rw[h2] at h6;simp only[Option.some.injEq,Addr.mk.injEq] at h6;exact⟨h6.1.symm,h6.2.1.symm⟩
     obtain⟨rfl,rfl⟩:=e
     exact .inr ⟨g5,off5,h6,h7,by rw[hu.size];exact h8,h9.of_block (hu.block g5 (by omega))⟩
 cases st with
 | ok i=>exact⟨h.1,h.2.choose,key _ _ _ h.2.choose_spec⟩
 | error z=>exact⟨h.1,h.2.choose,h.2.choose_spec.1,key _ _ _ h.2.choose_spec.2⟩
theorem satom_any (w:World) (R:Nat) (ao:Option Addr) (cap:Nat) (ts:List Tok) (sz:Nat) (st:StP) (u:Nat) (a b:SumV) (less:Int) (h:SrcS w R ao cap ts sz st) (hn:ts.length≤1000000) (hu:u≤ts.length) (ha:SumOk a) (hb:SumOk b) (h0:0≤less) (h1:less≤1) :
  Calls Tryz.prog 296 #[.pointer (some ⟨R,0,none⟩),.string (strN a.1),.int .i64 a.2,.string (strN b.1),.int .i64 b.2,.int .i64 less,.int .i64 (u:Int)] w fun e w'=>e = .returned (.agg (atomC a.1 b.1 (b.2-a.2-less)).toArray)∧SrcS w' R ao cap ts sz (atS ts sz u (mostP a b less) st)∧Only w w' (· = R):=by
 have e1:IntKind.i64.wrap (b.2-a.2)=b.2-a.2:=IntWalk.i64_in _ (by have:=ha.lo;have:=ha.hi;have:=hb.lo;have:=hb.hi;omega)
 have e2:IntKind.i64.wrap (b.2-a.2-less)=b.2-a.2-less:=IntWalk.i64_in _ (by have:=ha.lo;have:=ha.hi;have:=hb.lo;have:=hb.hi;omega)
 have HIN:Hid (inP (mostP a b less)=(decide (-1099511627776≤b.2-a.2-less)&&decide (b.2-a.2-less<1099511627776))):=ħ rfl
 obtain⟨NS,hNS⟩:∃ NS,atS ts sz u (mostP a b less) st=NS:=⟨_,rfl⟩
 rw[hNS]
 unfold atS at hNS
 have HNS:=ħ hNS
 clear hNS
 generalize inP (mostP a b less)=inb at *
 clear ha hb h0 h1
 obtain⟨a1,a2⟩:=a
 obtain⟨b1,b2⟩:=b
 simp only at e1 e2 HIN ⊢
 unfold atomC
 generalize strN a1=x at *
 generalize strN b1=y at *
 obtain⟨c,hc⟩:∃ c,b2-a2-less=c:=⟨_,rfl⟩
 show Calls _ _ _ _ (fun e w'=>e = .returned (.agg (List.toArray [.int .i64 0,.string x,.string y,.int .i64 (b2-a2-less),.slice none 0 0]))∧_)
 rw[hc] at HIN ⊢
 obtain⟨d,hd⟩:∃ d,b2-a2=d:=⟨_,rfl⟩
 have e3:IntKind.i64.wrap (d-less)=c:=by rw[← hd];exact e2.trans hc
 have e4:IntKind.i64.wrap (b2-a2)=d:=e1.trans hd
 clear e1
 clear e2 hc hd
 have BX:Hid (Below w.heap.size w ((w.alloc (.cells zP.toArray 25)).alloc (.cells #[.int .i64 0,.string x,.string y,.int .i64 c,.slice none 0 0] 25))):=ħ (((Below.refl w.heap.size w).alloc (Nat.le_refl _) _).alloc (by simp) _)
 have X1:Hid (HasV ((w.alloc (.cells zP.toArray 25)).alloc (.cells #[.int .i64 0,.string x,.string y,.int .i64 c,.slice none 0 0] 25)) w.heap.size 25 zP):=ħ (HasV.new2 w _ _ zP [.int .i64 0,.string x,.string y,.int .i64 c,.slice none 0 0])
 have Y1:Hid (HasV ((w.alloc (.cells zP.toArray 25)).alloc (.cells #[.int .i64 0,.string x,.string y,.int .i64 c,.slice none 0 0] 25)) (w.heap.size+1) 25 [.int .i64 0,.string x,.string y,.int .i64 c,.slice none 0 0]):=ħ (by have:=HasV.new (w.alloc (.cells zP.toArray 25)) 25 [.int .i64 0,.string x,.string y,.int .i64 c,.slice none 0 0];simpa using this)
 have H0:=ħ h
 have H1:=ħ (h.step BX.o)
 have RL:=ħ h.lt
 have HFL:=ħ (fun W (hW:SrcS W R ao cap ts sz st)=>fail_s W R ao cap ts sz st u 3 hW (by decide) hu hn)
 clear h hu hn
 go_enter Tryz.func296,Tryz.ntmps296
 go_upto_region 2 with (fail)
 generalize ((w.alloc (.cells zP.toArray 25)).alloc (.cells #[.int .i64 0,.string x,.string y,.int .i64 c,.slice none 0 0] 25))=w1 at *
 have y3:=Y1.o.cell 3 _ rfl
 by_cases k1:c < -1099511627776
 ·have HI2:Hid (inb=false):=ħ (by rw[HIN.o,decide_eq_false (show ¬ -1099511627776≤c by omega)];rfl)
  go_wp2_with fail
  refine (HFL.o w1 H1.o).mono ?_
  rintro e w2 ⟨rfl,h2,o2⟩
  have H2:=ħ h2
  have O2:=ħ ((Only.of_below BX.o).trans o2)
  have X2:=ħ (X1.o.only o2 (by have:=RL.o;omega))
  have Y2:=ħ (Y1.o.only o2 (by have:=RL.o;omega))
  clear h2 o2 H1 X1 Y1 y3
  go_wp2_with (first | (refine wpList_load_row rfl 25 (.tmp 15) rfl (w.heap.size+1) ?a1 25 #[.int .i64 0,.string x,.string y,.int .i64 c,.slice none 0 0] (0,0) _ Y2.o Tryz.underlying25 rfl (inf_pred _ rfl) ?_;(case a1=>rfl)) | (refine wpList_store_abs rfl 25 (.tmp 14) (.tmp 35) rfl w.heap.size #[.int .i64 0,.string x,.string y,.int .i64 c,.slice none 0 0] ?s1 ?s2 25 _ X2.o (inf_pred _ rfl) rfl (by simp[Value.oneCell']) ?_;(case s1=>rfl);(case s2=>rfl);intro W9 s9 u9;have S9:=ħ s9;have U9:=ħ u9;clear s9 u9))
  exact bodyPost_ret (results_cell_row (p:=14) (by kernel_rfl) _ _ w.heap.size 25 #[.int .i64 0,.string x,.string y,.int .i64 c,.slice none 0 0] (0,0) _ rfl S9.o Tryz.underlying25 rfl (inf_pred _ rfl)) rfl ⟨rfl,by rw[← HNS.o,HI2.o,if_neg (by simp)];exact H0.o.upd H2.o U9.o (Nat.le_refl _),O2.o.updNew U9.o (Nat.le_refl _)⟩
 ·by_cases k2:1099511627776≤c
  ·have HI2:Hid (inb=false):=ħ (by rw[HIN.o,decide_eq_false (show ¬ c<1099511627776 by omega),Bool.and_false])
   go_wp2_with fail
   refine (HFL.o w1 H1.o).mono ?_
   rintro e w2 ⟨rfl,h2,o2⟩
   have H2:=ħ h2
   have O2:=ħ ((Only.of_below BX.o).trans o2)
   have X2:=ħ (X1.o.only o2 (by have:=RL.o;omega))
   have Y2:=ħ (Y1.o.only o2 (by have:=RL.o;omega))
   clear h2 o2 H1 X1 Y1 y3
   go_wp2_with (first | (refine wpList_load_row rfl 25 (.tmp 15) rfl (w.heap.size+1) ?a1 25 #[.int .i64 0,.string x,.string y,.int .i64 c,.slice none 0 0] (0,0) _ Y2.o Tryz.underlying25 rfl (inf_pred _ rfl) ?_;(case a1=>rfl)) | (refine wpList_store_abs rfl 25 (.tmp 14) (.tmp 35) rfl w.heap.size #[.int .i64 0,.string x,.string y,.int .i64 c,.slice none 0 0] ?s1 ?s2 25 _ X2.o (inf_pred _ rfl) rfl (by simp[Value.oneCell']) ?_;(case s1=>rfl);(case s2=>rfl);intro W9 s9 u9;have S9:=ħ s9;have U9:=ħ u9;clear s9 u9))
   exact bodyPost_ret (results_cell_row (p:=14) (by kernel_rfl) _ _ w.heap.size 25 #[.int .i64 0,.string x,.string y,.int .i64 c,.slice none 0 0] (0,0) _ rfl S9.o Tryz.underlying25 rfl (inf_pred _ rfl)) rfl ⟨rfl,by rw[← HNS.o,HI2.o,if_neg (by simp)];exact H0.o.upd H2.o U9.o (Nat.le_refl _),O2.o.updNew U9.o (Nat.le_refl _)⟩
  ·have HI2:Hid (inb=true):=ħ (by rw[HIN.o,decide_eq_true (show -1099511627776≤c by omega),decide_eq_true (show c<1099511627776 by omega)];rfl)
   go_wp2_with (first | (refine wpList_load_row rfl 25 (.tmp 15) rfl (w.heap.size+1) ?a1 25 #[.int .i64 0,.string x,.string y,.int .i64 c,.slice none 0 0] (0,0) _ Y1.o Tryz.underlying25 rfl (inf_pred _ rfl) ?_;(case a1=>rfl)) | (refine wpList_store_abs rfl 25 (.tmp 14) (.tmp 35) rfl w.heap.size #[.int .i64 0,.string x,.string y,.int .i64 c,.slice none 0 0] ?s1 ?s2 25 _ X1.o (inf_pred _ rfl) rfl (by simp[Value.oneCell']) ?_;(case s1=>rfl);(case s2=>rfl);intro W9 s9 u9;have S9:=ħ s9;have U9:=ħ u9;clear s9 u9))
   exact bodyPost_ret (results_cell_row (p:=14) (by kernel_rfl) _ _ w.heap.size 25 #[.int .i64 0,.string x,.string y,.int .i64 c,.slice none 0 0] (0,0) _ rfl S9.o Tryz.underlying25 rfl (inf_pred _ rfl)) rfl ⟨rfl,by rw[← HNS.o,HI2.o,if_pos rfl];exact H0.o.upd H1.o U9.o (Nat.le_refl _),(Only.of_below BX.o).updNew U9.o (Nat.le_refl _)⟩
end
section
open Go.RowKit
def sgnL:List (List Nat):=[[60],[60,61],[62],[62,61],[61],[33,61]]
def sgnS (ts:List Tok) (st:StP) (k:Nat):List Nat:=(sgnL.take k).foldl (fun a s=>if isS ts s st=true then s else a) []
theorem sgnS_step (ts:List Tok) (st:StP) (k:Nat) (s:List Nat) (h:sgnL[k]?=some s):sgnS ts st (k+1)=if isS ts s st=true then s else sgnS ts st k:=by
 unfold sgnS
 rw[List.take_add_one,h,List.foldl_append]
 rfl
theorem isP_form (ts:List Tok) (i:Nat):∃ (K:Bool) (T:List Nat),∀ s,isP ts s i=(K&&(T==s)):=by
 by_cases h:i<ts.length
 ·exact⟨_,(tokAt ts i).t,fun s=>isP_at h⟩
 ·exact⟨false,[],fun s=>by unfold isP;rw[List.getElem?_eq_none (by omega)];rfl⟩
def cmpSt (ts:List Tok):StP→Option Nat
 | .ok i=>cmpP ts i
 | .error _=>none
theorem sgn_law (ts:List Tok) (st:StP):(cmpSt ts st=none∧sgnS ts st 6=[])∨(∃ i,st = .ok i∧i<ts.length ∧
  ((cmpP ts i=some 0∧sgnS ts st 6=[60,61])∨(cmpP ts i=some 1∧sgnS ts st 6=[60])∨(cmpP ts i=some 2∧sgnS ts st 6=[62,61])∨(cmpP ts i=some 3∧sgnS ts st 6=[62])∨(cmpP ts i=some 4∧sgnS ts st 6=[61])∨(cmpP ts i=some 5∧sgnS ts st 6=[33,61]))):=by
 cases st with
 | error z=>exact .inl ⟨rfl,rfl⟩
 | ok i =>
  obtain⟨K,T,h⟩:=isP_form ts i
  have hs:sgnS ts (.ok i) 6=[[60],[60,61],[62],[62,61],[61],[33,61]].foldl (fun a s=>if (K&&(T==s))=true then s else a) []:=by
   unfold sgnS
   show List.foldl _ _ [[60],[60,61],[62],[62,61],[61],[33,61]]=_
   congr 1
   funext a s
   show (if isP ts s i=true then s else a)=_
   rw[h]
  have hc:cmpSt ts (.ok i)=cmpP ts i:=rfl
  have hcc:cmpP ts i=if (K&&(T==[60,61]))=true then some 0 else if (K&&(T==[60]))=true then some 1 else if (K&&(T==[62,61]))=true then some 2 else if (K&&(T==[62]))=true then some 3 else if (K&&(T==[61]))=true then some 4 else if (K&&(T==[33,61]))=true then some 5 else none:=by
   unfold cmpP
   rw[h,h,h,h,h,h]
  rw[hc,hcc,hs]
  cases K with
  | false=>exact .inl ⟨rfl,rfl⟩
  | true =>
   have hl:∀ s,T=s→isP ts s i=true:=fun s e=>by rw[h,e];simp
   by_cases t1:T=[60,61]
   ·have:=isP_lt (hl _ t1);subst t1;exact .inr ⟨i,rfl,this,.inl ⟨hcc.trans rfl,rfl⟩⟩
   by_cases t2:T=[60]
   ·have:=isP_lt (hl _ t2);subst t2;exact .inr ⟨i,rfl,this,.inr (.inl ⟨hcc.trans rfl,rfl⟩)⟩
   by_cases t3:T=[62,61]
   ·have:=isP_lt (hl _ t3);subst t3;exact .inr ⟨i,rfl,this,.inr (.inr (.inl ⟨hcc.trans rfl,rfl⟩))⟩
   by_cases t4:T=[62]
   ·have:=isP_lt (hl _ t4);subst t4;exact .inr ⟨i,rfl,this,.inr (.inr (.inr (.inl ⟨hcc.trans rfl,rfl⟩)))⟩
   by_cases t5:T=[61]
   ·have:=isP_lt (hl _ t5);subst t5;exact .inr ⟨i,rfl,this,.inr (.inr (.inr (.inr (.inl ⟨hcc.trans rfl,rfl⟩))))⟩
   by_cases t6:T=[33,61]
   ·have:=isP_lt (hl _ t6);subst t6;exact .inr ⟨i,rfl,this,.inr (.inr (.inr (.inr (.inr ⟨hcc.trans rfl,rfl⟩))))⟩
   left
   simp[t1,t2,t3,t4,t5,t6]
mutual
def WdP:Prd→Prop
 | .mk _ _ _ _ ks=>ks.length≤1000001∧WdL ks
def WdL:List Prd→Prop
 | []=>True
 | p::ps=>WdP p∧WdL ps
end
theorem WdL_iff:∀ ks:List Prd,WdL ks↔∀ q∈ks,WdP q
 | []=>by simp[WdL]
 | p::ps=>by unfold WdL;simp[WdL_iff ps]
theorem wd_leaf (k:Int) (l r:List Nat) (c:Int):WdP (.mk k l r c []):=by unfold WdP WdL;simp
theorem wd_most (a b:SumV) (x:Int):WdP (mostP a b x):=wd_leaf _ _ _ _
theorem wd_two (k:Int) (l r:List Nat) (c:Int) {p q:Prd} (hp:WdP p) (hq:WdP q):WdP (.mk k l r c [p,q]):=by
 unfold WdP
 exact⟨by simp,(WdL_iff _).2 (fun x hx=>by
  simp only[List.mem_cons,List.not_mem_nil,or_false] at hx
  rcases hx with rfl | rfl
  ·exact hp
  ·exact hq)⟩
theorem wd_list (k:Int) (l r:List Nat) (c:Int) {ks:List Prd} (h:∀ q∈ks,WdP q) (hl:ks.length≤1000001):WdP (.mk k l r c ks):=by
 unfold WdP
 exact⟨hl,(WdL_iff ks).2 h⟩
theorem wd_kids {k:Int} {l r:List Nat} {c:Int} {ks:List Prd} (h:WdP (.mk k l r c ks)):ks.length≤1000001∧∀ q∈ks,WdP q:=by
 unfold WdP at h
 exact⟨h.1,(WdL_iff ks).1 h.2⟩
theorem wd_add {ps:List Prd} {p:Prd} (h:∀ q∈ps,WdP q) (hp:WdP p):∀ q∈ps++[p],WdP q:=by
 intro q hq
 rcases List.mem_append.1 hq with h1 | h1
 ·exact h q h1
 ·simp only[List.mem_singleton] at h1;rw[h1];exact hp
theorem wd_one {κ:Int} {ps:List Prd} (h:∀ q∈ps,WdP q) (hl:ps.length≤1000001):WdP (oneP κ ps):=by
 cases ps with
 | nil=>exact wd_leaf _ _ _ _
 | cons p l=>cases l with
  | nil=>exact h p (by simp)
  | cons q l=>exact wd_list _ _ _ _ h hl
def PrdQ (w:World) (R:Nat) (ao:Option Addr) (cap:Nat) (ts:List Tok) (sz:Nat) (r:PR Prd) (e:Ending) (w':World):Prop :=
 (∃ p vs,e = .returned (.agg (List.toArray vs))∧PredC w' (fun g=>w.heap.size≤g) p vs∧WdP p∧∀ q,r = .ok q→q.1=p)∧SrcS w' R ao cap ts sz (nxS r)∧Only w w' (· = R)
theorem PrdQ.get {w:World} {R:Nat} {ao:Option Addr} {cap:Nat} {ts:List Tok} {sz:Nat} {r:PR Prd} {e:Ending} {w':World} (h:PrdQ w R ao cap ts sz r e w') :
  ∃ p vs,e = .returned (.agg (List.toArray vs))∧PredC w' (fun g=>w.heap.size≤g) p vs∧WdP p∧(∀ q,r = .ok q→q.1=p)∧SrcS w' R ao cap ts sz (nxS r)∧Only w w' (· = R):=by
 obtain⟨⟨p,vs,h1,h2,h3,h6⟩,h4,h5⟩:=h
 exact⟨p,vs,h1,h2,h3,h6,h4,h5⟩
end
section
open Go.RowKit
theorem sgnL_len:sgnL.length=6:=rfl
theorem sgnL_byte:∀ s∈sgnL,∀ y∈s,y<256:=by decide
theorem kids_two {W:World} {P:Nat→Prop} {m1 m2:Prd} {g:Nat} {T:TypeId} {v1 v2:List Value} (h1:v1.length=5) (h:HasV W g T (v1++v2)) (p1:PredC W P m1 v1) (p2:PredC W P m2 v2):KidsC W P [m1,m2] g 0:=by
 unfold KidsC
 refine⟨⟨v1,p1,fun j u hj=>?_⟩,?_⟩
 ·have hl:=(List.getElem?_eq_some_iff.1 hj).1
  rw[Nat.zero_add]
  exact h.cell j u (by rw[List.getElem?_append_left hl];exact hj)
 ·unfold KidsC
  refine⟨⟨v2,p2,fun j u hj=>?_⟩,by unfold KidsC;trivial⟩
  exact h.cell (0+5+j) u (by rw[List.getElem?_append_right (by omega),h1];rw[show 0+5+j-5=j by omega];exact hj)
theorem scomp_any (w:World) (R:Nat) (ao:Option Addr) (cap:Nat) (ts:List Tok) (sz:Nat) (st:StP) (u:Nat) (a:SumV) (h:SrcS w R ao cap ts sz st) (hn:ts.length≤1000000) (hts:∀ t∈ts,TokOk t) (hu:u≤ts.length) (ha:∀ i,st = .ok i→SumOk a) :
  Calls Tryz.prog 253 #[.pointer (some ⟨R,0,none⟩),.string (strN a.1),.int .i64 a.2,.int .i64 (u:Int)] w fun e w'=>PrdQ w R ao cap ts sz (st.bind (compareP ts sz a u)) e w':=by
 obtain⟨RR,hRR⟩:∃ RR,st.bind (compareP ts sz a u)=RR:=⟨_,rfl⟩
 rw[hRR]
 have HRR:=ħ hRR
 have H0:=ħ h
 have RL:=ħ h.lt
 have HN:=ħ hn
 have HTS:=ħ hts
 have HA:=ħ ha
 have HU:=ħ hu
 clear h hn hts ha hu hRR
 obtain⟨xa,hxa⟩:∃ x,strN a.1=x:=⟨_,rfl⟩
 obtain⟨ca,hca⟩:∃ x,a.2=x:=⟨_,rfl⟩
 rw[hxa,hca]
 have HXA:=ħ hxa
 have HCA:=ħ hca
 clear hxa hca
 go_enter Tryz.func253,Tryz.ntmps253
 go_wp2_with fail
 have B0:Hid (Below w.heap.size w ((w.alloc (.cells #[.int .i64 0,.string ⟨#[]⟩,.string ⟨#[]⟩,.int .i64 0,.slice none 0 0] 25)).alloc (.cells #[.string ⟨#[60]⟩,.string ⟨#[60,61]⟩,.string ⟨#[62]⟩,.string ⟨#[62,61]⟩,.string ⟨#[61]⟩,.string ⟨#[33,61]⟩] 9))):=ħ (((Below.refl w.heap.size w).alloc (Nat.le_refl _) _).alloc (by simp) _)
 have X0:Hid (HasV ((w.alloc (.cells #[.int .i64 0,.string ⟨#[]⟩,.string ⟨#[]⟩,.int .i64 0,.slice none 0 0] 25)).alloc (.cells #[.string ⟨#[60]⟩,.string ⟨#[60,61]⟩,.string ⟨#[62]⟩,.string ⟨#[62,61]⟩,.string ⟨#[61]⟩,.string ⟨#[33,61]⟩] 9)) w.heap.size 25 zP):=ħ (HasV.new2 w _ _ zP [.string ⟨#[60]⟩,.string ⟨#[60,61]⟩,.string ⟨#[62]⟩,.string ⟨#[62,61]⟩,.string ⟨#[61]⟩,.string ⟨#[33,61]⟩])
 have Y0:Hid (HasV ((w.alloc (.cells #[.int .i64 0,.string ⟨#[]⟩,.string ⟨#[]⟩,.int .i64 0,.slice none 0 0] 25)).alloc (.cells #[.string ⟨#[60]⟩,.string ⟨#[60,61]⟩,.string ⟨#[62]⟩,.string ⟨#[62,61]⟩,.string ⟨#[61]⟩,.string ⟨#[33,61]⟩] 9)) (w.heap.size+1) 9 (sgnL.map (fun s=>Value.string (strN s)))):=ħ (by have:=HasV.new (w.alloc (.cells #[.int .i64 0,.string ⟨#[]⟩,.string ⟨#[]⟩,.int .i64 0,.slice none 0 0] 25)) 9 [.string ⟨#[60]⟩,.string ⟨#[60,61]⟩,.string ⟨#[62]⟩,.string ⟨#[62,61]⟩,.string ⟨#[61]⟩,.string ⟨#[33,61]⟩];rw[show (w.alloc (.cells #[.int .i64 0,.string ⟨#[]⟩,.string ⟨#[]⟩,.int .i64 0,.slice none 0 0] 25)).heap.size=w.heap.size+1 by simp] at this;exact this)
 generalize ((w.alloc (.cells #[.int .i64 0,.string ⟨#[]⟩,.string ⟨#[]⟩,.int .i64 0,.slice none 0 0] 25)).alloc (.cells #[.string ⟨#[60]⟩,.string ⟨#[60,61]⟩,.string ⟨#[62]⟩,.string ⟨#[62,61]⟩,.string ⟨#[61]⟩,.string ⟨#[33,61]⟩] 9))=w0 at *
 have H1:=ħ (H0.o.step B0.o)
 have Z0:=ħ (Below.refl w0.heap.size w0)
 go_loopw [11,10] (fun cc sv wr=>∃ k:Nat,cc = .int .i64 k∧sv = .string (strN (sgnS ts st k))∧k≤6∧Hid (Below w0.heap.size w0 wr)) (fun c _ _=>(6-intOf c).toNat)
 case atStart=>exact⟨0,rfl,rfl,by omega,Z0⟩
 case round =>
  clear Z0
  obtain⟨k,rfl,rfl,hk,hq⟩:=hrel
  have e2:IntKind.i64.wrap ((k:Int)+1)=((k+1:Nat):Int):=IntWalk.i64_in _ (by omega)
  by_cases hk6:k<6
  ·have ii:(k:Int)<6:=by omega
   obtain⟨s,hs⟩:∃ s,sgnL[k]?=some s:=⟨_,List.getElem?_eq_getElem (by rw[sgnL_len];exact hk6)⟩
   have c1:wr.cell? ⟨w.heap.size+1,k,none⟩=some (.string (strN s)):=(Y0.o.step hq.o).cell k _ (by rw[List.getElem?_map,hs];rfl)
   have HST:=ħ (sgnS_step ts st k s hs)
   have hks:=hs
   have HIS:=ħ (is_s wr R ao cap ts sz st s (H1.o.step hq.o) HN.o HTS.o (sgnL_byte s (List.mem_of_getElem? hs)))
   clear hs
   obtain⟨xs,hxs⟩:∃ xs,strN s=xs:=⟨_,rfl⟩
   have HXS:=ħ hxs
   rw[hxs] at c1 HIS
   clear hxs
   generalize isS ts s st=b at *
   go_wp2_with fail
   refine HIS.o.mono ?_
   rintro e w2 ⟨rfl,b2⟩
   have Q2:=ħ (hq.o.trans (b2.mono hq.o.size))
   clear b2 HIS hq c1
   cases b with
   | true =>
    have HX:Hid (strN (sgnS ts st (k+1))=xs):=ħ (by rw[HST.o,if_pos rfl];exact HXS.o)
    have c2:w2.cell? ⟨w.heap.size+1,k,none⟩=some (.string xs):=by
     have h9:sgnL[k]?=some s:=hks
     have:=(Y0.o.step Q2.o).cell k (.string (strN s)) (by rw[List.getElem?_map,h9];rfl)
     rwa [HXS.o] at this
    go_wp2
    go_roundw
    case rel=>exact⟨k+1,by go_num,by rw[HX.o],by omega,Q2⟩
    case measure=>simp only[intOf];omega
   | false =>
    have HX:Hid (strN (sgnS ts st (k+1))=strN (sgnS ts st k)):=ħ (by rw[HST.o,if_neg (by simp)])
    go_wp2
    go_roundw
    case rel=>exact⟨k+1,by go_num,by rw[HX.o],by omega,Q2⟩
    case measure=>simp only[intOf];omega
  ·have ii:¬ ((k:Int)<6):=by omega
   obtain rfl:k=6:=by omega
   have H2:=ħ (H1.o.step hq.o)
   have B2:=ħ (B0.o.trans (hq.o.mono B0.o.size))
   have X2:=ħ (X0.o.step hq.o)
   clear hq H1 B0 X0 Y0
   rcases sgn_law ts st with ⟨hc,hs6⟩ | ⟨i,rfl,hi,hcs⟩
   ·rw[hs6,show strN []=(⟨#[]⟩:ByteArray) from rfl]
    obtain⟨i,y,hi,hsw,hsi,-⟩:=H2.o.get
    obtain⟨c0,c1,c2,c3,c4⟩:=hsw.cells
    have HI:=ħ hi
    have HR:Hid (RR=(failS ts sz 12 i st).map (fun j=>(prd0,j))):=ħ (by
     rw[← HRR.o]
     cases st with
     | error z=>rfl
     | ok j =>
      obtain rfl:=hsi j rfl
      show compareP ts sz a u j=_
      have hc':cmpP ts j=none:=hc
      unfold compareP
      rw[hc']
      rfl)
    clear c0 c2 c3 c4 hsw hsi hs6 hc hi
    go_wp2_with fail
    refine (fail_s wr R ao cap ts sz st i 12 H2.o (by decide) HI.o HN.o).mono ?_
    rintro e w3 ⟨rfl,h3,o3⟩
    have H3:=ħ h3
    have O3:=ħ ((Only.of_below B2.o).trans o3)
    have X3:=ħ (X2.o.only o3 (by have:=RL.o;omega))
    clear h3 o3 X2 H2 B2 c1
    go_wp2_with (refine wpList_store_abs rfl 25 (.tmp 8) (.tmp 39) rfl w.heap.size zP.toArray ?s1 ?s2 25 _ X3.o (inf_pred _ rfl) rfl (by simp[Value.oneCell']) ?_;(case s1=>rfl);(case s2=>rfl);intro W9 s9 u9;have S9:=ħ s9;have U9:=ħ u9;clear s9 u9)
    exact bodyPost_ret (results_cell_row (p:=8) (by kernel_rfl) _ _ w.heap.size 25 zP.toArray (0,0) _ rfl S9.o Tryz.underlying25 rfl (inf_pred _ rfl)) rfl ⟨⟨prd0,zP,rfl,atomC_pred _ _ [] [] 0,wd_leaf _ _ _ _,fun q hq=>by
     rw[HR.o] at hq
     cases hf:failS ts sz 12 i st with
     | ok j=>rw[hf] at hq;cases hq;rfl
     | error z=>rw[hf] at hq;cases hq⟩,by
     rw[HR.o]
     have:=H0.o.upd H3.o U9.o (Nat.le_refl _)
     cases hf:failS ts sz 12 i st with
     | ok j=>rw[hf] at this;exact this
     | error z=>rw[hf] at this;exact this,O3.o.updNew U9.o (Nat.le_refl _)⟩
   ·have HI:=ħ hi
    clear hi
    have HRR2:Hid (RR=compareP ts sz a u i):=ħ HRR.o.symm
    rcases hcs with ⟨hc,hs6⟩ | ⟨hc,hs6⟩ | ⟨hc,hs6⟩ | ⟨hc,hs6⟩ | ⟨hc,hs6⟩ | ⟨hc,hs6⟩
    ·have HR:Hid (RR=(sumP ts sz (i+1)).bind (fun b=>if okP 0 a b.1=true then .ok (makeP 0 a b.1,b.2) else .error (3,offP ts sz u))):=ħ (by rw[HRR2.o];unfold compareP;rw[hc])
     rw[hs6,show strN [60,61]=(⟨#[60,61]⟩:ByteArray) from rfl]
     have HSM:=ħ (fun W (hW:SrcS W R ao cap ts sz (.ok (i+1)))=>ssum_any W R ao cap ts sz (.ok (i+1)) hW HN.o HTS.o)
     have HOK:Hid (∀ q,sumP ts sz (i+1) = .ok q→SumOk q.1):=ħ (fun q hq=>(sumP_ok HTS.o hq).2.2)
     rw[ok_bind] at HSM
     generalize sumP ts sz (i+1)=r2 at *
     obtain⟨y,hy⟩:=H2.o.at
     obtain⟨c0,c1,c2,c3,c4⟩:=hy.cells
     have f1:=hy.warm 1
     have e2:IntKind.i64.wrap ((i:Int)+1)=(i:Int)+1:=IntWalk.i64_in _ (by have:=HI.o;have:=HN.o;omega)
     clear c0 c2 c3 c4 hy hc hs6
     go_wp2_with fail
     have H3:Hid (SrcS (wr.setCell ⟨R,1,none⟩ (.int .i64 ((i:Int)+1))) R ao cap ts sz (.ok (i+1))):=ħ (H2.o.next HI.o)
     have O3:Hid (Only w (wr.setCell ⟨R,1,none⟩ (.int .i64 ((i:Int)+1))) (· = R)):=ħ ((Only.of_below B2.o).trans (SrcW.nextOnly R 1 _))
     have X3:Hid (HasV (wr.setCell ⟨R,1,none⟩ (.int .i64 ((i:Int)+1))) w.heap.size 25 zP):=ħ (X2.o.only (SrcW.nextOnly R 1 _) (by have:=RL.o;omega))
     clear c1 f1 e2 H2 B2 X2
     generalize wr.setCell ⟨R,1,none⟩ (.int .i64 ((i:Int)+1))=w3 at *
     refine (HSM.o w3 H3.o).mono ?_
     rintro e w4 ⟨⟨b,rfl,hb⟩,h4,o4⟩
     have H4:=ħ h4
     have O4:=ħ (O3.o.trans o4)
     have X4:=ħ (X3.o.only o4 (by have:=RL.o;omega))
     clear h4 o4 H3 O3 X3 HSM
     cases r2 with
     | error z =>
      obtain⟨hz,i4,hi4,hs4⟩:=H4.o
      have hzb:(z.1==0)=false:=beq_eq_false_iff_ne.mpr hz
      obtain⟨c0,c1,c2,c3,c4⟩:=hs4.cells
      clear c0 c1 c2 c4 hs4 hz hi4 hb
      generalize strN b.1=xb at *
      generalize b.2=cb at *
      go_wp2_with (refine wpList_store_abs rfl 25 (.tmp 8) (.tmp 57) rfl w.heap.size zP.toArray ?s1 ?s2 25 _ X4.o (inf_pred _ rfl) rfl (by simp[Value.oneCell']) ?_;(case s1=>rfl);(case s2=>rfl);intro W9 s9 u9;have S9:=ħ s9;have U9:=ħ u9;clear s9 u9)
      exact bodyPost_ret (results_cell_row (p:=8) (by kernel_rfl) _ _ w.heap.size 25 zP.toArray (0,0) _ rfl S9.o Tryz.underlying25 rfl (inf_pred _ rfl)) rfl ⟨⟨prd0,zP,rfl,atomC_pred _ _ [] [] 0,wd_leaf _ _ _ _,fun q hq=>by rw[HR.o] at hq;cases hq⟩,by rw[HR.o];exact H0.o.upd H4.o U9.o (Nat.le_refl _),O4.o.updNew U9.o (Nat.le_refl _)⟩
     | ok q =>
      have hbq:q.1=b:=hb q rfl
      subst hbq
      have HOB:=ħ (HOK.o q rfl)
      clear hb HOK
      have H5:Hid (SrcS w4 R ao cap ts sz (.ok q.2)):=ħ H4.o
      obtain⟨y,hy⟩:=H5.o.at
      obtain⟨c0,c1,c2,c3,c4⟩:=hy.cells
      clear c0 c1 c2 c4 hy H4
      have HAT:=ħ (satom_any w4 R ao cap ts sz (.ok q.2) u a q.1 0 H5.o HN.o HU.o (HA.o i rfl) HOB.o (by decide) (by decide))
      have HMK:Hid (makeP 0 a q.1=mostP a q.1 0∧okP 0 a q.1=inP (mostP a q.1 0)):=ħ ⟨rfl,rfl⟩
      have HVS:Hid (∀ W P,PredC W P (mostP a q.1 0) (atomC a.1 q.1.1 (q.1.2-a.2-0))):=ħ (fun W P=>atomC_pred W P _ _ _)
      have HWD:Hid (WdP (mostP a q.1 0)):=ħ (wd_most _ _ _)
      generalize mostP a q.1 0=mp at *
      obtain⟨vs,hvs⟩:∃ vs,atomC a.1 q.1.1 (q.1.2-a.2-0)=vs:=⟨_,rfl⟩
      have HV2:Hid (vs.length=5∧vs.toArray.all (·.oneCell')=true∧zP.toArray.size=vs.toArray.size):=ħ (by rw[← hvs];exact⟨rfl,by simp[atomC,Value.oneCell'],rfl⟩)
      rw[hvs] at HAT HVS
      rw[HXA.o,HCA.o] at HAT
      clear hvs
      generalize strN q.1.1=xb at *
      generalize q.1.2=cb at *
      go_wp2_with fail
      refine HAT.o.mono ?_
      rintro e w5 ⟨rfl,h5,o5⟩
      have H6:=ħ h5
      have O6:=ħ (O4.o.trans o5)
      have X6:=ħ (X4.o.only o5 (by have:=RL.o;omega))
      clear h5 o5 H5 O4 X4 HAT c3
      go_wp2_with (refine wpList_store_abs rfl 25 (.tmp 8) (.tmp 76) rfl w.heap.size vs.toArray ?s1 ?s2 25 _ X6.o (inf_pred _ HV2.o.1) HV2.o.2.2 HV2.o.2.1 ?_;(case s1=>rfl);(case s2=>rfl);intro W9 s9 u9;have S9:=ħ s9;have U9:=ħ u9;clear s9 u9)
      exact bodyPost_ret (results_cell_row (p:=8) (by kernel_rfl) _ _ w.heap.size 25 vs.toArray (0,0) _ rfl S9.o Tryz.underlying25 rfl (inf_pred _ HV2.o.1)) rfl ⟨⟨mp,vs,rfl,HVS.o _ _,HWD.o,fun x hx=>by
       rw[HR.o,ok_bind,HMK.o.1,HMK.o.2] at hx
       cases hin:inP mp with
       | true=>rw[hin,if_pos rfl] at hx;cases hx;rfl
       | false=>rw[hin,if_neg (by simp)] at hx;cases hx⟩,by
       rw[HR.o,ok_bind,HMK.o.1,HMK.o.2]
       have:=H0.o.upd H6.o U9.o (Nat.le_refl _)
       unfold atS at this
       cases hin:inP mp with
       | true=>rw[hin,if_pos rfl] at this;rw[if_pos rfl];exact this
       | false=>rw[hin,if_neg (by simp)] at this;rw[if_neg (by simp)];exact this,O6.o.updNew U9.o (Nat.le_refl _)⟩
    ·have HR:Hid (RR=(sumP ts sz (i+1)).bind (fun b=>if okP 1 a b.1=true then .ok (makeP 1 a b.1,b.2) else .error (3,offP ts sz u))):=ħ (by rw[HRR2.o];unfold compareP;rw[hc])
     rw[hs6,show strN [60]=(⟨#[60]⟩:ByteArray) from rfl]
     have HSM:=ħ (fun W (hW:SrcS W R ao cap ts sz (.ok (i+1)))=>ssum_any W R ao cap ts sz (.ok (i+1)) hW HN.o HTS.o)
     have HOK:Hid (∀ q,sumP ts sz (i+1) = .ok q→SumOk q.1):=ħ (fun q hq=>(sumP_ok HTS.o hq).2.2)
     rw[ok_bind] at HSM
     generalize sumP ts sz (i+1)=r2 at *
     obtain⟨y,hy⟩:=H2.o.at
     obtain⟨c0,c1,c2,c3,c4⟩:=hy.cells
     have f1:=hy.warm 1
     have e2:IntKind.i64.wrap ((i:Int)+1)=(i:Int)+1:=IntWalk.i64_in _ (by have:=HI.o;have:=HN.o;omega)
     clear c0 c2 c3 c4 hy hc hs6
     go_wp2_with fail
     have H3:Hid (SrcS (wr.setCell ⟨R,1,none⟩ (.int .i64 ((i:Int)+1))) R ao cap ts sz (.ok (i+1))):=ħ (H2.o.next HI.o)
     have O3:Hid (Only w (wr.setCell ⟨R,1,none⟩ (.int .i64 ((i:Int)+1))) (· = R)):=ħ ((Only.of_below B2.o).trans (SrcW.nextOnly R 1 _))
     have X3:Hid (HasV (wr.setCell ⟨R,1,none⟩ (.int .i64 ((i:Int)+1))) w.heap.size 25 zP):=ħ (X2.o.only (SrcW.nextOnly R 1 _) (by have:=RL.o;omega))
     clear c1 f1 e2 H2 B2 X2
     generalize wr.setCell ⟨R,1,none⟩ (.int .i64 ((i:Int)+1))=w3 at *
     refine (HSM.o w3 H3.o).mono ?_
     rintro e w4 ⟨⟨b,rfl,hb⟩,h4,o4⟩
     have H4:=ħ h4
     have O4:=ħ (O3.o.trans o4)
     have X4:=ħ (X3.o.only o4 (by have:=RL.o;omega))
     clear h4 o4 H3 O3 X3 HSM
     cases r2 with
     | error z =>
      obtain⟨hz,i4,hi4,hs4⟩:=H4.o
      have hzb:(z.1==0)=false:=beq_eq_false_iff_ne.mpr hz
      obtain⟨c0,c1,c2,c3,c4⟩:=hs4.cells
      clear c0 c1 c2 c4 hs4 hz hi4 hb
      generalize strN b.1=xb at *
      generalize b.2=cb at *
      go_wp2_with (refine wpList_store_abs rfl 25 (.tmp 8) (.tmp 57) rfl w.heap.size zP.toArray ?s1 ?s2 25 _ X4.o (inf_pred _ rfl) rfl (by simp[Value.oneCell']) ?_;(case s1=>rfl);(case s2=>rfl);intro W9 s9 u9;have S9:=ħ s9;have U9:=ħ u9;clear s9 u9)
      exact bodyPost_ret (results_cell_row (p:=8) (by kernel_rfl) _ _ w.heap.size 25 zP.toArray (0,0) _ rfl S9.o Tryz.underlying25 rfl (inf_pred _ rfl)) rfl ⟨⟨prd0,zP,rfl,atomC_pred _ _ [] [] 0,wd_leaf _ _ _ _,fun q hq=>by rw[HR.o] at hq;cases hq⟩,by rw[HR.o];exact H0.o.upd H4.o U9.o (Nat.le_refl _),O4.o.updNew U9.o (Nat.le_refl _)⟩
     | ok q =>
      have hbq:q.1=b:=hb q rfl
      subst hbq
      have HOB:=ħ (HOK.o q rfl)
      clear hb HOK
      have H5:Hid (SrcS w4 R ao cap ts sz (.ok q.2)):=ħ H4.o
      obtain⟨y,hy⟩:=H5.o.at
      obtain⟨c0,c1,c2,c3,c4⟩:=hy.cells
      clear c0 c1 c2 c4 hy H4
      have HAT:=ħ (satom_any w4 R ao cap ts sz (.ok q.2) u a q.1 1 H5.o HN.o HU.o (HA.o i rfl) HOB.o (by decide) (by decide))
      have HMK:Hid (makeP 1 a q.1=mostP a q.1 1∧okP 1 a q.1=inP (mostP a q.1 1)):=ħ ⟨rfl,rfl⟩
      have HVS:Hid (∀ W P,PredC W P (mostP a q.1 1) (atomC a.1 q.1.1 (q.1.2-a.2-1))):=ħ (fun W P=>atomC_pred W P _ _ _)
      have HWD:Hid (WdP (mostP a q.1 1)):=ħ (wd_most _ _ _)
      generalize mostP a q.1 1=mp at *
      obtain⟨vs,hvs⟩:∃ vs,atomC a.1 q.1.1 (q.1.2-a.2-1)=vs:=⟨_,rfl⟩
      have HV2:Hid (vs.length=5∧vs.toArray.all (·.oneCell')=true∧zP.toArray.size=vs.toArray.size):=ħ (by rw[← hvs];exact⟨rfl,by simp[atomC,Value.oneCell'],rfl⟩)
      rw[hvs] at HAT HVS
      rw[HXA.o,HCA.o] at HAT
      clear hvs
      generalize strN q.1.1=xb at *
      generalize q.1.2=cb at *
      go_wp2_with fail
      refine HAT.o.mono ?_
      rintro e w5 ⟨rfl,h5,o5⟩
      have H6:=ħ h5
      have O6:=ħ (O4.o.trans o5)
      have X6:=ħ (X4.o.only o5 (by have:=RL.o;omega))
      clear h5 o5 H5 O4 X4 HAT c3
      go_wp2_with (refine wpList_store_abs rfl 25 (.tmp 8) (.tmp 67) rfl w.heap.size vs.toArray ?s1 ?s2 25 _ X6.o (inf_pred _ HV2.o.1) HV2.o.2.2 HV2.o.2.1 ?_;(case s1=>rfl);(case s2=>rfl);intro W9 s9 u9;have S9:=ħ s9;have U9:=ħ u9;clear s9 u9)
      exact bodyPost_ret (results_cell_row (p:=8) (by kernel_rfl) _ _ w.heap.size 25 vs.toArray (0,0) _ rfl S9.o Tryz.underlying25 rfl (inf_pred _ HV2.o.1)) rfl ⟨⟨mp,vs,rfl,HVS.o _ _,HWD.o,fun x hx=>by
       rw[HR.o,ok_bind,HMK.o.1,HMK.o.2] at hx
       cases hin:inP mp with
       | true=>rw[hin,if_pos rfl] at hx;cases hx;rfl
       | false=>rw[hin,if_neg (by simp)] at hx;cases hx⟩,by
       rw[HR.o,ok_bind,HMK.o.1,HMK.o.2]
       have:=H0.o.upd H6.o U9.o (Nat.le_refl _)
       unfold atS at this
       cases hin:inP mp with
       | true=>rw[hin,if_pos rfl] at this;rw[if_pos rfl];exact this
       | false=>rw[hin,if_neg (by simp)] at this;rw[if_neg (by simp)];exact this,O6.o.updNew U9.o (Nat.le_refl _)⟩
    ·have HR:Hid (RR=(sumP ts sz (i+1)).bind (fun b=>if okP 2 a b.1=true then .ok (makeP 2 a b.1,b.2) else .error (3,offP ts sz u))):=ħ (by rw[HRR2.o];unfold compareP;rw[hc])
     rw[hs6,show strN [62,61]=(⟨#[62,61]⟩:ByteArray) from rfl]
     have HSM:=ħ (fun W (hW:SrcS W R ao cap ts sz (.ok (i+1)))=>ssum_any W R ao cap ts sz (.ok (i+1)) hW HN.o HTS.o)
     have HOK:Hid (∀ q,sumP ts sz (i+1) = .ok q→SumOk q.1):=ħ (fun q hq=>(sumP_ok HTS.o hq).2.2)
     rw[ok_bind] at HSM
     generalize sumP ts sz (i+1)=r2 at *
     obtain⟨y,hy⟩:=H2.o.at
     obtain⟨c0,c1,c2,c3,c4⟩:=hy.cells
     have f1:=hy.warm 1
     have e2:IntKind.i64.wrap ((i:Int)+1)=(i:Int)+1:=IntWalk.i64_in _ (by have:=HI.o;have:=HN.o;omega)
     clear c0 c2 c3 c4 hy hc hs6
     go_wp2_with fail
     have H3:Hid (SrcS (wr.setCell ⟨R,1,none⟩ (.int .i64 ((i:Int)+1))) R ao cap ts sz (.ok (i+1))):=ħ (H2.o.next HI.o)
     have O3:Hid (Only w (wr.setCell ⟨R,1,none⟩ (.int .i64 ((i:Int)+1))) (· = R)):=ħ ((Only.of_below B2.o).trans (SrcW.nextOnly R 1 _))
     have X3:Hid (HasV (wr.setCell ⟨R,1,none⟩ (.int .i64 ((i:Int)+1))) w.heap.size 25 zP):=ħ (X2.o.only (SrcW.nextOnly R 1 _) (by have:=RL.o;omega))
     clear c1 f1 e2 H2 B2 X2
     generalize wr.setCell ⟨R,1,none⟩ (.int .i64 ((i:Int)+1))=w3 at *
     refine (HSM.o w3 H3.o).mono ?_
     rintro e w4 ⟨⟨b,rfl,hb⟩,h4,o4⟩
     have H4:=ħ h4
     have O4:=ħ (O3.o.trans o4)
     have X4:=ħ (X3.o.only o4 (by have:=RL.o;omega))
     clear h4 o4 H3 O3 X3 HSM
     cases r2 with
     | error z =>
      obtain⟨hz,i4,hi4,hs4⟩:=H4.o
      have hzb:(z.1==0)=false:=beq_eq_false_iff_ne.mpr hz
      obtain⟨c0,c1,c2,c3,c4⟩:=hs4.cells
      clear c0 c1 c2 c4 hs4 hz hi4 hb
      generalize strN b.1=xb at *
      generalize b.2=cb at *
      go_wp2_with (refine wpList_store_abs rfl 25 (.tmp 8) (.tmp 57) rfl w.heap.size zP.toArray ?s1 ?s2 25 _ X4.o (inf_pred _ rfl) rfl (by simp[Value.oneCell']) ?_;(case s1=>rfl);(case s2=>rfl);intro W9 s9 u9;have S9:=ħ s9;have U9:=ħ u9;clear s9 u9)
      exact bodyPost_ret (results_cell_row (p:=8) (by kernel_rfl) _ _ w.heap.size 25 zP.toArray (0,0) _ rfl S9.o Tryz.underlying25 rfl (inf_pred _ rfl)) rfl ⟨⟨prd0,zP,rfl,atomC_pred _ _ [] [] 0,wd_leaf _ _ _ _,fun q hq=>by rw[HR.o] at hq;cases hq⟩,by rw[HR.o];exact H0.o.upd H4.o U9.o (Nat.le_refl _),O4.o.updNew U9.o (Nat.le_refl _)⟩
     | ok q =>
      have hbq:q.1=b:=hb q rfl
      subst hbq
      have HOB:=ħ (HOK.o q rfl)
      clear hb HOK
      have H5:Hid (SrcS w4 R ao cap ts sz (.ok q.2)):=ħ H4.o
      obtain⟨y,hy⟩:=H5.o.at
      obtain⟨c0,c1,c2,c3,c4⟩:=hy.cells
      clear c0 c1 c2 c4 hy H4
      have HAT:=ħ (satom_any w4 R ao cap ts sz (.ok q.2) u q.1 a 0 H5.o HN.o HU.o HOB.o (HA.o i rfl) (by decide) (by decide))
      have HMK:Hid (makeP 2 a q.1=mostP q.1 a 0∧okP 2 a q.1=inP (mostP q.1 a 0)):=ħ ⟨rfl,rfl⟩
      have HVS:Hid (∀ W P,PredC W P (mostP q.1 a 0) (atomC q.1.1 a.1 (a.2-q.1.2-0))):=ħ (fun W P=>atomC_pred W P _ _ _)
      have HWD:Hid (WdP (mostP q.1 a 0)):=ħ (wd_most _ _ _)
      generalize mostP q.1 a 0=mp at *
      obtain⟨vs,hvs⟩:∃ vs,atomC q.1.1 a.1 (a.2-q.1.2-0)=vs:=⟨_,rfl⟩
      have HV2:Hid (vs.length=5∧vs.toArray.all (·.oneCell')=true∧zP.toArray.size=vs.toArray.size):=ħ (by rw[← hvs];exact⟨rfl,by simp[atomC,Value.oneCell'],rfl⟩)
      rw[hvs] at HAT HVS
      rw[HXA.o,HCA.o] at HAT
      clear hvs
      generalize strN q.1.1=xb at *
      generalize q.1.2=cb at *
      go_wp2_with fail
      refine HAT.o.mono ?_
      rintro e w5 ⟨rfl,h5,o5⟩
      have H6:=ħ h5
      have O6:=ħ (O4.o.trans o5)
      have X6:=ħ (X4.o.only o5 (by have:=RL.o;omega))
      clear h5 o5 H5 O4 X4 HAT c3
      go_wp2_with (refine wpList_store_abs rfl 25 (.tmp 8) (.tmp 94) rfl w.heap.size vs.toArray ?s1 ?s2 25 _ X6.o (inf_pred _ HV2.o.1) HV2.o.2.2 HV2.o.2.1 ?_;(case s1=>rfl);(case s2=>rfl);intro W9 s9 u9;have S9:=ħ s9;have U9:=ħ u9;clear s9 u9)
      exact bodyPost_ret (results_cell_row (p:=8) (by kernel_rfl) _ _ w.heap.size 25 vs.toArray (0,0) _ rfl S9.o Tryz.underlying25 rfl (inf_pred _ HV2.o.1)) rfl ⟨⟨mp,vs,rfl,HVS.o _ _,HWD.o,fun x hx=>by
       rw[HR.o,ok_bind,HMK.o.1,HMK.o.2] at hx
       cases hin:inP mp with
       | true=>rw[hin,if_pos rfl] at hx;cases hx;rfl
       | false=>rw[hin,if_neg (by simp)] at hx;cases hx⟩,by
       rw[HR.o,ok_bind,HMK.o.1,HMK.o.2]
       have:=H0.o.upd H6.o U9.o (Nat.le_refl _)
       unfold atS at this
       cases hin:inP mp with
       | true=>rw[hin,if_pos rfl] at this;rw[if_pos rfl];exact this
       | false=>rw[hin,if_neg (by simp)] at this;rw[if_neg (by simp)];exact this,O6.o.updNew U9.o (Nat.le_refl _)⟩
    ·have HR:Hid (RR=(sumP ts sz (i+1)).bind (fun b=>if okP 3 a b.1=true then .ok (makeP 3 a b.1,b.2) else .error (3,offP ts sz u))):=ħ (by rw[HRR2.o];unfold compareP;rw[hc])
     rw[hs6,show strN [62]=(⟨#[62]⟩:ByteArray) from rfl]
     have HSM:=ħ (fun W (hW:SrcS W R ao cap ts sz (.ok (i+1)))=>ssum_any W R ao cap ts sz (.ok (i+1)) hW HN.o HTS.o)
     have HOK:Hid (∀ q,sumP ts sz (i+1) = .ok q→SumOk q.1):=ħ (fun q hq=>(sumP_ok HTS.o hq).2.2)
     rw[ok_bind] at HSM
     generalize sumP ts sz (i+1)=r2 at *
     obtain⟨y,hy⟩:=H2.o.at
     obtain⟨c0,c1,c2,c3,c4⟩:=hy.cells
     have f1:=hy.warm 1
     have e2:IntKind.i64.wrap ((i:Int)+1)=(i:Int)+1:=IntWalk.i64_in _ (by have:=HI.o;have:=HN.o;omega)
     clear c0 c2 c3 c4 hy hc hs6
     go_wp2_with fail
     have H3:Hid (SrcS (wr.setCell ⟨R,1,none⟩ (.int .i64 ((i:Int)+1))) R ao cap ts sz (.ok (i+1))):=ħ (H2.o.next HI.o)
     have O3:Hid (Only w (wr.setCell ⟨R,1,none⟩ (.int .i64 ((i:Int)+1))) (· = R)):=ħ ((Only.of_below B2.o).trans (SrcW.nextOnly R 1 _))
     have X3:Hid (HasV (wr.setCell ⟨R,1,none⟩ (.int .i64 ((i:Int)+1))) w.heap.size 25 zP):=ħ (X2.o.only (SrcW.nextOnly R 1 _) (by have:=RL.o;omega))
     clear c1 f1 e2 H2 B2 X2
     generalize wr.setCell ⟨R,1,none⟩ (.int .i64 ((i:Int)+1))=w3 at *
     refine (HSM.o w3 H3.o).mono ?_
     rintro e w4 ⟨⟨b,rfl,hb⟩,h4,o4⟩
     have H4:=ħ h4
     have O4:=ħ (O3.o.trans o4)
     have X4:=ħ (X3.o.only o4 (by have:=RL.o;omega))
     clear h4 o4 H3 O3 X3 HSM
     cases r2 with
     | error z =>
      obtain⟨hz,i4,hi4,hs4⟩:=H4.o
      have hzb:(z.1==0)=false:=beq_eq_false_iff_ne.mpr hz
      obtain⟨c0,c1,c2,c3,c4⟩:=hs4.cells
      clear c0 c1 c2 c4 hs4 hz hi4 hb
      generalize strN b.1=xb at *
      generalize b.2=cb at *
      go_wp2_with (refine wpList_store_abs rfl 25 (.tmp 8) (.tmp 57) rfl w.heap.size zP.toArray ?s1 ?s2 25 _ X4.o (inf_pred _ rfl) rfl (by simp[Value.oneCell']) ?_;(case s1=>rfl);(case s2=>rfl);intro W9 s9 u9;have S9:=ħ s9;have U9:=ħ u9;clear s9 u9)
      exact bodyPost_ret (results_cell_row (p:=8) (by kernel_rfl) _ _ w.heap.size 25 zP.toArray (0,0) _ rfl S9.o Tryz.underlying25 rfl (inf_pred _ rfl)) rfl ⟨⟨prd0,zP,rfl,atomC_pred _ _ [] [] 0,wd_leaf _ _ _ _,fun q hq=>by rw[HR.o] at hq;cases hq⟩,by rw[HR.o];exact H0.o.upd H4.o U9.o (Nat.le_refl _),O4.o.updNew U9.o (Nat.le_refl _)⟩
     | ok q =>
      have hbq:q.1=b:=hb q rfl
      subst hbq
      have HOB:=ħ (HOK.o q rfl)
      clear hb HOK
      have H5:Hid (SrcS w4 R ao cap ts sz (.ok q.2)):=ħ H4.o
      obtain⟨y,hy⟩:=H5.o.at
      obtain⟨c0,c1,c2,c3,c4⟩:=hy.cells
      clear c0 c1 c2 c4 hy H4
      have HAT:=ħ (satom_any w4 R ao cap ts sz (.ok q.2) u q.1 a 1 H5.o HN.o HU.o HOB.o (HA.o i rfl) (by decide) (by decide))
      have HMK:Hid (makeP 3 a q.1=mostP q.1 a 1∧okP 3 a q.1=inP (mostP q.1 a 1)):=ħ ⟨rfl,rfl⟩
      have HVS:Hid (∀ W P,PredC W P (mostP q.1 a 1) (atomC q.1.1 a.1 (a.2-q.1.2-1))):=ħ (fun W P=>atomC_pred W P _ _ _)
      have HWD:Hid (WdP (mostP q.1 a 1)):=ħ (wd_most _ _ _)
      generalize mostP q.1 a 1=mp at *
      obtain⟨vs,hvs⟩:∃ vs,atomC q.1.1 a.1 (a.2-q.1.2-1)=vs:=⟨_,rfl⟩
      have HV2:Hid (vs.length=5∧vs.toArray.all (·.oneCell')=true∧zP.toArray.size=vs.toArray.size):=ħ (by rw[← hvs];exact⟨rfl,by simp[atomC,Value.oneCell'],rfl⟩)
      rw[hvs] at HAT HVS
      rw[HXA.o,HCA.o] at HAT
      clear hvs
      generalize strN q.1.1=xb at *
      generalize q.1.2=cb at *
      go_wp2_with fail
      refine HAT.o.mono ?_
      rintro e w5 ⟨rfl,h5,o5⟩
      have H6:=ħ h5
      have O6:=ħ (O4.o.trans o5)
      have X6:=ħ (X4.o.only o5 (by have:=RL.o;omega))
      clear h5 o5 H5 O4 X4 HAT c3
      go_wp2_with (refine wpList_store_abs rfl 25 (.tmp 8) (.tmp 85) rfl w.heap.size vs.toArray ?s1 ?s2 25 _ X6.o (inf_pred _ HV2.o.1) HV2.o.2.2 HV2.o.2.1 ?_;(case s1=>rfl);(case s2=>rfl);intro W9 s9 u9;have S9:=ħ s9;have U9:=ħ u9;clear s9 u9)
      exact bodyPost_ret (results_cell_row (p:=8) (by kernel_rfl) _ _ w.heap.size 25 vs.toArray (0,0) _ rfl S9.o Tryz.underlying25 rfl (inf_pred _ HV2.o.1)) rfl ⟨⟨mp,vs,rfl,HVS.o _ _,HWD.o,fun x hx=>by
       rw[HR.o,ok_bind,HMK.o.1,HMK.o.2] at hx
       cases hin:inP mp with
       | true=>rw[hin,if_pos rfl] at hx;cases hx;rfl
       | false=>rw[hin,if_neg (by simp)] at hx;cases hx⟩,by
       rw[HR.o,ok_bind,HMK.o.1,HMK.o.2]
       have:=H0.o.upd H6.o U9.o (Nat.le_refl _)
       unfold atS at this
       cases hin:inP mp with
       | true=>rw[hin,if_pos rfl] at this;rw[if_pos rfl];exact this
       | false=>rw[hin,if_neg (by simp)] at this;rw[if_neg (by simp)];exact this,O6.o.updNew U9.o (Nat.le_refl _)⟩
    ·have HR:Hid (RR=(sumP ts sz (i+1)).bind (fun b=>if okP 4 a b.1=true then .ok (makeP 4 a b.1,b.2) else .error (3,offP ts sz u))):=ħ (by rw[HRR2.o];unfold compareP;rw[hc])
     rw[hs6,show strN [61]=(⟨#[61]⟩:ByteArray) from rfl]
     have HSM:=ħ (fun W (hW:SrcS W R ao cap ts sz (.ok (i+1)))=>ssum_any W R ao cap ts sz (.ok (i+1)) hW HN.o HTS.o)
     have HOK:Hid (∀ q,sumP ts sz (i+1) = .ok q→SumOk q.1):=ħ (fun q hq=>(sumP_ok HTS.o hq).2.2)
     rw[ok_bind] at HSM
     generalize sumP ts sz (i+1)=r2 at *
     obtain⟨y,hy⟩:=H2.o.at
     obtain⟨c0,c1,c2,c3,c4⟩:=hy.cells
     have f1:=hy.warm 1
     have e2:IntKind.i64.wrap ((i:Int)+1)=(i:Int)+1:=IntWalk.i64_in _ (by have:=HI.o;have:=HN.o;omega)
     clear c0 c2 c3 c4 hy hc hs6
     go_wp2_with fail
     have H3:Hid (SrcS (wr.setCell ⟨R,1,none⟩ (.int .i64 ((i:Int)+1))) R ao cap ts sz (.ok (i+1))):=ħ (H2.o.next HI.o)
     have O3:Hid (Only w (wr.setCell ⟨R,1,none⟩ (.int .i64 ((i:Int)+1))) (· = R)):=ħ ((Only.of_below B2.o).trans (SrcW.nextOnly R 1 _))
     have X3:Hid (HasV (wr.setCell ⟨R,1,none⟩ (.int .i64 ((i:Int)+1))) w.heap.size 25 zP):=ħ (X2.o.only (SrcW.nextOnly R 1 _) (by have:=RL.o;omega))
     clear c1 f1 e2 H2 B2 X2
     generalize wr.setCell ⟨R,1,none⟩ (.int .i64 ((i:Int)+1))=w3 at *
     refine (HSM.o w3 H3.o).mono ?_
     rintro e w4 ⟨⟨b,rfl,hb⟩,h4,o4⟩
     have H4:=ħ h4
     have O4:=ħ (O3.o.trans o4)
     have X4:=ħ (X3.o.only o4 (by have:=RL.o;omega))
     clear h4 o4 H3 O3 X3 HSM
     cases r2 with
     | error z =>
      obtain⟨hz,i4,hi4,hs4⟩:=H4.o
      have hzb:(z.1==0)=false:=beq_eq_false_iff_ne.mpr hz
      obtain⟨c0,c1,c2,c3,c4⟩:=hs4.cells
      clear c0 c1 c2 c4 hs4 hz hi4 hb
      generalize strN b.1=xb at *
      generalize b.2=cb at *
      go_wp2_with (refine wpList_store_abs rfl 25 (.tmp 8) (.tmp 57) rfl w.heap.size zP.toArray ?s1 ?s2 25 _ X4.o (inf_pred _ rfl) rfl (by simp[Value.oneCell']) ?_;(case s1=>rfl);(case s2=>rfl);intro W9 s9 u9;have S9:=ħ s9;have U9:=ħ u9;clear s9 u9)
      exact bodyPost_ret (results_cell_row (p:=8) (by kernel_rfl) _ _ w.heap.size 25 zP.toArray (0,0) _ rfl S9.o Tryz.underlying25 rfl (inf_pred _ rfl)) rfl ⟨⟨prd0,zP,rfl,atomC_pred _ _ [] [] 0,wd_leaf _ _ _ _,fun q hq=>by rw[HR.o] at hq;cases hq⟩,by rw[HR.o];exact H0.o.upd H4.o U9.o (Nat.le_refl _),O4.o.updNew U9.o (Nat.le_refl _)⟩
     | ok q =>
      have hbq:q.1=b:=hb q rfl
      subst hbq
      have HOB:=ħ (HOK.o q rfl)
      clear hb HOK
      have H5:Hid (SrcS w4 R ao cap ts sz (.ok q.2)):=ħ H4.o
      obtain⟨y,hy⟩:=H5.o.at
      obtain⟨c0,c1,c2,c3,c4⟩:=hy.cells
      clear c0 c1 c2 c4 hy H4
      have HAT:=ħ (satom_any w4 R ao cap ts sz (.ok q.2) u a q.1 0 H5.o HN.o HU.o (HA.o i rfl) HOB.o (by decide) (by decide))
      have HAU:=ħ (fun W st2 (hW:SrcS W R ao cap ts sz st2)=>satom_any W R ao cap ts sz st2 u q.1 a 0 hW HN.o HU.o HOB.o (HA.o i rfl) (by decide) (by decide))
      have HMK:Hid (makeP 4 a q.1 = .mk 1 [] [] 0 [mostP a q.1 0,mostP q.1 a 0]∧okP 4 a q.1=(inP (mostP a q.1 0)&&inP (mostP q.1 a 0))):=ħ ⟨rfl,rfl⟩
      have HVS:Hid (∀ W P,PredC W P (mostP a q.1 0) (atomC a.1 q.1.1 (q.1.2-a.2-0))∧PredC W P (mostP q.1 a 0) (atomC q.1.1 a.1 (a.2-q.1.2-0))):=ħ (fun W P=>⟨atomC_pred W P _ _ _,atomC_pred W P _ _ _⟩)
      have HWD1:Hid (WdP (mostP a q.1 0)):=ħ (wd_most _ _ _)
      generalize mostP a q.1 0=m1 at *
      have HWD2:Hid (WdP (mostP q.1 a 0)):=ħ (wd_most _ _ _)
      generalize mostP q.1 a 0=m2 at *
      unfold atomC at HAT HAU HVS
      generalize a.2-q.1.2-0=k2 at *
      generalize q.1.2-a.2-0=k1 at *
      rw[HXA.o,HCA.o] at HAT
      simp only[HXA.o,HCA.o] at HAU
      rw[HXA.o] at HVS
      generalize strN q.1.1=xb at *
      generalize q.1.2=cb at *
      go_wp2_with fail
      refine HAT.o.mono ?_
      rintro e w5 ⟨rfl,h5,o5⟩
      have H6:=ħ h5
      have O6:=ħ (O4.o.trans o5)
      have X6:=ħ (X4.o.only o5 (by have:=RL.o;omega))
      clear h5 o5 H5 O4 X4 HAT c3
      go_wp2_with fail
      refine (HAU.o w5 _ H6.o).mono ?_
      rintro e w6 ⟨rfl,h7,o7⟩
      have B8:Hid (Below w6.heap.size w6 (w6.alloc (.cells #[.int .i64 0,.string xa,.string xb,.int .i64 k1,.slice none 0 0,.int .i64 0,.string xb,.string xa,.int .i64 k2,.slice none 0 0] 25))):=ħ ((Below.refl w6.heap.size w6).alloc (Nat.le_refl _) _)
      have H8:=ħ (SrcS.step h7 B8.o)
      have O7:=ħ (O6.o.trans o7)
      have O8:=ħ (O7.o.trans (Only.of_below B8.o))
      have X8:Hid (HasV (w6.alloc (.cells #[.int .i64 0,.string xa,.string xb,.int .i64 k1,.slice none 0 0,.int .i64 0,.string xb,.string xa,.int .i64 k2,.slice none 0 0] 25)) w.heap.size 25 zP):=ħ ((X6.o.only o7 (by have:=RL.o;omega)).step B8.o)
      have Y8:Hid (HasV (w6.alloc (.cells #[.int .i64 0,.string xa,.string xb,.int .i64 k1,.slice none 0 0,.int .i64 0,.string xb,.string xa,.int .i64 k2,.slice none 0 0] 25)) w6.heap.size 25 [.int .i64 0,.string xa,.string xb,.int .i64 k1,.slice none 0 0,.int .i64 0,.string xb,.string xa,.int .i64 k2,.slice none 0 0]):=ħ (HasV.new w6 _ [.int .i64 0,.string xa,.string xb,.int .i64 k1,.slice none 0 0,.int .i64 0,.string xb,.string xa,.int .i64 k2,.slice none 0 0])
      have HSZ:Hid (w.heap.size<w6.heap.size):=ħ ((X6.o.only o7 (by have:=RL.o;omega)).lt)
      clear h7 o7 H6 O6 X6 HAU
      go_wp2_with (refine wpList_store_abs rfl 25 (.tmp 8) (.tmp 112) rfl w.heap.size #[.int .i64 1,.string ⟨#[]⟩,.string ⟨#[]⟩,.int .i64 0,.slice (some ⟨w6.heap.size,0,none⟩) 2 2] ?s1 ?s2 25 _ X8.o (inf_pred _ rfl) rfl (by simp[Value.oneCell']) ?_;(case s1=>rfl);(case s2=>rfl);intro W9 s9 u9;have S9:=ħ s9;have U9:=ħ u9;clear s9 u9)
      exact bodyPost_ret (results_cell_row (p:=8) (by kernel_rfl) _ _ w.heap.size 25 #[.int .i64 1,.string ⟨#[]⟩,.string ⟨#[]⟩,.int .i64 0,.slice (some ⟨w6.heap.size,0,none⟩) 2 2] (0,0) _ rfl S9.o Tryz.underlying25 rfl (inf_pred _ rfl)) rfl ⟨⟨.mk 1 [] [] 0 [m1,m2],[.int .i64 1,.string ⟨#[]⟩,.string ⟨#[]⟩,.int .i64 0,.slice (some ⟨w6.heap.size,0,none⟩) 2 2],rfl,by
       have hy:HasV W9 w6.heap.size 25 [.int .i64 0,.string xa,.string xb,.int .i64 k1,.slice none 0 0,.int .i64 0,.string xb,.string xa,.int .i64 k2,.slice none 0 0]:=Y8.o.upd U9.o (by have:=HSZ.o;omega)
       unfold PredC
       exact⟨some ⟨w6.heap.size,0,none⟩,2,rfl,.inr ⟨w6.heap.size,0,rfl,Nat.le_of_lt HSZ.o,hy.lt,kids_two rfl (v2:=[.int .i64 0,.string xb,.string xa,.int .i64 k2,.slice none 0 0]) hy (HVS.o _ _).1 (HVS.o _ _).2⟩⟩,wd_two _ _ _ _ HWD1.o HWD2.o,fun x hx=>by
       rw[HR.o,ok_bind,HMK.o.1,HMK.o.2] at hx
       cases hin:(inP m1&&inP m2) with
       | true=>rw[hin,if_pos rfl] at hx;cases hx;rfl
       | false=>rw[hin,if_neg (by simp)] at hx;cases hx⟩,by
       rw[HR.o,ok_bind,HMK.o.1,HMK.o.2]
       have:=H0.o.upd H8.o U9.o (Nat.le_refl _)
       unfold atS failS at this
       cases h1:inP m1 with
       | true =>
        cases h2:inP m2 with
        | true=>rw[h1,h2,if_pos rfl,if_pos rfl] at this;exact this
        | false=>rw[h1,h2,if_pos rfl,if_neg (by simp)] at this;exact this
       | false =>
        cases h2:inP m2 with
        | true=>rw[h1,h2,if_pos rfl,if_neg (by simp)] at this;exact this
        | false=>rw[h1,h2,if_neg (by simp),if_neg (by simp)] at this;exact this,O8.o.updNew U9.o (Nat.le_refl _)⟩
    ·have HR:Hid (RR=(sumP ts sz (i+1)).bind (fun b=>if okP 5 a b.1=true then .ok (makeP 5 a b.1,b.2) else .error (3,offP ts sz u))):=ħ (by rw[HRR2.o];unfold compareP;rw[hc])
     rw[hs6,show strN [33,61]=(⟨#[33,61]⟩:ByteArray) from rfl]
     have HSM:=ħ (fun W (hW:SrcS W R ao cap ts sz (.ok (i+1)))=>ssum_any W R ao cap ts sz (.ok (i+1)) hW HN.o HTS.o)
     have HOK:Hid (∀ q,sumP ts sz (i+1) = .ok q→SumOk q.1):=ħ (fun q hq=>(sumP_ok HTS.o hq).2.2)
     rw[ok_bind] at HSM
     generalize sumP ts sz (i+1)=r2 at *
     obtain⟨y,hy⟩:=H2.o.at
     obtain⟨c0,c1,c2,c3,c4⟩:=hy.cells
     have f1:=hy.warm 1
     have e2:IntKind.i64.wrap ((i:Int)+1)=(i:Int)+1:=IntWalk.i64_in _ (by have:=HI.o;have:=HN.o;omega)
     clear c0 c2 c3 c4 hy hc hs6
     go_wp2_with fail
     have H3:Hid (SrcS (wr.setCell ⟨R,1,none⟩ (.int .i64 ((i:Int)+1))) R ao cap ts sz (.ok (i+1))):=ħ (H2.o.next HI.o)
     have O3:Hid (Only w (wr.setCell ⟨R,1,none⟩ (.int .i64 ((i:Int)+1))) (· = R)):=ħ ((Only.of_below B2.o).trans (SrcW.nextOnly R 1 _))
     have X3:Hid (HasV (wr.setCell ⟨R,1,none⟩ (.int .i64 ((i:Int)+1))) w.heap.size 25 zP):=ħ (X2.o.only (SrcW.nextOnly R 1 _) (by have:=RL.o;omega))
     clear c1 f1 e2 H2 B2 X2
     generalize wr.setCell ⟨R,1,none⟩ (.int .i64 ((i:Int)+1))=w3 at *
     refine (HSM.o w3 H3.o).mono ?_
     rintro e w4 ⟨⟨b,rfl,hb⟩,h4,o4⟩
     have H4:=ħ h4
     have O4:=ħ (O3.o.trans o4)
     have X4:=ħ (X3.o.only o4 (by have:=RL.o;omega))
     clear h4 o4 H3 O3 X3 HSM
     cases r2 with
     | error z =>
      obtain⟨hz,i4,hi4,hs4⟩:=H4.o
      have hzb:(z.1==0)=false:=beq_eq_false_iff_ne.mpr hz
      obtain⟨c0,c1,c2,c3,c4⟩:=hs4.cells
      clear c0 c1 c2 c4 hs4 hz hi4 hb
      generalize strN b.1=xb at *
      generalize b.2=cb at *
      go_wp2_with (refine wpList_store_abs rfl 25 (.tmp 8) (.tmp 57) rfl w.heap.size zP.toArray ?s1 ?s2 25 _ X4.o (inf_pred _ rfl) rfl (by simp[Value.oneCell']) ?_;(case s1=>rfl);(case s2=>rfl);intro W9 s9 u9;have S9:=ħ s9;have U9:=ħ u9;clear s9 u9)
      exact bodyPost_ret (results_cell_row (p:=8) (by kernel_rfl) _ _ w.heap.size 25 zP.toArray (0,0) _ rfl S9.o Tryz.underlying25 rfl (inf_pred _ rfl)) rfl ⟨⟨prd0,zP,rfl,atomC_pred _ _ [] [] 0,wd_leaf _ _ _ _,fun q hq=>by rw[HR.o] at hq;cases hq⟩,by rw[HR.o];exact H0.o.upd H4.o U9.o (Nat.le_refl _),O4.o.updNew U9.o (Nat.le_refl _)⟩
     | ok q =>
      have hbq:q.1=b:=hb q rfl
      subst hbq
      have HOB:=ħ (HOK.o q rfl)
      clear hb HOK
      have H5:Hid (SrcS w4 R ao cap ts sz (.ok q.2)):=ħ H4.o
      obtain⟨y,hy⟩:=H5.o.at
      obtain⟨c0,c1,c2,c3,c4⟩:=hy.cells
      clear c0 c1 c2 c4 hy H4
      have HAT:=ħ (satom_any w4 R ao cap ts sz (.ok q.2) u a q.1 1 H5.o HN.o HU.o (HA.o i rfl) HOB.o (by decide) (by decide))
      have HAU:=ħ (fun W st2 (hW:SrcS W R ao cap ts sz st2)=>satom_any W R ao cap ts sz st2 u q.1 a 1 hW HN.o HU.o HOB.o (HA.o i rfl) (by decide) (by decide))
      have HMK:Hid (makeP 5 a q.1 = .mk 2 [] [] 0 [mostP a q.1 1,mostP q.1 a 1]∧okP 5 a q.1=(inP (mostP a q.1 1)&&inP (mostP q.1 a 1))):=ħ ⟨rfl,rfl⟩
      have HVS:Hid (∀ W P,PredC W P (mostP a q.1 1) (atomC a.1 q.1.1 (q.1.2-a.2-1))∧PredC W P (mostP q.1 a 1) (atomC q.1.1 a.1 (a.2-q.1.2-1))):=ħ (fun W P=>⟨atomC_pred W P _ _ _,atomC_pred W P _ _ _⟩)
      have HWD1:Hid (WdP (mostP a q.1 1)):=ħ (wd_most _ _ _)
      generalize mostP a q.1 1=m1 at *
      have HWD2:Hid (WdP (mostP q.1 a 1)):=ħ (wd_most _ _ _)
      generalize mostP q.1 a 1=m2 at *
      unfold atomC at HAT HAU HVS
      generalize a.2-q.1.2-1=k2 at *
      generalize q.1.2-a.2-1=k1 at *
      rw[HXA.o,HCA.o] at HAT
      simp only[HXA.o,HCA.o] at HAU
      rw[HXA.o] at HVS
      generalize strN q.1.1=xb at *
      generalize q.1.2=cb at *
      go_wp2_with fail
      refine HAT.o.mono ?_
      rintro e w5 ⟨rfl,h5,o5⟩
      have H6:=ħ h5
      have O6:=ħ (O4.o.trans o5)
      have X6:=ħ (X4.o.only o5 (by have:=RL.o;omega))
      clear h5 o5 H5 O4 X4 HAT c3
      go_wp2_with fail
      refine (HAU.o w5 _ H6.o).mono ?_
      rintro e w6 ⟨rfl,h7,o7⟩
      have B8:Hid (Below w6.heap.size w6 (w6.alloc (.cells #[.int .i64 0,.string xa,.string xb,.int .i64 k1,.slice none 0 0,.int .i64 0,.string xb,.string xa,.int .i64 k2,.slice none 0 0] 25))):=ħ ((Below.refl w6.heap.size w6).alloc (Nat.le_refl _) _)
      have H8:=ħ (SrcS.step h7 B8.o)
      have O7:=ħ (O6.o.trans o7)
      have O8:=ħ (O7.o.trans (Only.of_below B8.o))
      have X8:Hid (HasV (w6.alloc (.cells #[.int .i64 0,.string xa,.string xb,.int .i64 k1,.slice none 0 0,.int .i64 0,.string xb,.string xa,.int .i64 k2,.slice none 0 0] 25)) w.heap.size 25 zP):=ħ ((X6.o.only o7 (by have:=RL.o;omega)).step B8.o)
      have Y8:Hid (HasV (w6.alloc (.cells #[.int .i64 0,.string xa,.string xb,.int .i64 k1,.slice none 0 0,.int .i64 0,.string xb,.string xa,.int .i64 k2,.slice none 0 0] 25)) w6.heap.size 25 [.int .i64 0,.string xa,.string xb,.int .i64 k1,.slice none 0 0,.int .i64 0,.string xb,.string xa,.int .i64 k2,.slice none 0 0]):=ħ (HasV.new w6 _ [.int .i64 0,.string xa,.string xb,.int .i64 k1,.slice none 0 0,.int .i64 0,.string xb,.string xa,.int .i64 k2,.slice none 0 0])
      have HSZ:Hid (w.heap.size<w6.heap.size):=ħ ((X6.o.only o7 (by have:=RL.o;omega)).lt)
      clear h7 o7 H6 O6 X6 HAU
      go_wp2_with (refine wpList_store_abs rfl 25 (.tmp 8) (.tmp 128) rfl w.heap.size #[.int .i64 2,.string ⟨#[]⟩,.string ⟨#[]⟩,.int .i64 0,.slice (some ⟨w6.heap.size,0,none⟩) 2 2] ?s1 ?s2 25 _ X8.o (inf_pred _ rfl) rfl (by simp[Value.oneCell']) ?_;(case s1=>rfl);(case s2=>rfl);intro W9 s9 u9;have S9:=ħ s9;have U9:=ħ u9;clear s9 u9)
      exact bodyPost_ret (results_cell_row (p:=8) (by kernel_rfl) _ _ w.heap.size 25 #[.int .i64 2,.string ⟨#[]⟩,.string ⟨#[]⟩,.int .i64 0,.slice (some ⟨w6.heap.size,0,none⟩) 2 2] (0,0) _ rfl S9.o Tryz.underlying25 rfl (inf_pred _ rfl)) rfl ⟨⟨.mk 2 [] [] 0 [m1,m2],[.int .i64 2,.string ⟨#[]⟩,.string ⟨#[]⟩,.int .i64 0,.slice (some ⟨w6.heap.size,0,none⟩) 2 2],rfl,by
       have hy:HasV W9 w6.heap.size 25 [.int .i64 0,.string xa,.string xb,.int .i64 k1,.slice none 0 0,.int .i64 0,.string xb,.string xa,.int .i64 k2,.slice none 0 0]:=Y8.o.upd U9.o (by have:=HSZ.o;omega)
       unfold PredC
       exact⟨some ⟨w6.heap.size,0,none⟩,2,rfl,.inr ⟨w6.heap.size,0,rfl,Nat.le_of_lt HSZ.o,hy.lt,kids_two rfl (v2:=[.int .i64 0,.string xb,.string xa,.int .i64 k2,.slice none 0 0]) hy (HVS.o _ _).1 (HVS.o _ _).2⟩⟩,wd_two _ _ _ _ HWD1.o HWD2.o,fun x hx=>by
       rw[HR.o,ok_bind,HMK.o.1,HMK.o.2] at hx
       cases hin:(inP m1&&inP m2) with
       | true=>rw[hin,if_pos rfl] at hx;cases hx;rfl
       | false=>rw[hin,if_neg (by simp)] at hx;cases hx⟩,by
       rw[HR.o,ok_bind,HMK.o.1,HMK.o.2]
       have:=H0.o.upd H8.o U9.o (Nat.le_refl _)
       unfold atS failS at this
       cases h1:inP m1 with
       | true =>
        cases h2:inP m2 with
        | true=>rw[h1,h2,if_pos rfl,if_pos rfl] at this;exact this
        | false=>rw[h1,h2,if_pos rfl,if_neg (by simp)] at this;exact this
       | false =>
        cases h2:inP m2 with
        | true=>rw[h1,h2,if_pos rfl,if_neg (by simp)] at this;exact this
        | false=>rw[h1,h2,if_neg (by simp),if_neg (by simp)] at this;exact this,O8.o.updNew U9.o (Nat.le_refl _)⟩
end
section
open Go.RowKit
def contS (ts:List Tok) (word:List Nat) (el:Nat→PR Prd) (f:Nat) (s:StP) (ps:List Prd):PR (List Prd) :=
 s.bind (fun j=>if isP ts word j=true then listP ts word el f (j+1) ps else .ok (ps,j))
theorem listP_cont (ts:List Tok) (word:List Nat) (el:Nat→PR Prd) (f i:Nat) (acc:List Prd):listP ts word el (f+1) i acc=(el i).bind (fun p=>contS ts word el f (.ok p.2) (acc++[p.1])):=by
 rw[listP]
 rfl
theorem cont_first (ts:List Tok) (word:List Nat) (el:Nat→PR Prd) (f:Nat) (st:StP) (p:Prd) (hp:∀ q,st.bind el = .ok q→q.1=p) :
  st.bind (fun i=>listP ts word el (f+1) i [])=contS ts word el f (nxS (st.bind el)) [p]:=by
 cases st with
 | error z=>rfl
 | ok i =>
  rw[ok_bind] at hp ⊢
  rw[listP_cont,ok_bind]
  cases h:el i with
  | error z=>rfl
  | ok q =>
   rw[← hp q h]
   rfl
theorem cont_next (ts:List Tok) (word:List Nat) (el:Nat→PR Prd) (f j:Nat) (ps:List Prd) (p:Prd) (hw:isP ts word j=true) (hp:∀ q,el (j+1) = .ok q→q.1=p) :
  contS ts word el (f+1) (.ok j) ps=contS ts word el f (nxS (el (j+1))) (ps++[p]):=by
 unfold contS
 rw[ok_bind,if_pos hw,listP_cont]
 cases h:el (j+1) with
 | error z=>rfl
 | ok q =>
  rw[← hp q h]
  rfl
theorem cont_end (ts:List Tok) (word:List Nat) (el:Nat→PR Prd) (f:Nat) (s:StP) (ps:List Prd) (hw:isS ts word s=false) :
  (∀ q,contS ts word el f s ps = .ok q→q.1=ps)∧nxS (contS ts word el f s ps)=s:=by
 cases s with
 | error z=>exact⟨(fun q hq=>by cases hq),rfl⟩
 | ok j =>
  have h:isP ts word j=false:=hw
  unfold contS
  rw[ok_bind,if_neg (by rw[h];simp)]
  exact⟨(fun q hq=>by cases hq;rfl),rfl⟩
theorem map_val {α β:Type} (r:PR α) (g:α→β) (a:α) (s:StP) (h:(∀ q,r = .ok q→q.1=a)∧nxS r=s) :
  (∀ q,r.bind (fun x=>(.ok (g x.1,x.2):PR β)) = .ok q→q.1=g a)∧nxS (r.bind (fun x=>(.ok (g x.1,x.2):PR β)))=s:=by
 obtain⟨h1,h2⟩:=h
 cases r with
 | error z=>exact⟨(fun q hq=>by cases hq),h2⟩
 | ok x=>exact⟨(fun q hq=>by cases hq;rw[h1 x rfl]),h2⟩
theorem one_end (ts:List Tok) (word:List Nat) (el:Nat→PR Prd) (κ:Int) (f:Nat) (s:StP) (ps:List Prd) (hw:isS ts word s=false) :
  (∀ q,(contS ts word el f s ps).bind (fun r=>(.ok (oneP κ r.1,r.2):PR Prd)) = .ok q→q.1=oneP κ ps)∧nxS ((contS ts word el f s ps).bind (fun r=>(.ok (oneP κ r.1,r.2):PR Prd)))=s :=
 map_val _ (oneP κ) ps s (cont_end ts word el f s ps hw)
end
section
open Go.RowKit
theorem KidsM.first {w wr:World} {lo G:Nat} {bad:Nat→Prop} {p:Prd} {vs:List Value} {T:TypeId} (hG:HasV wr G T vs) (hlo:lo≤G) (h5:vs.length=5)
  (hp:PredC wr (fun g=>w.heap.size≤g∧¬ bad g∧g≠G) p vs) :
  KidsM w wr lo bad (some ⟨G,0,none⟩) 1 1 [p] [vs]:=by
 have ho:OwnC wr lo G 0 5 vs:=⟨hlo,hG.lt,by rw[h5];exact Nat.le_refl _,fun j u hj=>by rw[Nat.zero_add];exact hG.cell j u hj,
  fun j hj=>by rw[Nat.zero_add,hG.cell j (vs[j]'(by omega)) (List.getElem?_eq_getElem (by omega))];rfl,fun j hj=>by rw[Nat.zero_add];exact hG.warm j⟩
 refine⟨.at G 0 (by simpa using ho) (by simp[h5]) (by decide) (Nat.le_refl _),rfl,rfl,fun i q us hq hu=>?_⟩
 match i with
 | 0 =>
  obtain rfl:p=q:=by simpa using hq
  obtain rfl:vs=us:=by simpa using hu
  exact PredC.keep (fun _ _ _=>rfl) (Nat.le_refl _) (fun g hg _=>⟨hg.1,hg.2.1,fun e=>hg.2.2 (Option.some.inj e).symm⟩) p vs hp
 | j+1=>simp at hq
end
section
open Go.RowKit
theorem SrcS.belowB {w wk w':World} {R cap sz:Nat} {ao:Option Addr} {ts:List Tok} {s0 st:StP} (h0:SrcS w R ao cap ts sz s0) (h:SrcS wk R ao cap ts sz st) (hb:Below w.heap.size wk w'):SrcS w' R ao cap ts sz st:=by
 obtain⟨i0,y0,-,hs0,-⟩:=h0.get
 have key:∀ i x y,SrcW wk R ao cap ts sz i x y→SrcW w' R ao cap ts sz i x y:=fun i x y h1=>by
  have hl:=hs0.lt
  refine⟨?_,?_⟩
  ·unfold HasS;rw[hb.block R hl];exact h1.blk
  ·rcases hs0.toks with h2 | ⟨g1,off,h2,h3,h4,h5⟩
   ·exact .inl h2
   ·rcases h1.toks with h6 | ⟨g5,off5,h6,h7,h8,h9⟩
    ·exact .inl h6
    ·have e:g5=g1∧off5=off:=by rw[h2] at h6;simp only[Option.some.injEq,Addr.mk.injEq] at h6;exact⟨h6.1.symm,h6.2.1.symm⟩
     obtain⟨rfl,rfl⟩:=e
     exact .inr ⟨g5,off5,h6,h7,Nat.lt_of_lt_of_le h8 hb.size,h9.of_block (hb.block g5 h4)⟩
 cases st with
 | ok i=>exact⟨h.1,h.2.choose,key _ _ _ h.2.choose_spec⟩
 | error z=>exact⟨h.1,h.2.choose,h.2.choose_spec.1,key _ _ _ h.2.choose_spec.2⟩
def mS (w:World) (R len:Nat):Nat:=match w.cell? ⟨R,3,none⟩,w.cell? ⟨R,1,none⟩ with
 | some (.int _ x),some (.int _ i)=>if x=0 then (len+2-i).toNat else 0
 | _,_=>0
theorem mS_ok {w:World} {R cap sz i:Nat} {ao:Option Addr} {ts:List Tok} (h:SrcS w R ao cap ts sz (.ok i)):mS w R ts.length=ts.length+2-i:=by
 obtain⟨y,hy⟩:=h.at
 obtain⟨-,c1,-,c3,-⟩:=hy.cells
 unfold mS
 rw[c3,c1]
 simp only[if_true]
 omega
theorem mS_err {w:World} {R cap sz:Nat} {ao:Option Addr} {ts:List Tok} {z:Int×Nat} (h:SrcS w R ao cap ts sz (.error z)):mS w R ts.length=0:=by
 obtain⟨h0,i,-,h2⟩:=h
 obtain⟨-,c1,-,c3,-⟩:=h2.cells
 unfold mS
 rw[c3,c1]
 simp only[if_neg h0]
theorem sall_any (w:World) (R:Nat) (ao:Option Addr) (cap:Nat) (ts:List Tok) (sz:Nat) (st:StP) (el:Nat→PR Prd) (i0:Nat) (h:SrcS w R ao cap ts sz st) (hn:ts.length≤1000000) (hts:∀ t∈ts,TokOk t) (h0:∀ k,st = .ok k→i0≤k) (hgo:Goes ts.length el)
  (hel:∀ (W:World) (s:StP),(∀ k,s = .ok k→i0≤k)→SrcS W R ao cap ts sz s→Calls Tryz.prog 209 #[.pointer (some ⟨R,0,none⟩)] W fun e w'=>PrdQ W R ao cap ts sz (s.bind el) e w') :
  Calls Tryz.prog 144 #[.pointer (some ⟨R,0,none⟩)] w fun e w'=>PrdQ w R ao cap ts sz ((st.bind (fun i=>listP ts [97,110,100] el (ts.length+1) i [])).bind (fun r=>(.ok (oneP 1 r.1,r.2):PR Prd))) e w':=by
 obtain⟨RR,hRR⟩:∃ RR,(st.bind (fun i=>listP ts [97,110,100] el (ts.length+1) i [])).bind (fun r=>(.ok (oneP 1 r.1,r.2):PR Prd))=RR:=⟨_,rfl⟩
 rw[hRR]
 have HRR:=ħ hRR
 have B0:=ħ ((Below.refl w.heap.size w).alloc (Nat.le_refl _) (.cells #[.int .i64 0,.string ⟨#[]⟩,.string ⟨#[]⟩,.int .i64 0,.slice none 0 0] 25))
 have X0:Hid (HasV (w.alloc (.cells #[.int .i64 0,.string ⟨#[]⟩,.string ⟨#[]⟩,.int .i64 0,.slice none 0 0] 25)) w.heap.size 25 zP):=ħ (HasV.new w _ zP)
 have H0:=ħ h
 have H1:=ħ (h.step B0.o)
 have RL:=ħ h.lt
 have HN:=ħ hn
 have HTS:=ħ hts
 have HEL:=ħ hel
 have HGO:=ħ hgo
 have HI0:=ħ h0
 clear h hn hts hel hgo h0 hRR
 go_enter Tryz.func144,Tryz.ntmps144
 go_wp2_with fail
 generalize w.alloc (.cells #[.int .i64 0,.string ⟨#[]⟩,.string ⟨#[]⟩,.int .i64 0,.slice none 0 0] 25)=w1 at *
 refine (HEL.o w1 st HI0.o H1.o).mono ?_
 rintro e w2 hpr
 obtain⟨p,vs,rfl,hpc,hwd,hq,h2,o2⟩:=hpr.get
 have HWD:=ħ hwd
 clear hwd
 have H2:=ħ h2
 have O2:=ħ ((Only.of_below B0.o).trans o2)
 have X2:=ħ (X0.o.only o2 (by have:=RL.o;omega))
 have PC:=ħ hpc
 have HQ:=ħ hq
 have S12:Hid (w.heap.size<w1.heap.size∧w1.heap.size≤w2.heap.size):=ħ ⟨X0.o.lt,o2.size⟩
 have hl5:vs.length=5:=PC.o.len
 have hfd:=fold5 #[.int .i64 0,.string ⟨#[]⟩,.string ⟨#[]⟩,.int .i64 0,.slice none 0 0] rfl vs hl5
 clear h2 o2 hpc hq hpr
 go_wp2_with fail
 have BW:Hid (Below w2.heap.size w2 ((w2.alloc (.cells vs.toArray 25)).alloc (.cells #[.int .i64 1,.string ⟨#[]⟩,.string ⟨#[]⟩,.int .i64 0,.slice (some ⟨w2.heap.size,0,none⟩) 1 1] 25))):=ħ (((Below.refl w2.heap.size w2).alloc (Nat.le_refl _) _).alloc (by simp) _)
 have G3:Hid (HasV ((w2.alloc (.cells vs.toArray 25)).alloc (.cells #[.int .i64 1,.string ⟨#[]⟩,.string ⟨#[]⟩,.int .i64 0,.slice (some ⟨w2.heap.size,0,none⟩) 1 1] 25)) w2.heap.size 25 vs):=ħ (HasV.new2 w2 _ _ vs [.int .i64 1,.string ⟨#[]⟩,.string ⟨#[]⟩,.int .i64 0,.slice (some ⟨w2.heap.size,0,none⟩) 1 1])
 have S3:Hid (HasV ((w2.alloc (.cells vs.toArray 25)).alloc (.cells #[.int .i64 1,.string ⟨#[]⟩,.string ⟨#[]⟩,.int .i64 0,.slice (some ⟨w2.heap.size,0,none⟩) 1 1] 25)) (w2.heap.size+1) 25 (kidV 1 0 (some ⟨w2.heap.size,0,none⟩) 1 1)):=ħ (by have:=HasV.new (w2.alloc (.cells vs.toArray 25)) 25 (kidV 1 0 (some ⟨w2.heap.size,0,none⟩) 1 1);rw[show (w2.alloc (.cells vs.toArray 25)).heap.size=w2.heap.size+1 by simp] at this;exact this)
 generalize ((w2.alloc (.cells vs.toArray 25)).alloc (.cells #[.int .i64 1,.string ⟨#[]⟩,.string ⟨#[]⟩,.int .i64 0,.slice (some ⟨w2.heap.size,0,none⟩) 1 1] 25))=w3 at *
 obtain⟨A,hA⟩:∃ A,w2.heap.size+1=A:=⟨_,rfl⟩
 rw[hA] at S3 ⊢
 have HA:Hid (A=w2.heap.size+1):=ħ hA.symm
 clear hA
 have K3:Hid (KidsM w w3 w2.heap.size (fun g=>g=w.heap.size∨g=A) (some ⟨w2.heap.size,0,none⟩) 1 1 [p] [vs]):=ħ (KidsM.first G3.o (Nat.le_refl _) hl5 (PredC.keep (fun g _ hl=>BW.o.block g hl) BW.o.size (fun g hg hl=>by
  have h1:=S12.o
  have h2:=HA.o
  have h3:w1.heap.size≤g:=hg
  exact⟨by omega,(fun hh=>by rcases hh with hh | hh<;>omega),by omega⟩) p vs PC.o))
 have X3:=ħ (X2.o.step BW.o)
 have H3:=ħ (H2.o.step BW.o)
 have O3:=ħ (O2.o.trans (Only.of_below BW.o))
 have V3:Hid (RR=(contS ts [97,110,100] el ts.length (nxS (st.bind el)) [p]).bind (fun r=>(.ok (oneP 1 r.1,r.2):PR Prd))):=ħ (by rw[← HRR.o,cont_first ts _ el ts.length st p HQ.o])
 have J3:Hid (∀ j,nxS (st.bind el) = .ok j→i0≤j∧1≤j∧j≤ts.length):=ħ (fun j hj=>by
  cases st with
  | error z=>cases hj
  | ok i =>
   rw[ok_bind] at hj
   cases he:el i with
   | error z=>rw[he] at hj;cases hj
   | ok q =>
    rw[he] at hj
    obtain rfl:q.2=j:=by injection hj
    have h1:=HGO.o i q he
    have h2:=HI0.o i rfl
    exact⟨by omega,by omega,h1.2⟩)
 have HG:Hid (w.heap.size<w2.heap.size):=ħ (by have:=S12.o;omega)
 clear H1 H2 O2 X2 X0 B0 PC HQ G3 BW S12 HRR hl5 hfd HI0
 generalize nxS (st.bind el)=s1 at *
 generalize w2.heap.size=G at *
 go_loopw [9] (fun c wr=>∃ (s:StP) (f k cp:Nat) (ao2:Option Addr) (ps:List Prd) (vss:List (List Value)),k≤ts.length+1 ∧
   Hid (∀ j,s = .ok j→i0≤j∧k≤j∧j≤ts.length∧ts.length-j<f)∧Hid (HasV wr A 25 (kidV 1 0 ao2 k cp))∧Hid (HasV wr w.heap.size 25 zP) ∧
   Hid (KidsM w wr G (fun g=>g=w.heap.size∨g=A) ao2 k cp ps vss∧blk ao2≠some A)∧Hid (SrcS wr R ao cap ts sz s)∧Hid (Only w wr (· = R))∧Hid (∀ q∈ps,WdP q) ∧
   Hid (RR=(contS ts [97,110,100] el f s ps).bind (fun r=>(.ok (oneP 1 r.1,r.2):PR Prd)))) (fun _ wr=>mS wr R ts.length)
 case atStart=>exact⟨s1,ts.length,1,1,some ⟨G,0,none⟩,[p],[vs],by omega,ħ (fun j hj=>by have:=J3.o j hj;exact⟨this.1,this.2.1,this.2.2,by omega⟩),S3,X3,ħ ⟨K3.o,fun e=>by have:=Option.some.inj e;have h2:=HA.o;simp only at this;omega⟩,H3,O3,ħ (fun q hq=>by simp only[List.mem_singleton] at hq;rw[hq];exact HWD.o),V3⟩
 case round =>
  clear S3 X3 K3 H3 O3 V3 J3
  obtain⟨s,f,k,cp,ao2,ps,vss,hk,hj,hs,hz,hkk,hp,ho,hwl,hv⟩:=hrel
  have RA:Hid (R<A):=ħ (by have:=HA.o;have:=RL.o;have:=HG.o;omega)
  have HM0:Hid (∀ j,s = .ok j→mS wr R ts.length=ts.length+2-j):=ħ (fun j hj=>by subst hj;exact mS_ok hp.o)
  have HIS:=ħ (is_s wr R ao cap ts sz s [97,110,100] hp.o HN.o HTS.o (by decide))
  obtain⟨b,hb⟩:∃ b,isS ts [97,110,100] s=b:=⟨_,rfl⟩
  rw[hb] at HIS
  have HB:=ħ hb
  clear hb
  go_wp2_with fail
  refine HIS.o.mono ?_
  rintro e w4 ⟨rfl,b4⟩
  have S4:=ħ (hs.o.step b4)
  have Z4:=ħ (hz.o.step b4)
  have K4:=ħ (hkk.o.1.step b4)
  have KB:=ħ hkk.o.2
  have P4:=ħ (hp.o.step b4)
  have O4:=ħ (ho.o.step b4)
  clear b4 hs hz hkk hp ho HIS
  cases b with
  | false =>
   have HF:Hid ((∀ q,RR = .ok q→q.1=oneP 1 ps)∧nxS RR=s):=ħ (by rw[hv.o];exact one_end ts _ el 1 f s ps HB.o)
   clear hv
   have c4:=S4.o.cell 4 _ rfl
   have HLN:Hid (ps.length≤1000001):=ħ (by have:=K4.o.cnt;have:=HN.o;omega)
   by_cases hk1:k=1
   ·have HP1:Hid (∃ p,ps=[p]):=ħ (by
     have:=K4.o.cnt
     cases ps with
     | nil=>simp at this;omega
     | cons p l=>cases l with
      | nil=>exact⟨p,rfl⟩
      | cons q l=>simp at this;omega)
    obtain⟨p1,hps⟩:=HP1.o
    clear HP1
    rw[hps] at K4 HF hwl
    clear hps
    obtain⟨us,g,off,hvs,rfl,hrd,hpc,hl5⟩:=K4.o.one
    have HRD:=ħ hrd
    have HPC:=ħ hpc
    have HL5:=ħ hl5
    clear hvs hrd hpc hl5
    subst hk1
    go_wp2_with (first
     | (refine wpList_load_cells rfl 25 (.tmp 30) rfl g off ?x1 us _ HRD.o Tryz.underlying25 rfl ?x2 ?_;(case x1=>rfl);(case x2=>(have h5:=inf_pred us HL5.o;rw[List.size_toArray] at h5;exact h5)))
     | (refine wpList_store_abs rfl 25 (.tmp 2) (.tmp 31) rfl w.heap.size us.toArray ?s1 ?s2 25 _ Z4.o (inf_pred _ HL5.o) ?s3 (HPC.o.one) ?_;(case s1=>rfl);(case s2=>rfl);(case s3=>rw[List.size_toArray,List.size_toArray,HL5.o];rfl);intro w9 s9 u9;have S9:=ħ s9;have U9:=ħ u9;clear s9 u9))
    exact bodyPost_ret (results_cell_row (p:=2) (by kernel_rfl) _ _ w.heap.size 25 us.toArray (0,0) _ rfl S9.o Tryz.underlying25 rfl (inf_pred _ HL5.o)) rfl ⟨⟨p1,us,rfl,(HPC.o.upd U9.o (fun hh=>hh.2.1 (.inl rfl))).mono (fun g hg _=>hg.1),hwl.o p1 (by simp),HF.o.1⟩,by rw[HF.o.2];exact H0.o.upd P4.o U9.o (Nat.le_refl _),O4.o.updNew U9.o (Nat.le_refl _)⟩
   ·have HK1:Hid (oneP 1 ps = .mk 1 [] [] 0 ps):=ħ (by
     have:=K4.o.cnt
     cases ps with
     | nil=>rfl
     | cons p l=>cases l with
      | nil=>simp at this;omega
      | cons q l=>rfl)
    rw[HK1.o] at HF
    have k1:((k:Int)==1)=false:=by rw[beq_eq_false_iff_ne];omega
    have k2:¬ ((k:Int)=1):=by omega
    clear hk1 HK1
    go_wp2_with (first
     | (refine wpList_load_row rfl 25 (.tmp 3) rfl A ?x1 25 (kidV 1 0 ao2 k cp).toArray (0,0) _ S4.o Tryz.underlying25 rfl (inf_pred _ rfl) ?_;(case x1=>rfl))
     | (refine wpList_store_abs rfl 25 (.tmp 2) (.tmp 32) rfl w.heap.size (kidV 1 0 ao2 k cp).toArray ?s1 ?s2 25 _ Z4.o (inf_pred _ rfl) rfl (kidV_one _ _ _ _ _) ?_;(case s1=>rfl);(case s2=>rfl);intro w9 s9 u9;have S9:=ħ s9;have U9:=ħ u9;clear s9 u9))
    have K9:=K4.o.upd U9.o (.inl rfl) (fun e=>by have:=(K4.o.own.blk_lt e).1;have:=HG.o;omega)
    exact bodyPost_ret (results_cell_row (p:=2) (by kernel_rfl) _ _ w.heap.size 25 (kidV 1 0 ao2 k cp).toArray (0,0) _ rfl S9.o Tryz.underlying25 rfl (inf_pred _ rfl)) rfl ⟨⟨_,_,rfl,K9.predV (Nat.le_of_lt HG.o) 1 0,wd_list _ _ _ _ hwl.o HLN.o,HF.o.1⟩,by rw[HF.o.2];exact H0.o.upd P4.o U9.o (Nat.le_refl _),O4.o.updNew U9.o (Nat.le_refl _)⟩
  | true =>
   obtain⟨j,rfl,hjl,hw⟩:=isS_ok HB.o
   have HJ:=ħ hjl
   have HW:=ħ hw
   have HJJ:=ħ (hj.o j rfl)
   have HID:Hid (mS wr R ts.length=ts.length+2-j):=ħ (HM0.o j rfl)
   have e2:IntKind.i64.wrap ((j:Int)+1)=(j:Int)+1:=IntWalk.i64_in _ (by have:=HN.o;omega)
   obtain⟨y,hy⟩:=P4.o.at
   obtain⟨c0,c1,c2,c3,c4⟩:=hy.cells
   have f1:=hy.warm 1
   clear c0 c2 c3 c4 hy hjl hw HB hj
   go_upto_region 4 with (fail)
   have P5:Hid (SrcS (w4.setCell ⟨R,1,none⟩ (.int .i64 ((j:Int)+1))) R ao cap ts sz (.ok (j+1))):=ħ (P4.o.next HJ.o)
   have QQ:Only w4 (w4.setCell ⟨R,1,none⟩ (.int .i64 ((j:Int)+1))) (· = R):=SrcW.nextOnly R 1 _
   have S5:=ħ (S4.o.only QQ (by have:=RA.o;omega))
   have Z5:=ħ (Z4.o.only QQ (by have:=RL.o;omega))
   have K5:=ħ (K4.o.only QQ RL.o (Nat.le_of_lt HG.o))
   have O5:=ħ (O4.o.trans QQ)
   clear QQ c1 f1 P4 S4 Z4 K4 O4
   generalize w4.setCell ⟨R,1,none⟩ (.int .i64 ((j:Int)+1))=w5 at *
   have c4:=S5.o.cell 4 _ rfl
   refine wp_region_pick [0,1,2] [3,4,5,6,7] (fun w'=>w'.cell? ⟨A,4,none⟩=some (.slice ao2 k cp)) (by kernel_rfl) (by kernel_rfl) (by kernel_rfl) (fun _ _ d _ _ h=>by cases d<;>exact h) c4 ?_
   simp only[pickI,List.filterMap_cons,List.filterMap_nil,List.getElem?_cons_zero,List.getElem?_cons_succ,Option.map_some,List.map_cons,List.map_nil]
   apply Exists.intro
   refine⟨?hh,?ht⟩
   case hh =>
    intro w' hw'
    repeat still_step
    exact wpStill_nil rfl
   case ht =>
    have BD:Below w5.heap.size w5 w5.drew:=(Below.refl w5.heap.size w5).drew
    have hs1:=ħ (S5.o.step BD)
    have hz1:=ħ (Z5.o.step BD)
    have hk1:=ħ (K5.o.step BD)
    have hp1:=ħ (P5.o.step BD)
    have ho1:=ħ (O5.o.step BD)
    clear BD c4 S5 Z5 K5 P5 O5
    generalize w5.drew=wd at *
    have c4:=hs1.o.cell 4 _ rfl
    refine wpTailT_cons ?_
    go_wp2_with fail
    refine (HEL.o wd (.ok (j+1)) (fun q hq=>by cases hq;have:=HJJ.o.1;omega) hp1.o).mono ?_
    rintro e w2 hpr
    obtain⟨p2,us,rfl,hpc,hwd,hq,h2,o2⟩:=hpr.get
    have HWD2:=ħ hwd
    clear hwd
    clear hpr
    have hf0:∃ f',f=f'+1:=⟨f-1,by have:=HJJ.o.2.2.2;omega⟩
    obtain⟨f',rfl⟩:=hf0
    have HF2:Hid (RR=(contS ts [97,110,100] el f' (nxS (el (j+1))) (ps++[p2])).bind (fun r=>(.ok (oneP 1 r.1,r.2):PR Prd))):=ħ (by rw[hv.o,cont_next ts _ el f' j ps p2 HW.o hq])
    have HJ2:Hid (∀ j2,nxS (el (j+1)) = .ok j2→i0≤j2∧k+1≤j2∧j2≤ts.length∧ts.length-j2<f'):=ħ (fun j2 hj2=>by
     cases he:el (j+1) with
     | error z=>rw[he] at hj2;cases hj2
     | ok q =>
      rw[he] at hj2
      obtain rfl:q.2=j2:=by injection hj2
      have h1:=HGO.o (j+1) q he
      have h3:=HJJ.o
      have h4:=HJ.o
      exact⟨by omega,by omega,h1.2,by omega⟩)
    have HMS:Hid (∀ W,SrcS W R ao cap ts sz (nxS (el (j+1)))→mS W R ts.length<ts.length+2-j):=ħ (fun W hW=>by
     have h4:=HJ.o
     cases he:el (j+1) with
     | error z=>rw[he] at hW;rw[mS_err hW];omega
     | ok q =>
      rw[he] at hW
      have h1:=HGO.o (j+1) q he
      rw[mS_ok (i:=q.2) hW];omega)
    have HK1:Hid (k+1≤ts.length+1):=ħ (by have:=HJJ.o;have:=HJ.o;omega)
    have O2:=ħ (ho1.o.trans o2)
    have S2:=ħ (hs1.o.only o2 (by have:=RA.o;omega))
    have Z2:=ħ (hz1.o.only o2 (by have:=RL.o;omega))
    have K2:=ħ (hk1.o.only o2 RL.o (Nat.le_of_lt HG.o))
    have P2:=ħ h2
    have PC:=ħ hpc
    have WD:Hid (A<wd.heap.size):=ħ hs1.o.lt
    clear hv o2 h2 hpc hq c4
    rw[ok_bind] at P2
    generalize nxS (el (j+1))=s2 at *
    go_wp2_with fail
    have c2:=S2.o.cell 4 _ rfl
    refine postOf_normal ⟨c2,?_⟩
    refine wpTailT_cons ?_
    have hl5:us.length=5:=PC.o.len
    have hfd:=fold5 #[.int .i64 0,.string ⟨#[]⟩,.string ⟨#[]⟩,.int .i64 0,.slice none 0 0] rfl us hl5
    go_wp2_with fail
    refine postOf_normal ⟨(((Below.refl w2.heap.size w2).alloc (Nat.le_refl _) (.cells us.toArray 25)).cell (p:=⟨A,4,none⟩) S2.o.lt).trans c2,?_⟩
    clear c2
    refine wpTailT_cons ?_
    have hkk1:=HK1.o
    have hnn:=HN.o
    go_wp2_with (at_builtin;refine app_k 23 25 predZ 5 72 Tryz.underlying23 info_pred rfl (by omega) (by omega) w2 G rfl (.tmp 18) (.tmp 21) rfl ao2 cp k vss.flatten ?q1 K2.o.own (by have:=S2.o.lt;have:=HA.o;omega) 1 1 us.toArray 25 ?q2 ?q6 (by omega) PC.o.ones ?q4 ?_;(case q1=>rfl);(case q2=>rfl);(case q6=>rw[List.size_toArray,hl5]);(case q4=>omega);intro g5 off5 c5 wa o8 gr8 b8 or8;have O8:=ħ o8;have GR8:=ħ gr8;have B8:=ħ b8;have OR8:=ħ or8;clear o8 gr8 b8 or8)
    have KA:=ħ (KidsM.add hk1.o K2.o (by have:=WD.o;have:=HA.o;have:=HG.o;omega) (fun g hg=>by have:=WD.o;have:=HA.o;have:=HG.o;rcases hg with h | h<;>omega) PC.o O8.o GR8.o OR8.o)
    have KBA:Hid (blk (some (⟨g5,off5,none⟩:Addr))≠some A):=ħ (fun e=>by
     have e':g5=A:=Option.some.inj e
     subst e'
     have h2:=S2.o.lt
     rcases OR8.o with h1 | h1
     ·exact KB.o h1
     ·omega)
    have SA:Hid (HasV wa A 25 (kidV 1 0 ao2 k cp)):=ħ (by
     have h1:=S2.o
     unfold HasV at h1 ⊢
     rw[GR8.o.block A S2.o.lt (fun e=>KB.o e.symm)]
     exact h1)
    have ZA:=ħ (Z2.o.below B8.o HG.o)
    have BB8:=ħ (B8.o.mono (B':=w.heap.size) (Nat.le_of_lt HG.o))
    have PA:=ħ (H0.o.belowB P2.o BB8.o)
    have OA:=ħ (O2.o.belowB BB8.o)
    clear K2 S2 Z2 P2 O2 GR8 OR8 B8 BB8 hs1 hz1 hk1 hp1 ho1 PC KB
    refine postOf_normal ⟨SA.o.cell 4 _ rfl,?_⟩
    refine wpTailT_cons ?_
    go_wp2_with fail
    refine postOf_normal ⟨SA.o.cell 4 _ rfl,?_⟩
    refine wpTailT_one ?_
    have m4:=SA.o.cell 4 _ rfl
    have f4:=SA.o.warm 4
    go_wp2_with fail
    clear m4 f4
    have U5:=ħ (upd_setCell wa ⟨A,4,none⟩ (.slice (some ⟨g5,off5,none⟩) (k+1) c5))
    have S5:Hid (HasV (wa.setCell ⟨A,4,none⟩ (.slice (some ⟨g5,off5,none⟩) (k+1) c5)) A 25 (kidV 1 0 (some ⟨g5,off5,none⟩) (k+1) c5)):=ħ (SA.o.set 4 _)
    have Z5:=ħ (ZA.o.upd U5.o (by show w.heap.size≠A;have:=HA.o;have:=HG.o;omega))
    have K5:=ħ (KA.o.upd U5.o (.inr rfl) KBA.o)
    have P5:=ħ (H0.o.upd PA.o U5.o (by show w.heap.size≤A;have:=HA.o;have:=HG.o;omega))
    have O5:=ħ (OA.o.updNew U5.o (by show w.heap.size≤A;have:=HA.o;have:=HG.o;omega))
    clear SA ZA KA PA OA U5 O8
    generalize wa.setCell ⟨A,4,none⟩ (.slice (some ⟨g5,off5,none⟩) (k+1) c5)=w5 at *
    go_roundw
    case rel=>exact⟨s2,f',k+1,c5,some ⟨g5,off5,none⟩,ps++[p2],vss++[us],HK1.o,HJ2,S5,Z5,ħ ⟨K5.o,KBA.o⟩,P5,O5,ħ (wd_add hwl.o HWD2.o),HF2⟩
    case measure=>have h1:=HMS.o _ P5.o;rw[HID.o];exact h1
end
section
open Go.RowKit
theorem ssome_any (w:World) (R:Nat) (ao:Option Addr) (cap:Nat) (ts:List Tok) (sz:Nat) (st:StP) (el:Nat→PR Prd) (i0:Nat) (h:SrcS w R ao cap ts sz st) (hn:ts.length≤1000000) (hts:∀ t∈ts,TokOk t) (h0:∀ k,st = .ok k→i0≤k) (hgo:Goes ts.length el)
  (hel:∀ (W:World) (s:StP),(∀ k,s = .ok k→i0≤k)→SrcS W R ao cap ts sz s→Calls Tryz.prog 144 #[.pointer (some ⟨R,0,none⟩)] W fun e w'=>PrdQ W R ao cap ts sz (s.bind el) e w') :
  Calls Tryz.prog 80 #[.pointer (some ⟨R,0,none⟩)] w fun e w'=>PrdQ w R ao cap ts sz ((st.bind (fun i=>listP ts [111,114] el (ts.length+1) i [])).bind (fun r=>(.ok (oneP 2 r.1,r.2):PR Prd))) e w':=by
 obtain⟨RR,hRR⟩:∃ RR,(st.bind (fun i=>listP ts [111,114] el (ts.length+1) i [])).bind (fun r=>(.ok (oneP 2 r.1,r.2):PR Prd))=RR:=⟨_,rfl⟩
 rw[hRR]
 have HRR:=ħ hRR
 have B0:=ħ ((Below.refl w.heap.size w).alloc (Nat.le_refl _) (.cells #[.int .i64 0,.string ⟨#[]⟩,.string ⟨#[]⟩,.int .i64 0,.slice none 0 0] 25))
 have X0:Hid (HasV (w.alloc (.cells #[.int .i64 0,.string ⟨#[]⟩,.string ⟨#[]⟩,.int .i64 0,.slice none 0 0] 25)) w.heap.size 25 zP):=ħ (HasV.new w _ zP)
 have H0:=ħ h
 have H1:=ħ (h.step B0.o)
 have RL:=ħ h.lt
 have HN:=ħ hn
 have HTS:=ħ hts
 have HEL:=ħ hel
 have HGO:=ħ hgo
 have HI0:=ħ h0
 clear h hn hts hel hgo h0 hRR
 go_enter Tryz.func80,Tryz.ntmps80
 go_wp2_with fail
 generalize w.alloc (.cells #[.int .i64 0,.string ⟨#[]⟩,.string ⟨#[]⟩,.int .i64 0,.slice none 0 0] 25)=w1 at *
 refine (HEL.o w1 st HI0.o H1.o).mono ?_
 rintro e w2 hpr
 obtain⟨p,vs,rfl,hpc,hwd,hq,h2,o2⟩:=hpr.get
 have HWD:=ħ hwd
 clear hwd
 have H2:=ħ h2
 have O2:=ħ ((Only.of_below B0.o).trans o2)
 have X2:=ħ (X0.o.only o2 (by have:=RL.o;omega))
 have PC:=ħ hpc
 have HQ:=ħ hq
 have S12:Hid (w.heap.size<w1.heap.size∧w1.heap.size≤w2.heap.size):=ħ ⟨X0.o.lt,o2.size⟩
 have hl5:vs.length=5:=PC.o.len
 have hfd:=fold5 #[.int .i64 0,.string ⟨#[]⟩,.string ⟨#[]⟩,.int .i64 0,.slice none 0 0] rfl vs hl5
 clear h2 o2 hpc hq hpr
 go_wp2_with fail
 have BW:Hid (Below w2.heap.size w2 ((w2.alloc (.cells vs.toArray 25)).alloc (.cells #[.int .i64 2,.string ⟨#[]⟩,.string ⟨#[]⟩,.int .i64 0,.slice (some ⟨w2.heap.size,0,none⟩) 1 1] 25))):=ħ (((Below.refl w2.heap.size w2).alloc (Nat.le_refl _) _).alloc (by simp) _)
 have G3:Hid (HasV ((w2.alloc (.cells vs.toArray 25)).alloc (.cells #[.int .i64 2,.string ⟨#[]⟩,.string ⟨#[]⟩,.int .i64 0,.slice (some ⟨w2.heap.size,0,none⟩) 1 1] 25)) w2.heap.size 25 vs):=ħ (HasV.new2 w2 _ _ vs [.int .i64 2,.string ⟨#[]⟩,.string ⟨#[]⟩,.int .i64 0,.slice (some ⟨w2.heap.size,0,none⟩) 1 1])
 have S3:Hid (HasV ((w2.alloc (.cells vs.toArray 25)).alloc (.cells #[.int .i64 2,.string ⟨#[]⟩,.string ⟨#[]⟩,.int .i64 0,.slice (some ⟨w2.heap.size,0,none⟩) 1 1] 25)) (w2.heap.size+1) 25 (kidV 2 0 (some ⟨w2.heap.size,0,none⟩) 1 1)):=ħ (by have:=HasV.new (w2.alloc (.cells vs.toArray 25)) 25 (kidV 2 0 (some ⟨w2.heap.size,0,none⟩) 1 1);rw[show (w2.alloc (.cells vs.toArray 25)).heap.size=w2.heap.size+1 by simp] at this;exact this)
 generalize ((w2.alloc (.cells vs.toArray 25)).alloc (.cells #[.int .i64 2,.string ⟨#[]⟩,.string ⟨#[]⟩,.int .i64 0,.slice (some ⟨w2.heap.size,0,none⟩) 1 1] 25))=w3 at *
 obtain⟨A,hA⟩:∃ A,w2.heap.size+1=A:=⟨_,rfl⟩
 rw[hA] at S3 ⊢
 have HA:Hid (A=w2.heap.size+1):=ħ hA.symm
 clear hA
 have K3:Hid (KidsM w w3 w2.heap.size (fun g=>g=w.heap.size∨g=A) (some ⟨w2.heap.size,0,none⟩) 1 1 [p] [vs]):=ħ (KidsM.first G3.o (Nat.le_refl _) hl5 (PredC.keep (fun g _ hl=>BW.o.block g hl) BW.o.size (fun g hg hl=>by
  have h1:=S12.o
  have h2:=HA.o
  have h3:w1.heap.size≤g:=hg
  exact⟨by omega,(fun hh=>by rcases hh with hh | hh<;>omega),by omega⟩) p vs PC.o))
 have X3:=ħ (X2.o.step BW.o)
 have H3:=ħ (H2.o.step BW.o)
 have O3:=ħ (O2.o.trans (Only.of_below BW.o))
 have V3:Hid (RR=(contS ts [111,114] el ts.length (nxS (st.bind el)) [p]).bind (fun r=>(.ok (oneP 2 r.1,r.2):PR Prd))):=ħ (by rw[← HRR.o,cont_first ts _ el ts.length st p HQ.o])
 have J3:Hid (∀ j,nxS (st.bind el) = .ok j→i0≤j∧1≤j∧j≤ts.length):=ħ (fun j hj=>by
  cases st with
  | error z=>cases hj
  | ok i =>
   rw[ok_bind] at hj
   cases he:el i with
   | error z=>rw[he] at hj;cases hj
   | ok q =>
    rw[he] at hj
    obtain rfl:q.2=j:=by injection hj
    have h1:=HGO.o i q he
    have h2:=HI0.o i rfl
    exact⟨by omega,by omega,h1.2⟩)
 have HG:Hid (w.heap.size<w2.heap.size):=ħ (by have:=S12.o;omega)
 clear H1 H2 O2 X2 X0 B0 PC HQ G3 BW S12 HRR hl5 hfd HI0
 generalize nxS (st.bind el)=s1 at *
 generalize w2.heap.size=G at *
 go_loopw [9] (fun c wr=>∃ (s:StP) (f k cp:Nat) (ao2:Option Addr) (ps:List Prd) (vss:List (List Value)),k≤ts.length+1 ∧
   Hid (∀ j,s = .ok j→i0≤j∧k≤j∧j≤ts.length∧ts.length-j<f)∧Hid (HasV wr A 25 (kidV 2 0 ao2 k cp))∧Hid (HasV wr w.heap.size 25 zP) ∧
   Hid (KidsM w wr G (fun g=>g=w.heap.size∨g=A) ao2 k cp ps vss∧blk ao2≠some A)∧Hid (SrcS wr R ao cap ts sz s)∧Hid (Only w wr (· = R))∧Hid (∀ q∈ps,WdP q) ∧
   Hid (RR=(contS ts [111,114] el f s ps).bind (fun r=>(.ok (oneP 2 r.1,r.2):PR Prd)))) (fun _ wr=>mS wr R ts.length)
 case atStart=>exact⟨s1,ts.length,1,1,some ⟨G,0,none⟩,[p],[vs],by omega,ħ (fun j hj=>by have:=J3.o j hj;exact⟨this.1,this.2.1,this.2.2,by omega⟩),S3,X3,ħ ⟨K3.o,fun e=>by have:=Option.some.inj e;have h2:=HA.o;simp only at this;omega⟩,H3,O3,ħ (fun q hq=>by simp only[List.mem_singleton] at hq;rw[hq];exact HWD.o),V3⟩
 case round =>
  clear S3 X3 K3 H3 O3 V3 J3
  obtain⟨s,f,k,cp,ao2,ps,vss,hk,hj,hs,hz,hkk,hp,ho,hwl,hv⟩:=hrel
  have RA:Hid (R<A):=ħ (by have:=HA.o;have:=RL.o;have:=HG.o;omega)
  have HM0:Hid (∀ j,s = .ok j→mS wr R ts.length=ts.length+2-j):=ħ (fun j hj=>by subst hj;exact mS_ok hp.o)
  have HIS:=ħ (is_s wr R ao cap ts sz s [111,114] hp.o HN.o HTS.o (by decide))
  obtain⟨b,hb⟩:∃ b,isS ts [111,114] s=b:=⟨_,rfl⟩
  rw[hb] at HIS
  have HB:=ħ hb
  clear hb
  go_wp2_with fail
  refine HIS.o.mono ?_
  rintro e w4 ⟨rfl,b4⟩
  have S4:=ħ (hs.o.step b4)
  have Z4:=ħ (hz.o.step b4)
  have K4:=ħ (hkk.o.1.step b4)
  have KB:=ħ hkk.o.2
  have P4:=ħ (hp.o.step b4)
  have O4:=ħ (ho.o.step b4)
  clear b4 hs hz hkk hp ho HIS
  cases b with
  | false =>
   have HF:Hid ((∀ q,RR = .ok q→q.1=oneP 2 ps)∧nxS RR=s):=ħ (by rw[hv.o];exact one_end ts _ el 2 f s ps HB.o)
   clear hv
   have c4:=S4.o.cell 4 _ rfl
   have HLN:Hid (ps.length≤1000001):=ħ (by have:=K4.o.cnt;have:=HN.o;omega)
   by_cases hk1:k=1
   ·have HP1:Hid (∃ p,ps=[p]):=ħ (by
     have:=K4.o.cnt
     cases ps with
     | nil=>simp at this;omega
     | cons p l=>cases l with
      | nil=>exact⟨p,rfl⟩
      | cons q l=>simp at this;omega)
    obtain⟨p1,hps⟩:=HP1.o
    clear HP1
    rw[hps] at K4 HF hwl
    clear hps
    obtain⟨us,g,off,hvs,rfl,hrd,hpc,hl5⟩:=K4.o.one
    have HRD:=ħ hrd
    have HPC:=ħ hpc
    have HL5:=ħ hl5
    clear hvs hrd hpc hl5
    subst hk1
    go_wp2_with (first
     | (refine wpList_load_cells rfl 25 (.tmp 30) rfl g off ?x1 us _ HRD.o Tryz.underlying25 rfl ?x2 ?_;(case x1=>rfl);(case x2=>(have h5:=inf_pred us HL5.o;rw[List.size_toArray] at h5;exact h5)))
     | (refine wpList_store_abs rfl 25 (.tmp 2) (.tmp 31) rfl w.heap.size us.toArray ?s1 ?s2 25 _ Z4.o (inf_pred _ HL5.o) ?s3 (HPC.o.one) ?_;(case s1=>rfl);(case s2=>rfl);(case s3=>rw[List.size_toArray,List.size_toArray,HL5.o];rfl);intro w9 s9 u9;have S9:=ħ s9;have U9:=ħ u9;clear s9 u9))
    exact bodyPost_ret (results_cell_row (p:=2) (by kernel_rfl) _ _ w.heap.size 25 us.toArray (0,0) _ rfl S9.o Tryz.underlying25 rfl (inf_pred _ HL5.o)) rfl ⟨⟨p1,us,rfl,(HPC.o.upd U9.o (fun hh=>hh.2.1 (.inl rfl))).mono (fun g hg _=>hg.1),hwl.o p1 (by simp),HF.o.1⟩,by rw[HF.o.2];exact H0.o.upd P4.o U9.o (Nat.le_refl _),O4.o.updNew U9.o (Nat.le_refl _)⟩
   ·have HK1:Hid (oneP 2 ps = .mk 2 [] [] 0 ps):=ħ (by
     have:=K4.o.cnt
     cases ps with
     | nil=>rfl
     | cons p l=>cases l with
      | nil=>simp at this;omega
      | cons q l=>rfl)
    rw[HK1.o] at HF
    have k1:((k:Int)==1)=false:=by rw[beq_eq_false_iff_ne];omega
    have k2:¬ ((k:Int)=1):=by omega
    clear hk1 HK1
    go_wp2_with (first
     | (refine wpList_load_row rfl 25 (.tmp 3) rfl A ?x1 25 (kidV 2 0 ao2 k cp).toArray (0,0) _ S4.o Tryz.underlying25 rfl (inf_pred _ rfl) ?_;(case x1=>rfl))
     | (refine wpList_store_abs rfl 25 (.tmp 2) (.tmp 32) rfl w.heap.size (kidV 2 0 ao2 k cp).toArray ?s1 ?s2 25 _ Z4.o (inf_pred _ rfl) rfl (kidV_one _ _ _ _ _) ?_;(case s1=>rfl);(case s2=>rfl);intro w9 s9 u9;have S9:=ħ s9;have U9:=ħ u9;clear s9 u9))
    have K9:=K4.o.upd U9.o (.inl rfl) (fun e=>by have:=(K4.o.own.blk_lt e).1;have:=HG.o;omega)
    exact bodyPost_ret (results_cell_row (p:=2) (by kernel_rfl) _ _ w.heap.size 25 (kidV 2 0 ao2 k cp).toArray (0,0) _ rfl S9.o Tryz.underlying25 rfl (inf_pred _ rfl)) rfl ⟨⟨_,_,rfl,K9.predV (Nat.le_of_lt HG.o) 2 0,wd_list _ _ _ _ hwl.o HLN.o,HF.o.1⟩,by rw[HF.o.2];exact H0.o.upd P4.o U9.o (Nat.le_refl _),O4.o.updNew U9.o (Nat.le_refl _)⟩
  | true =>
   obtain⟨j,rfl,hjl,hw⟩:=isS_ok HB.o
   have HJ:=ħ hjl
   have HW:=ħ hw
   have HJJ:=ħ (hj.o j rfl)
   have HID:Hid (mS wr R ts.length=ts.length+2-j):=ħ (HM0.o j rfl)
   have e2:IntKind.i64.wrap ((j:Int)+1)=(j:Int)+1:=IntWalk.i64_in _ (by have:=HN.o;omega)
   obtain⟨y,hy⟩:=P4.o.at
   obtain⟨c0,c1,c2,c3,c4⟩:=hy.cells
   have f1:=hy.warm 1
   clear c0 c2 c3 c4 hy hjl hw HB hj
   go_upto_region 4 with (fail)
   have P5:Hid (SrcS (w4.setCell ⟨R,1,none⟩ (.int .i64 ((j:Int)+1))) R ao cap ts sz (.ok (j+1))):=ħ (P4.o.next HJ.o)
   have QQ:Only w4 (w4.setCell ⟨R,1,none⟩ (.int .i64 ((j:Int)+1))) (· = R):=SrcW.nextOnly R 1 _
   have S5:=ħ (S4.o.only QQ (by have:=RA.o;omega))
   have Z5:=ħ (Z4.o.only QQ (by have:=RL.o;omega))
   have K5:=ħ (K4.o.only QQ RL.o (Nat.le_of_lt HG.o))
   have O5:=ħ (O4.o.trans QQ)
   clear QQ c1 f1 P4 S4 Z4 K4 O4
   generalize w4.setCell ⟨R,1,none⟩ (.int .i64 ((j:Int)+1))=w5 at *
   have c4:=S5.o.cell 4 _ rfl
   refine wp_region_pick [0,1,2] [3,4,5,6,7] (fun w'=>w'.cell? ⟨A,4,none⟩=some (.slice ao2 k cp)) (by kernel_rfl) (by kernel_rfl) (by kernel_rfl) (fun _ _ d _ _ h=>by cases d<;>exact h) c4 ?_
   simp only[pickI,List.filterMap_cons,List.filterMap_nil,List.getElem?_cons_zero,List.getElem?_cons_succ,Option.map_some,List.map_cons,List.map_nil]
   apply Exists.intro
   refine⟨?hh,?ht⟩
   case hh =>
    intro w' hw'
    repeat still_step
    exact wpStill_nil rfl
   case ht =>
    have BD:Below w5.heap.size w5 w5.drew:=(Below.refl w5.heap.size w5).drew
    have hs1:=ħ (S5.o.step BD)
    have hz1:=ħ (Z5.o.step BD)
    have hk1:=ħ (K5.o.step BD)
    have hp1:=ħ (P5.o.step BD)
    have ho1:=ħ (O5.o.step BD)
    clear BD c4 S5 Z5 K5 P5 O5
    generalize w5.drew=wd at *
    have c4:=hs1.o.cell 4 _ rfl
    refine wpTailT_cons ?_
    go_wp2_with fail
    refine (HEL.o wd (.ok (j+1)) (fun q hq=>by cases hq;have:=HJJ.o.1;omega) hp1.o).mono ?_
    rintro e w2 hpr
    obtain⟨p2,us,rfl,hpc,hwd,hq,h2,o2⟩:=hpr.get
    have HWD2:=ħ hwd
    clear hwd
    clear hpr
    have hf0:∃ f',f=f'+1:=⟨f-1,by have:=HJJ.o.2.2.2;omega⟩
    obtain⟨f',rfl⟩:=hf0
    have HF2:Hid (RR=(contS ts [111,114] el f' (nxS (el (j+1))) (ps++[p2])).bind (fun r=>(.ok (oneP 2 r.1,r.2):PR Prd))):=ħ (by rw[hv.o,cont_next ts _ el f' j ps p2 HW.o hq])
    have HJ2:Hid (∀ j2,nxS (el (j+1)) = .ok j2→i0≤j2∧k+1≤j2∧j2≤ts.length∧ts.length-j2<f'):=ħ (fun j2 hj2=>by
     cases he:el (j+1) with
     | error z=>rw[he] at hj2;cases hj2
     | ok q =>
      rw[he] at hj2
      obtain rfl:q.2=j2:=by injection hj2
      have h1:=HGO.o (j+1) q he
      have h3:=HJJ.o
      have h4:=HJ.o
      exact⟨by omega,by omega,h1.2,by omega⟩)
    have HMS:Hid (∀ W,SrcS W R ao cap ts sz (nxS (el (j+1)))→mS W R ts.length<ts.length+2-j):=ħ (fun W hW=>by
     have h4:=HJ.o
     cases he:el (j+1) with
     | error z=>rw[he] at hW;rw[mS_err hW];omega
     | ok q =>
      rw[he] at hW
      have h1:=HGO.o (j+1) q he
      rw[mS_ok (i:=q.2) hW];omega)
    have HK1:Hid (k+1≤ts.length+1):=ħ (by have:=HJJ.o;have:=HJ.o;omega)
    have O2:=ħ (ho1.o.trans o2)
    have S2:=ħ (hs1.o.only o2 (by have:=RA.o;omega))
    have Z2:=ħ (hz1.o.only o2 (by have:=RL.o;omega))
    have K2:=ħ (hk1.o.only o2 RL.o (Nat.le_of_lt HG.o))
    have P2:=ħ h2
    have PC:=ħ hpc
    have WD:Hid (A<wd.heap.size):=ħ hs1.o.lt
    clear hv o2 h2 hpc hq c4
    rw[ok_bind] at P2
    generalize nxS (el (j+1))=s2 at *
    go_wp2_with fail
    have c2:=S2.o.cell 4 _ rfl
    refine postOf_normal ⟨c2,?_⟩
    refine wpTailT_cons ?_
    have hl5:us.length=5:=PC.o.len
    have hfd:=fold5 #[.int .i64 0,.string ⟨#[]⟩,.string ⟨#[]⟩,.int .i64 0,.slice none 0 0] rfl us hl5
    go_wp2_with fail
    refine postOf_normal ⟨(((Below.refl w2.heap.size w2).alloc (Nat.le_refl _) (.cells us.toArray 25)).cell (p:=⟨A,4,none⟩) S2.o.lt).trans c2,?_⟩
    clear c2
    refine wpTailT_cons ?_
    have hkk1:=HK1.o
    have hnn:=HN.o
    go_wp2_with (at_builtin;refine app_k 23 25 predZ 5 72 Tryz.underlying23 info_pred rfl (by omega) (by omega) w2 G rfl (.tmp 18) (.tmp 21) rfl ao2 cp k vss.flatten ?q1 K2.o.own (by have:=S2.o.lt;have:=HA.o;omega) 1 1 us.toArray 25 ?q2 ?q6 (by omega) PC.o.ones ?q4 ?_;(case q1=>rfl);(case q2=>rfl);(case q6=>rw[List.size_toArray,hl5]);(case q4=>omega);intro g5 off5 c5 wa o8 gr8 b8 or8;have O8:=ħ o8;have GR8:=ħ gr8;have B8:=ħ b8;have OR8:=ħ or8;clear o8 gr8 b8 or8)
    have KA:=ħ (KidsM.add hk1.o K2.o (by have:=WD.o;have:=HA.o;have:=HG.o;omega) (fun g hg=>by have:=WD.o;have:=HA.o;have:=HG.o;rcases hg with h | h<;>omega) PC.o O8.o GR8.o OR8.o)
    have KBA:Hid (blk (some (⟨g5,off5,none⟩:Addr))≠some A):=ħ (fun e=>by
     have e':g5=A:=Option.some.inj e
     subst e'
     have h2:=S2.o.lt
     rcases OR8.o with h1 | h1
     ·exact KB.o h1
     ·omega)
    have SA:Hid (HasV wa A 25 (kidV 2 0 ao2 k cp)):=ħ (by
     have h1:=S2.o
     unfold HasV at h1 ⊢
     rw[GR8.o.block A S2.o.lt (fun e=>KB.o e.symm)]
     exact h1)
    have ZA:=ħ (Z2.o.below B8.o HG.o)
    have BB8:=ħ (B8.o.mono (B':=w.heap.size) (Nat.le_of_lt HG.o))
    have PA:=ħ (H0.o.belowB P2.o BB8.o)
    have OA:=ħ (O2.o.belowB BB8.o)
    clear K2 S2 Z2 P2 O2 GR8 OR8 B8 BB8 hs1 hz1 hk1 hp1 ho1 PC KB
    refine postOf_normal ⟨SA.o.cell 4 _ rfl,?_⟩
    refine wpTailT_cons ?_
    go_wp2_with fail
    refine postOf_normal ⟨SA.o.cell 4 _ rfl,?_⟩
    refine wpTailT_one ?_
    have m4:=SA.o.cell 4 _ rfl
    have f4:=SA.o.warm 4
    go_wp2_with fail
    clear m4 f4
    have U5:=ħ (upd_setCell wa ⟨A,4,none⟩ (.slice (some ⟨g5,off5,none⟩) (k+1) c5))
    have S5:Hid (HasV (wa.setCell ⟨A,4,none⟩ (.slice (some ⟨g5,off5,none⟩) (k+1) c5)) A 25 (kidV 2 0 (some ⟨g5,off5,none⟩) (k+1) c5)):=ħ (SA.o.set 4 _)
    have Z5:=ħ (ZA.o.upd U5.o (by show w.heap.size≠A;have:=HA.o;have:=HG.o;omega))
    have K5:=ħ (KA.o.upd U5.o (.inr rfl) KBA.o)
    have P5:=ħ (H0.o.upd PA.o U5.o (by show w.heap.size≤A;have:=HA.o;have:=HG.o;omega))
    have O5:=ħ (OA.o.updNew U5.o (by show w.heap.size≤A;have:=HA.o;have:=HG.o;omega))
    clear SA ZA KA PA OA U5 O8
    generalize wa.setCell ⟨A,4,none⟩ (.slice (some ⟨g5,off5,none⟩) (k+1) c5)=w5 at *
    go_roundw
    case rel=>exact⟨s2,f',k+1,c5,some ⟨g5,off5,none⟩,ps++[p2],vss++[us],HK1.o,HJ2,S5,Z5,ħ ⟨K5.o,KBA.o⟩,P5,O5,ħ (wd_add hwl.o HWD2.o),HF2⟩
    case measure=>have h1:=HMS.o _ P5.o;rw[HID.o];exact h1
end
end Go.Proofs.YtmkdfbelbcocpaaGreatDoor
