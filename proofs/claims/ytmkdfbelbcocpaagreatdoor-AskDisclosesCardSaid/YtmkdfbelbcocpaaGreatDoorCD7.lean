import Derived.BigQuiet
import Derived.Test.YtmkdfbelbcocpaaGreatDoorCD6
import Derived.Test.YtmkdfbelbcocpaaGreatDoorCD0
set_option linter.unusedVariables false
set_option linter.unusedSimpArgs false
set_option maxHeartbeats 8000000
set_option maxRecDepth 100000
namespace Go.Proofs.YtmkdfbelbcocpaaGreatDoor
section
open Go.RowKit
def Zbl (ts:List Tok) (i:Nat):Tok:=match ts[i]? with
 | some t=>t
 | none=>Zfk
def Z7e (w:World) (R:Nat) (ao:Option Addr) (n cap i sz:Nat):Prop:=w.heap[R]?=some (.cells #[.slice ao n cap,.int .i64 (i:Int),.int .i64 (sz:Int)] 104 (0,0))
structure ParW (w:World) (R:Nat) (ao:Option Addr) (cap:Nat) (ts:List Tok) (sz i:Nat):Prop where
 blk:Z7e w R ao ts.length cap i sz
 toks:ts=[]∨∃ g off,ao=some ⟨g,off,none⟩∧g≠R∧g<w.heap.size∧Za3 w g off (ts.flatMap Zbw)
theorem ParW.lt {w:World} {R cap sz i:Nat} {ao:Option Addr} {ts:List Tok} (h:ParW w R ao cap ts sz i):R<w.heap.size:=(Array.getElem?_eq_some_iff.1 h.blk).1
theorem ParW.step {w w':World} {R cap sz i:Nat} {ao:Option Addr} {ts:List Tok} (h:ParW w R ao cap ts sz i) (hb:Below w.heap.size w w'):ParW w' R ao cap ts sz i:=by
 refine⟨?_,?_⟩
 ·unfold Z7e;rw[hb.block R h.lt];exact h.blk
 ·rcases h.toks with h1 | ⟨g,off,h1,h2,h3,h4⟩
  ·exact .inl h1
  ·exact .inr ⟨g,off,h1,h2,Nat.lt_of_lt_of_le h3 hb.size,h4.of_block (hb.block g h3)⟩
theorem ParW.cells {w:World} {R cap sz i:Nat} {ao:Option Addr} {ts:List Tok} (h:ParW w R ao cap ts sz i):w.cell? ⟨R,0,none⟩=some (.slice ao ts.length cap)∧w.cell? ⟨R,1,none⟩=some (.int .i64 (i:Int))∧w.cell? ⟨R,2,none⟩=some (.int .i64 (sz:Int)):=by
 have hb:=h.blk
 unfold Z7e at hb
 exact⟨by simp[World.cell?,hb],by simp[World.cell?,hb],by simp[World.cell?,hb]⟩
theorem ParW.warm {w:World} {R cap sz i:Nat} {ao:Option Addr} {ts:List Tok} (h:ParW w R ao cap ts sz i) (j:Nat):w.frozen? ⟨R,j,none⟩=false:=by
 have hb:=h.blk
 unfold Z7e at hb
 simp[World.frozen?,hb]
theorem ParW.next {w:World} {R cap sz i:Nat} {ao:Option Addr} {ts:List Tok} (h:ParW w R ao cap ts sz i) (j:Nat):ParW (w.setCell ⟨R,1,none⟩ (.int .i64 (j:Int))) R ao cap ts sz j:=by
 refine⟨Go.heap_setCell_same w R 1 _ _ _ h.blk,?_⟩
 rcases h.toks with h1 | ⟨g,off,h1,h2,h3,h4⟩
 ·exact .inl h1
 ·exact .inr ⟨g,off,h1,h2,by rw[World.size_setCell];exact h3,h4.of_block (Zci _ _ _ _ h2)⟩
theorem ParW.nextOnly {w:World} (R:Nat) (v:Value):Only w (w.setCell ⟨R,1,none⟩ v) (· = R):=(Only.refl w _).setCell v rfl
theorem ParW.tok {w:World} {R cap sz i:Nat} {ao:Option Addr} {ts:List Tok} (h:ParW w R ao cap ts sz i) (k:Nat) (hk:k<ts.length):∃ g off,ao=some ⟨g,off,none⟩∧g<w.heap.size ∧
  w.cell? ⟨g,off+k*4,none⟩=some (.int .i64 (Zbl ts k).k)∧w.cell? ⟨g,off+k*4+1,none⟩=some (.string (Zad (Zbl ts k).t))∧w.cell? ⟨g,off+k*4+2,none⟩=some (.int .i64 (Zbl ts k).n)∧w.cell? ⟨g,off+k*4+3,none⟩=some (.int .i64 (Zbl ts k).p)∧Za3 w g (off+k*4) (Zbw (Zbl ts k)):=by
 rcases h.toks with h1 | ⟨g,off,h1,h2,h3,h4⟩
 ·rw[h1] at hk;exact absurd hk (Nat.not_lt_zero _)
 ·have ht:ts[k]?=some (Zbl ts k):=by unfold Zbl;rw[List.getElem?_eq_getElem hk]
  obtain⟨a,b,c,d⟩:=Z01 h4 k _ ht
  refine⟨g,off,h1,h3,a,b,c,d,?_⟩
  intro j u hj
  have hl:j<4:=(List.getElem?_eq_some_iff.1 hj).1
  have:=h4 (k*4+j) u (by rw[Zby Zbw 4 Zi7 ts k j _ ht hl];exact hj)
  rwa [show off+(k*4+j)=off+k*4+j by omega] at this
theorem Zhr {ts:List Tok} {i:Nat} (h:¬ i<ts.length):Zbl ts i=Zfk:=by unfold Zbl;rw[List.getElem?_eq_none (by omega)]
def Za0 (x:Int×Nat):Ending:=.panicked [{ v:=.iface 100 (.agg #[.int .i64 x.1,.int .i64 (x.2:Int)]),recovered:=false }]
def Z8q {α:Type} (w:World) (R:Nat) (ao:Option Addr) (cap:Nat) (ts:List Tok) (sz:Nat) (val:World→α→Value→Prop) (r:PR α) (e:Ending) (w':World):Prop :=
 Only w w' (· = R)∧match r with
  | .ok a=>(∃ v,e = .returned v∧val w' a.1 v)∧ParW w' R ao cap ts sz a.2
  | .error x=>e=Za0 x
theorem Z1t {ts:List Tok} {sz i:Nat}:Zdu ts sz i=if i<ts.length then (Zbl ts i).p else sz:=by
 unfold Zdu Zbl
 by_cases h:i<ts.length
 ·rw[if_pos h,List.getElem?_eq_getElem h]
 ·rw[if_neg h,List.getElem?_eq_none (by omega)]
theorem Zcj (w:World) (R:Nat) (ao:Option Addr) (cap:Nat) (ts:List Tok) (sz i k:Nat) (x:Int) (h:ParW w R ao cap ts sz k) (hi:i≤ts.length) (hn:ts.length≤1000000) :
  Calls Tryz.prog 75 #[.pointer (some ⟨R,0,none⟩),.int .i64 x,.int .i64 (i:Int)] w fun e w'=>e=Za0 (x,Zdu ts sz i)∧Below w.heap.size w w':=by
 obtain⟨c0,c1,c2⟩:=h.cells
 by_cases hlt:i<ts.length
 ·obtain⟨g,off,rfl,hg,t0,t1,t2,t3,-⟩:=h.tok i hlt
  have ii:(i:Int)<ts.length:=by omega
  have HO:=ħ (Z1t (ts:=ts) (sz:=sz) (i:=i))
  rw[if_pos hlt] at HO
  generalize (Zbl ts i).p=pp at *
  clear t0 t1 t2 h
  go_enter Tryz.func75,Tryz.ntmps75
  go_wp2
  exact⟨rfl,by rw[HO.o];rfl,Below.refl _ _⟩
 ·have ii:¬ ((i:Int)<ts.length):=by omega
  have HO:=ħ (Z1t (ts:=ts) (sz:=sz) (i:=i))
  rw[if_neg hlt] at HO
  clear h
  go_enter Tryz.func75,Tryz.ntmps75
  go_wp2
  exact⟨rfl,by rw[HO.o];rfl,Below.refl _ _⟩
def set4 (w:World) (g:Nat) (t:Tok):World:=(((w.setCell ⟨g,0,none⟩ (.int .i64 t.k)).setCell ⟨g,1,none⟩ (.string (Zad t.t))).setCell ⟨g,2,none⟩ (.int .i64 t.n)).setCell ⟨g,3,none⟩ (.int .i64 t.p)
theorem Zgj.set4 {w:World} {g:Nat} {t:Tok} (h:Zgj w g t) (u:Tok):Zgj (set4 w g u) g u :=
 Go.heap_setCell_same _ g 3 _ _ _ (Go.heap_setCell_same _ g 2 _ _ _ (Go.heap_setCell_same _ g 1 _ _ _ (Go.heap_setCell_same w g 0 _ _ _ h)))
theorem Below.set4 {B g:Nat} {a w:World} (h:Below B a w) (hg:B≤g) (u:Tok):Below B a (set4 w g u) :=
 (((h.setCell (p:=⟨g,0,none⟩) hg _).setCell (p:=⟨g,1,none⟩) hg _).setCell (p:=⟨g,2,none⟩) hg _).setCell (p:=⟨g,3,none⟩) hg _
theorem Zbz {P:Program} {fn:Func} {p u:Tmp} {ty:TypeId} (h:fn.results=#[.cell p ty,.tmp u]) (tmps:Array Value) (w:World) (g:Nat) (t:TypeId) (cs:Array Value) (fr:Nat×Nat) (d:TypeDesc)
  (hp:tmps.getD p undef = .pointer (some ⟨g,0,none⟩)) (hg:w.heap[g]?=some (.cells cs t fr))
  (hu:P.underlying ty=some d) (hd:(match d with | .struct _ | .array _ _=>true | _=>false)=true) (hi:(P.info? ty).map (·.size)=some cs.size) :
  (results fn tmps).run P w = .ok (.tuple #[.agg cs,tmps.getD u undef]) w:=by
 rw[results_cell_tmp h,hp]
 simp[asAddr,run_loadVar_row w g t ty cs fr d hg hu hd hi,Result.andThen]
theorem Zfl (w:World) (R:Nat) (ao:Option Addr) (cap:Nat) (ts:List Tok) (sz i:Nat) (h:ParW w R ao cap ts sz i) (hi:i≤ts.length) (hn:ts.length≤1000000) :
  Calls Tryz.prog 136 #[.pointer (some ⟨R,0,none⟩)] w fun e w'=>e = .returned (.tuple #[.agg (Zbw (Zbl ts i)).toArray,.bool (decide (i<ts.length))])∧Below w.heap.size w w':=by
 have Z0:Hid (Zgj (w.alloc (.cells #[.int .i64 0,.string ⟨#[]⟩,.int .i64 0,.int .i64 0] 169)) w.heap.size Zfk):=ħ (Zgj.new w Zfk)
 have B0:=ħ ((Below.refl w.heap.size w).alloc (Nat.le_refl _) (.cells #[.int .i64 0,.string ⟨#[]⟩,.int .i64 0,.int .i64 0] 169))
 have H0:=ħ (h.step B0.o)
 obtain⟨V,hV⟩:∃ V,Ending.returned (.tuple #[.agg (Zbw (Zbl ts i)).toArray,.bool (decide (i<ts.length))])=V:=⟨_,rfl⟩
 rw[hV]
 have HV:=ħ hV
 clear hV h
 go_enter Tryz.func136,Tryz.ntmps136
 go_wp2_with fail
 generalize w.alloc (.cells #[.int .i64 0,.string ⟨#[]⟩,.int .i64 0,.int .i64 0] 169)=W1 at *
 obtain⟨c0,c1,c2⟩:=H0.o.cells
 by_cases hlt:i<ts.length
 ·have ii:¬ ((ts.length:Int)≤i):=by omega
  go_region
  go_wp2_with fail
  obtain⟨g,off,rfl,hg,t0,t1,t2,t3,-⟩:=H0.o.tok i hlt
  obtain⟨z0,z1,z2,z3⟩:=Z0.o.cells
  have y0:=Z0.o.warm 0
  have y1:=Z0.o.warm 1
  have y2:=Z0.o.warm 2
  have y3:=Z0.o.warm 3
  have jj:(i:Int)<ts.length:=by omega
  have S4:=ħ (Z0.o.set4 (Zbl ts i))
  have C4:=ħ (Below.set4 B0.o (Nat.le_refl _) (Zbl ts i))
  go_region
  go_wp2_with fail
  exact bodyPost_ret (Zbz (p:=2) (u:=3) (by kernel_rfl) _ _ w.heap.size 169 (Zbw (Zbl ts i)).toArray (0,0) _ rfl S4.o Tryz.underlying169 rfl (Zay _)) rfl ⟨by rw[← HV.o,decide_eq_true hlt];rfl,C4.o.drew.drew⟩
 ·have ii:(ts.length:Int)≤i:=by omega
  go_region
  go_wp2_with (refine Zab rfl 169 (.tmp 2) (.tmp 14) rfl w.heap.size (Zbw Zfk).toArray ?s1 ?s2 169 _ Z0.o (Zay _) rfl (Zbe _) ?_;(case s1=>rfl);(case s2=>rfl);intro W2 s2 u2;have S2:=ħ s2;have C2:=ħ (u2.below B0.o.drew (Nat.le_refl _));clear s2 u2)
  exact bodyPost_ret (Zbz (p:=2) (u:=3) (by kernel_rfl) _ _ w.heap.size 169 (Zbw Zfk).toArray (0,0) _ rfl S2.o Tryz.underlying169 rfl (Zay _)) rfl ⟨by rw[← HV.o,Zhr hlt,decide_eq_false hlt];rfl,C2.o⟩
end
section
open Go.RowKit
theorem Z5z {ts:List Tok} {s:List Nat} {i:Nat} (h:i<ts.length):isP ts s i=(((Zbl ts i).k==3||(Zbl ts i).k==0)&&(Zbl ts i).t==s):=by
 unfold isP Zbl
 rw[List.getElem?_eq_getElem h]
theorem Zll {ts:List Tok} (hts:∀ t∈ts,TokOk t) {i:Nat} (h:i<ts.length):TokOk (Zbl ts i):=by
 unfold Zbl
 rw[List.getElem?_eq_getElem h]
 exact hts _ (List.getElem_mem h)
theorem Zr1 {a b:List Nat} {q:Bool} {x y:ByteArray} (h:(x.toList==y.toList)=q):(x.toList != y.toList)=!q:=by rw[bne,h]
theorem Zcd (w:World) (R:Nat) (ao:Option Addr) (cap:Nat) (ts:List Tok) (sz i:Nat) (s:List Nat) (h:ParW w R ao cap ts sz i) (hi:i≤ts.length) (hn:ts.length≤1000000) (hts:∀ t∈ts,TokOk t) (hs:∀ y∈s,y<256) (hno:isP ts s i=false) :
  Calls Tryz.prog 135 #[.pointer (some ⟨R,0,none⟩),.string (Zad s)] w fun e w'=>e = .returned (.bool false)∧Below w.heap.size w w':=by
 have HP:=ħ (Zfl w R ao cap ts sz i h hi hn)
 by_cases hlt:i<ts.length
 ·have HNO:=ħ hno
  rw[Z5z hlt] at HNO
  have hTK:=Zll hts hlt
  have HE:=Zd6 (Zbl ts i).t s hTK.byte hs
  rw[decide_eq_true hlt] at HP
  generalize Zbl ts i=T at *
  obtain⟨κ,hκ⟩:∃ κ,T.k=κ:=⟨_,rfl⟩
  obtain⟨τ,hτ⟩:∃ τ,Zad T.t=τ:=⟨_,rfl⟩
  obtain⟨q,hq⟩:∃ q,(T.t==s)=q:=⟨_,rfl⟩
  rw[hτ,hq] at HE
  rw[hκ,hq] at HNO
  have KK:=ħ hκ
  have TT:=ħ hτ
  have HE2:=Zr1 (a:=[]) (b:=[]) HE
  clear hκ hτ hq hTK
  generalize Zad s=u at *
  go_enter Tryz.func135,Tryz.ntmps135
  go_wp2_with fail
  refine HP.o.mono ?_
  rintro e w1 ⟨rfl,b1⟩
  have B1:=ħ b1
  have A1:=ħ ((Below.refl w1.heap.size w1).alloc (Nat.le_refl _) (.cells (Zbw Zfk).toArray 169))
  clear b1 HP h hno
  cases q with
  | false =>
   go_wp2_with (refine Zab rfl 169 (.tmp 5) (.tmp 10) rfl w1.heap.size (Zbw T).toArray ?s1 ?s2 169 _ (heap_alloc_new w1 _) (Zay _) rfl (Zbe _) ?_;(case s1=>rfl);(case s2=>rfl);intro W2 s2 u2;have S2:Hid (Zgj W2 w1.heap.size T):=ħ s2;have C2:=ħ (u2.below A1.o (Nat.le_refl _));clear s2 u2;obtain⟨q0,q1,q2,q3⟩:=S2.o.cells;clear q2 q3;rw[KK.o] at q0;rw[TT.o] at q1)
   all_goals
    go_ret
    exact⟨rfl,B1.o.trans (C2.o.mono B1.o.size)⟩
  | true =>
   have k3:¬ κ=3:=fun e=>by have:=HNO.o;rw[e] at this;cases this
   have k0:¬ κ=0:=fun e=>by have:=HNO.o;rw[e] at this;cases this
   go_wp2_with (refine Zab rfl 169 (.tmp 5) (.tmp 10) rfl w1.heap.size (Zbw T).toArray ?s1 ?s2 169 _ (heap_alloc_new w1 _) (Zay _) rfl (Zbe _) ?_;(case s1=>rfl);(case s2=>rfl);intro W2 s2 u2;have S2:Hid (Zgj W2 w1.heap.size T):=ħ s2;have C2:=ħ (u2.below A1.o (Nat.le_refl _));clear s2 u2;obtain⟨q0,q1,q2,q3⟩:=S2.o.cells;clear q2 q3;rw[KK.o] at q0;rw[TT.o] at q1)
   go_ret
   exact⟨rfl,B1.o.trans (C2.o.mono B1.o.size)⟩
 ·rw[decide_eq_false hlt,Zhr hlt] at HP
  generalize Zad s=u at *
  go_enter Tryz.func135,Tryz.ntmps135
  go_wp2_with fail
  refine HP.o.mono ?_
  rintro e w1 ⟨rfl,b1⟩
  have B1:=ħ b1
  have A1:=ħ ((Below.refl w1.heap.size w1).alloc (Nat.le_refl _) (.cells (Zbw Zfk).toArray 169))
  clear b1 HP h hno
  go_wp2_with (refine Zab rfl 169 (.tmp 5) (.tmp 10) rfl w1.heap.size (Zbw Zfk).toArray ?s1 ?s2 169 _ (heap_alloc_new w1 _) (Zay _) rfl (Zbe _) ?_;(case s1=>rfl);(case s2=>rfl);intro W2 s2 u2;have C2:=ħ (u2.below A1.o (Nat.le_refl _));clear s2 u2)
  go_ret
  exact⟨rfl,B1.o.trans (C2.o.mono B1.o.size)⟩
theorem Zbt (w:World) (R:Nat) (ao:Option Addr) (cap:Nat) (ts:List Tok) (sz i:Nat) (s:List Nat) (h:ParW w R ao cap ts sz i) (hn:ts.length≤1000000) (hts:∀ t∈ts,TokOk t) (hs:∀ y∈s,y<256) (hyes:isP ts s i=true) :
  Calls Tryz.prog 135 #[.pointer (some ⟨R,0,none⟩),.string (Zad s)] w fun e w'=>e = .returned (.bool true)∧ParW w' R ao cap ts sz (i+1)∧Only w w' (· = R):=by
 have hlt:=Zbv hyes
 have HP:=ħ (Zfl w R ao cap ts sz i h (by omega) hn)
 have H0:=ħ h
 have e2:IntKind.i64.wrap ((i:Int)+1)=(i:Int)+1:=IntWalk.i64_in _ (by omega)
 have HNO:=ħ hyes
 rw[Z5z hlt] at HNO
 have hTK:=Zll hts hlt
 have HE:=Zd6 (Zbl ts i).t s hTK.byte hs
 rw[decide_eq_true hlt] at HP
 generalize Zbl ts i=T at *
 obtain⟨κ,hκ⟩:∃ κ,T.k=κ:=⟨_,rfl⟩
 obtain⟨τ,hτ⟩:∃ τ,Zad T.t=τ:=⟨_,rfl⟩
 obtain⟨q,hq⟩:∃ q,(T.t==s)=q:=⟨_,rfl⟩
 rw[hτ,hq] at HE
 rw[hκ,hq] at HNO
 have KK:=ħ hκ
 have TT:=ħ hτ
 have HE2:=Zr1 (a:=[]) (b:=[]) HE
 clear hκ hτ hq hTK
 generalize Zad s=u at *
 go_enter Tryz.func135,Tryz.ntmps135
 go_wp2_with fail
 refine HP.o.mono ?_
 rintro e w1 ⟨rfl,b1⟩
 have B1:=ħ b1
 have A1:=ħ ((Below.refl w1.heap.size w1).alloc (Nat.le_refl _) (.cells (Zbw Zfk).toArray 169))
 have H1:=ħ (H0.o.step b1)
 clear b1 HP h hyes
 cases q with
 | false=>exact absurd HNO.o (by simp)
 | true =>
  have hk:κ=3∨κ=0:=by have:=HNO.o;simpa using this
  by_cases k3:κ=3
  ·subst k3
   clear hk
   go_wp2_with (refine Zab rfl 169 (.tmp 5) (.tmp 10) rfl w1.heap.size (Zbw T).toArray ?s1 ?s2 169 _ (heap_alloc_new w1 _) (Zay _) rfl (Zbe _) ?_;(case s1=>rfl);(case s2=>rfl);intro W2 s2 u2;have S2:Hid (Zgj W2 w1.heap.size T):=ħ s2;have C2:=ħ (u2.below A1.o (Nat.le_refl _));clear s2 u2;obtain⟨q0,q1,q2,q3⟩:=S2.o.cells;clear q2 q3;rw[KK.o] at q0;rw[TT.o] at q1;have H2:=ħ (H1.o.step C2.o);obtain⟨p0,p1,p2⟩:=H2.o.cells;clear p0 p2;have pw:=H2.o.warm 1)
   go_ret
   exact⟨rfl,H2.o.next (i+1),((Only.of_below B1.o).step C2.o).trans (ParW.nextOnly R _)⟩
  ·obtain rfl:κ=0:=by omega
   clear hk k3
   go_wp2_with (refine Zab rfl 169 (.tmp 5) (.tmp 10) rfl w1.heap.size (Zbw T).toArray ?s1 ?s2 169 _ (heap_alloc_new w1 _) (Zay _) rfl (Zbe _) ?_;(case s1=>rfl);(case s2=>rfl);intro W2 s2 u2;have S2:Hid (Zgj W2 w1.heap.size T):=ħ s2;have C2:=ħ (u2.below A1.o (Nat.le_refl _));clear s2 u2;obtain⟨q0,q1,q2,q3⟩:=S2.o.cells;clear q2 q3;rw[KK.o] at q0;rw[TT.o] at q1;have H2:=ħ (H1.o.step C2.o);obtain⟨p0,p1,p2⟩:=H2.o.cells;clear p0 p2;have pw:=H2.o.warm 1)
   go_ret
   exact⟨rfl,H2.o.next (i+1),((Only.of_below B1.o).step C2.o).trans (ParW.nextOnly R _)⟩
end
section
open Go.RowKit
theorem Zhx (w:World) (a:Addr) (v:Value) (p:Addr) (h:p.block≠a.block):(w.setCell a v).cell? p=w.cell? p:=World.cell?_of_block (w:=w) (Zci w a p.block v h)
theorem Zfu (w:World) (R:Nat) (ao:Option Addr) (cap:Nat) (ts:List Tok) (sz i:Nat) (s:List Nat) (h:ParW w R ao cap ts sz i) (hn:ts.length≤1000000) (hts:∀ t∈ts,TokOk t) (hs:∀ y∈s,y<256) (hyes:isP ts s i=true) :
  Calls Tryz.prog 72 #[.pointer (some ⟨R,0,none⟩),.string (Zad s)] w fun e w'=>e = .returned (.tuple #[])∧ParW w' R ao cap ts sz (i+1)∧Only w w' (· = R):=by
 have HS:=ħ (Zbt w R ao cap ts sz i s h hn hts hs hyes)
 clear h hts hs hyes
 go_enter Tryz.func72,Tryz.ntmps72
 go_wp2_with fail
 refine HS.o.mono ?_
 rintro e w1 ⟨rfl,h1,o1⟩
 have H1:=ħ h1
 have O1:=ħ o1
 clear h1 o1
 go_wp2
 go_end0
 exact⟨rfl,H1.o,O1.o⟩
theorem Zfv (w:World) (R:Nat) (ao:Option Addr) (cap:Nat) (ts:List Tok) (sz i:Nat) (s:List Nat) (h:ParW w R ao cap ts sz i) (hi:i≤ts.length) (hn:ts.length≤1000000) (hts:∀ t∈ts,TokOk t) (hs:∀ y∈s,y<256) (hno:isP ts s i=false) :
  Calls Tryz.prog 72 #[.pointer (some ⟨R,0,none⟩),.string (Zad s)] w fun e w'=>e=Za0 (12,Zdu ts sz i)∧Only w w' (· = R):=by
 have HS:=ħ (Zcd w R ao cap ts sz i s h hi hn hts hs hno)
 have H0:=ħ h
 clear h hts hs hno
 go_enter Tryz.func72,Tryz.ntmps72
 go_wp2_with fail
 refine HS.o.mono ?_
 rintro e w1 ⟨rfl,b1⟩
 have H1:=ħ (H0.o.step b1)
 have B1:=ħ b1
 clear b1
 obtain⟨p0,p1,p2⟩:=H1.o.cells
 go_wp2_with fail
 refine (Zcj w1 R ao cap ts sz i i 12 H1.o hi hn).mono ?_
 rintro e w2 ⟨rfl,b2⟩
 have B2:=ħ b2
 clear b2
 unfold Za0
 go_wp2
 exact⟨rfl,rfl,(Only.of_below B1.o).step B2.o⟩
theorem Zr2 {ts:List Tok} {i:Nat} (h:i<ts.length):Zd8 ts i=((Zbl ts i).k==0&&Zee (Zbl ts i).t):=by
 unfold Zd8 Zbl
 rw[List.getElem?_eq_getElem h]
theorem Zi9 {ts:List Tok} {i:Nat} (h:i<ts.length):Zcx ts i=((Zbl ts i).k==1):=by
 unfold Zcx Zbl
 rw[List.getElem?_eq_getElem h]
theorem Z7f {ts:List Tok} {i:Nat} (h:i<ts.length):Zhz ts i=(Zbl ts i).t:=by
 unfold Zhz Zbl
 rw[List.getElem?_eq_getElem h]
theorem Z7g {ts:List Tok} {i:Nat} (h:i<ts.length):Zhu ts i=(Zbl ts i).n:=by
 unfold Zhu Zbl
 rw[List.getElem?_eq_getElem h]
theorem Zmz (w:World) (R:Nat) (ao:Option Addr) (cap:Nat) (ts:List Tok) (sz i B:Nat) (hT:Tab w B) (h:ParW w R ao cap ts sz i) (hn:ts.length≤1000000) (hts:∀ t∈ts,TokOk t) (hyes:Zd8 ts i=true) :
  Calls Tryz.prog 73 #[.pointer (some ⟨R,0,none⟩)] w fun e w'=>e = .returned (.string (Zad (Zhz ts i)))∧ParW w' R ao cap ts sz (i+1)∧Only w w' (· = R):=by
 have hlt:=Zew hyes
 have HP:=ħ (Zfl w R ao cap ts sz i h (by omega) hn)
 have H0:=ħ h
 have e2:IntKind.i64.wrap ((i:Int)+1)=(i:Int)+1:=IntWalk.i64_in _ (by omega)
 rw[Zr2 hlt] at hyes
 rw[Z7f hlt]
 have hTK:=Zll hts hlt
 rw[decide_eq_true hlt] at HP
 have HF:=ħ (fun (w:World) (hT:Tab w B)=>Zlk (Zbl ts i).t w B hT hTK.len hTK.byte)
 have HT:=ħ hT
 generalize Zbl ts i=T at *
 obtain⟨κ,hκ⟩:∃ κ,T.k=κ:=⟨_,rfl⟩
 obtain⟨τ,hτ⟩:∃ τ,Zad T.t=τ:=⟨_,rfl⟩
 have hq:Zee T.t=true:=by simp only[Bool.and_eq_true] at hyes;exact hyes.2
 have hk:κ=0:=by simp only[Bool.and_eq_true,beq_iff_eq] at hyes;rw[← hκ];exact hyes.1
 rw[hτ,hq] at HF
 rw[hτ]
 have KK:=ħ hκ
 have TT:=ħ hτ
 clear hκ hτ hq hTK hyes hT hts h
 subst hk
 go_enter Tryz.func73,Tryz.ntmps73
 go_wp2_with fail
 refine HP.o.mono ?_
 rintro e w1 ⟨rfl,b1⟩
 have B1:=ħ b1
 have A1:=ħ ((Below.refl w1.heap.size w1).alloc (Nat.le_refl _) (.cells (Zbw Zfk).toArray 169))
 have H1:=ħ (H0.o.step b1)
 have T1:=ħ (HT.o.step b1)
 clear b1 HP
 go_wp2_with (first
  | (refine Zab rfl 169 (.tmp 3) (.tmp 8) rfl w1.heap.size (Zbw T).toArray ?s1 ?s2 169 _ (heap_alloc_new w1 _) (Zay _) rfl (Zbe _) ?_;(case s1=>rfl);(case s2=>rfl);intro W2 s2 u2;have S2:Hid (Zgj W2 w1.heap.size T):=ħ s2;have C2:=ħ (u2.below A1.o (Nat.le_refl _));clear s2 u2;obtain⟨q0,q1,q2,q3⟩:=S2.o.cells;clear q2 q3;rw[KK.o] at q0;rw[TT.o] at q1;have H2:=ħ (H1.o.step C2.o);obtain⟨p0,p1,p2⟩:=H2.o.cells;clear p0 p2;have pw:=H2.o.warm 1;have T2:=ħ (T1.o.step C2.o);have r1:=(Zhx W2 ⟨R,1,none⟩ (.int .i64 ((i:Int)+1)) ⟨w1.heap.size,1,none⟩ (by have:=H1.o.lt;show w1.heap.size≠R;omega)).trans q1)
  | (go_at_call 84;refine (HF.o _ T2.o).mono ?_;rintro e w3 ⟨rfl,rfl⟩))
 go_ret
 exact⟨rfl,H2.o.next (i+1),((Only.of_below B1.o).step C2.o).trans (ParW.nextOnly R _)⟩
end
section
open Go.RowKit
theorem Zm0 (w:World) (R:Nat) (ao:Option Addr) (cap:Nat) (ts:List Tok) (sz i:Nat) (B:Nat) (hT:Tab w B) (h:ParW w R ao cap ts sz i) (hi:i≤ts.length) (hn:ts.length≤1000000) (hts:∀ t∈ts,TokOk t) (hq:Zd8 ts i=false) :
  Calls Tryz.prog 73 #[.pointer (some ⟨R,0,none⟩)] w fun e w'=>e=Za0 (12,Zdu ts sz i)∧Only w w' (· = R):=by
 have HP:=ħ (Zfl w R ao cap ts sz i h hi hn)
 have H0:=ħ h
 have HT:=ħ hT
 by_cases hlt:i<ts.length
 ·rw[Zr2 hlt] at hq
  have hTK:=Zll hts hlt
  rw[decide_eq_true hlt] at HP
  have HF:=ħ (fun (w:World) (hT:Tab w B)=>Zlk (Zbl ts i).t w B hT hTK.len hTK.byte)
  generalize Zbl ts i=T at *
  obtain⟨κ,hκ⟩:∃ κ,T.k=κ:=⟨_,rfl⟩
  obtain⟨τ,hτ⟩:∃ τ,Zad T.t=τ:=⟨_,rfl⟩
  rw[hτ] at HF
  rw[hκ] at hq
  have KK:=ħ hκ
  have TT:=ħ hτ
  clear hκ hτ hTK hT hts h
  by_cases k0:κ=0
  ·have hf:Zee T.t=false:=by rw[k0] at hq;simpa using hq
   rw[hf] at HF
   clear hf hq
   subst k0
   go_enter Tryz.func73,Tryz.ntmps73
   go_wp2_with fail
   refine HP.o.mono ?_
   rintro e w1 ⟨rfl,b1⟩
   have B1:=ħ b1
   have A1:=ħ ((Below.refl w1.heap.size w1).alloc (Nat.le_refl _) (.cells (Zbw Zfk).toArray 169))
   have H1:=ħ (H0.o.step b1)
   have T1:=ħ (HT.o.step b1)
   clear b1 HP
   go_wp2_with (first
    | (refine Zab rfl 169 (.tmp 3) (.tmp 8) rfl w1.heap.size (Zbw T).toArray ?s1 ?s2 169 _ (heap_alloc_new w1 _) (Zay _) rfl (Zbe _) ?_;(case s1=>rfl);(case s2=>rfl);intro W2 s2 u2;have S2:Hid (Zgj W2 w1.heap.size T):=ħ s2;have C2:=ħ (u2.below A1.o (Nat.le_refl _));clear s2 u2;obtain⟨q0,q1,q2,q3⟩:=S2.o.cells;clear q2 q3;rw[KK.o] at q0;rw[TT.o] at q1;have H2:=ħ (H1.o.step C2.o);obtain⟨p0,p1,p2⟩:=H2.o.cells;clear p0 p2;have T2:=ħ (T1.o.step C2.o))
    | (go_at_call 84;refine (HF.o _ T2.o).mono ?_;rintro e w3 ⟨rfl,rfl⟩))
   refine (Zcj W2 R ao cap ts sz i i 12 H2.o hi hn).mono ?_
   rintro e w2 ⟨rfl,b2⟩
   have B2:=ħ b2
   clear b2
   unfold Za0
   go_wp2
   exact⟨rfl,rfl,((Only.of_below B1.o).step C2.o).step B2.o⟩
  ·clear hq HF
   go_enter Tryz.func73,Tryz.ntmps73
   go_wp2_with fail
   refine HP.o.mono ?_
   rintro e w1 ⟨rfl,b1⟩
   have B1:=ħ b1
   have A1:=ħ ((Below.refl w1.heap.size w1).alloc (Nat.le_refl _) (.cells (Zbw Zfk).toArray 169))
   have H1:=ħ (H0.o.step b1)
   clear b1 HP
   go_wp2_with (refine Zab rfl 169 (.tmp 3) (.tmp 8) rfl w1.heap.size (Zbw T).toArray ?s1 ?s2 169 _ (heap_alloc_new w1 _) (Zay _) rfl (Zbe _) ?_;(case s1=>rfl);(case s2=>rfl);intro W2 s2 u2;have S2:Hid (Zgj W2 w1.heap.size T):=ħ s2;have C2:=ħ (u2.below A1.o (Nat.le_refl _));clear s2 u2;obtain⟨q0,q1,q2,q3⟩:=S2.o.cells;clear q1 q2 q3;rw[KK.o] at q0;have H2:=ħ (H1.o.step C2.o);obtain⟨p0,p1,p2⟩:=H2.o.cells;clear p0 p2)
   refine (Zcj W2 R ao cap ts sz i i 12 H2.o hi hn).mono ?_
   rintro e w2 ⟨rfl,b2⟩
   have B2:=ħ b2
   clear b2
   unfold Za0
   go_wp2
   exact⟨rfl,rfl,((Only.of_below B1.o).step C2.o).step B2.o⟩
 ·rw[decide_eq_false hlt,Zhr hlt] at HP
  clear hT hts h hq
  go_enter Tryz.func73,Tryz.ntmps73
  go_wp2_with fail
  refine HP.o.mono ?_
  rintro e w1 ⟨rfl,b1⟩
  have B1:=ħ b1
  have A1:=ħ ((Below.refl w1.heap.size w1).alloc (Nat.le_refl _) (.cells (Zbw Zfk).toArray 169))
  have H1:=ħ (H0.o.step b1)
  clear b1 HP
  go_wp2_with (refine Zab rfl 169 (.tmp 3) (.tmp 8) rfl w1.heap.size (Zbw Zfk).toArray ?s1 ?s2 169 _ (heap_alloc_new w1 _) (Zay _) rfl (Zbe _) ?_;(case s1=>rfl);(case s2=>rfl);intro W2 s2 u2;have S2:Hid (Zgj W2 w1.heap.size Zfk):=ħ s2;have C2:=ħ (u2.below A1.o (Nat.le_refl _));clear s2 u2;have H2:=ħ (H1.o.step C2.o);obtain⟨p0,p1,p2⟩:=H2.o.cells;clear p0 p2)
  refine (Zcj W2 R ao cap ts sz i i 12 H2.o hi hn).mono ?_
  rintro e w2 ⟨rfl,b2⟩
  have B2:=ħ b2
  clear b2
  unfold Za0
  go_wp2
  exact⟨rfl,rfl,((Only.of_below B1.o).step C2.o).step B2.o⟩
theorem Zdp (w:World) (R:Nat) (ao:Option Addr) (cap:Nat) (ts:List Tok) (sz i:Nat) (h:ParW w R ao cap ts sz i) (hn:ts.length≤1000000) (hts:∀ t∈ts,TokOk t) (hq:Zcx ts i=true) :
  Calls Tryz.prog 290 #[.pointer (some ⟨R,0,none⟩)] w fun e w'=>e = .returned (.int .i64 (Zhu ts i:Nat))∧ParW w' R ao cap ts sz (i+1)∧Only w w' (· = R):=by
 have hlt:=Zex hq
 have HP:=ħ (Zfl w R ao cap ts sz i h (by omega) hn)
 have H0:=ħ h
 have e2:IntKind.i64.wrap ((i:Int)+1)=(i:Int)+1:=IntWalk.i64_in _ (by omega)
 rw[Zi9 hlt] at hq
 rw[Z7g hlt]
 rw[decide_eq_true hlt] at HP
 generalize Zbl ts i=T at *
 obtain⟨κ,hκ⟩:∃ κ,T.k=κ:=⟨_,rfl⟩
 obtain⟨ν,hν⟩:∃ ν,T.n=ν:=⟨_,rfl⟩
 have hk:κ=1:=by rw[hκ] at hq;simpa using hq
 rw[hν]
 have KK:=ħ hκ
 have NN:=ħ hν
 clear hκ hν hq hts h
 subst hk
 go_enter Tryz.func290,Tryz.ntmps290
 go_wp2_with fail
 refine HP.o.mono ?_
 rintro e w1 ⟨rfl,b1⟩
 have B1:=ħ b1
 have A1:=ħ ((Below.refl w1.heap.size w1).alloc (Nat.le_refl _) (.cells (Zbw Zfk).toArray 169))
 have H1:=ħ (H0.o.step b1)
 clear b1 HP
 go_wp2_with (refine Zab rfl 169 (.tmp 3) (.tmp 8) rfl w1.heap.size (Zbw T).toArray ?s1 ?s2 169 _ (heap_alloc_new w1 _) (Zay _) rfl (Zbe _) ?_;(case s1=>rfl);(case s2=>rfl);intro W2 s2 u2;have S2:Hid (Zgj W2 w1.heap.size T):=ħ s2;have C2:=ħ (u2.below A1.o (Nat.le_refl _));clear s2 u2;obtain⟨q0,q1,q2,q3⟩:=S2.o.cells;clear q1 q3;rw[KK.o] at q0;rw[NN.o] at q2;have H2:=ħ (H1.o.step C2.o);obtain⟨p0,p1,p2⟩:=H2.o.cells;clear p0 p2;have pw:=H2.o.warm 1;have r1:=(Zhx W2 ⟨R,1,none⟩ (.int .i64 ((i:Int)+1)) ⟨w1.heap.size,2,none⟩ (by have:=H1.o.lt;show w1.heap.size≠R;omega)).trans q2)
 go_ret
 exact⟨rfl,H2.o.next (i+1),((Only.of_below B1.o).step C2.o).trans (ParW.nextOnly R _)⟩
theorem Zed (w:World) (R:Nat) (ao:Option Addr) (cap:Nat) (ts:List Tok) (sz i:Nat) (h:ParW w R ao cap ts sz i) (hi:i≤ts.length) (hn:ts.length≤1000000) (hts:∀ t∈ts,TokOk t) (hq:Zcx ts i=false) :
  Calls Tryz.prog 290 #[.pointer (some ⟨R,0,none⟩)] w fun e w'=>e=Za0 (12,Zdu ts sz i)∧Only w w' (· = R):=by
 have HP:=ħ (Zfl w R ao cap ts sz i h hi hn)
 have H0:=ħ h
 by_cases hlt:i<ts.length
 ·rw[Zi9 hlt] at hq
  rw[decide_eq_true hlt] at HP
  generalize Zbl ts i=T at *
  obtain⟨κ,hκ⟩:∃ κ,T.k=κ:=⟨_,rfl⟩
  have k0:¬ κ=1:=by rw[hκ] at hq;simpa using hq
  have KK:=ħ hκ
  clear hκ hts h hq
  go_enter Tryz.func290,Tryz.ntmps290
  go_wp2_with fail
  refine HP.o.mono ?_
  rintro e w1 ⟨rfl,b1⟩
  have B1:=ħ b1
  have A1:=ħ ((Below.refl w1.heap.size w1).alloc (Nat.le_refl _) (.cells (Zbw Zfk).toArray 169))
  have H1:=ħ (H0.o.step b1)
  clear b1 HP
  go_wp2_with (refine Zab rfl 169 (.tmp 3) (.tmp 8) rfl w1.heap.size (Zbw T).toArray ?s1 ?s2 169 _ (heap_alloc_new w1 _) (Zay _) rfl (Zbe _) ?_;(case s1=>rfl);(case s2=>rfl);intro W2 s2 u2;have S2:Hid (Zgj W2 w1.heap.size T):=ħ s2;have C2:=ħ (u2.below A1.o (Nat.le_refl _));clear s2 u2;obtain⟨q0,q1,q2,q3⟩:=S2.o.cells;clear q1 q2 q3;rw[KK.o] at q0;have H2:=ħ (H1.o.step C2.o);obtain⟨p0,p1,p2⟩:=H2.o.cells;clear p0 p2)
  refine (Zcj W2 R ao cap ts sz i i 12 H2.o hi hn).mono ?_
  rintro e w2 ⟨rfl,b2⟩
  have B2:=ħ b2
  clear b2
  unfold Za0
  go_wp2
  exact⟨rfl,rfl,((Only.of_below B1.o).step C2.o).step B2.o⟩
 ·rw[decide_eq_false hlt,Zhr hlt] at HP
  clear hts h hq
  go_enter Tryz.func290,Tryz.ntmps290
  go_wp2_with fail
  refine HP.o.mono ?_
  rintro e w1 ⟨rfl,b1⟩
  have B1:=ħ b1
  have A1:=ħ ((Below.refl w1.heap.size w1).alloc (Nat.le_refl _) (.cells (Zbw Zfk).toArray 169))
  have H1:=ħ (H0.o.step b1)
  clear b1 HP
  go_wp2_with (refine Zab rfl 169 (.tmp 3) (.tmp 8) rfl w1.heap.size (Zbw Zfk).toArray ?s1 ?s2 169 _ (heap_alloc_new w1 _) (Zay _) rfl (Zbe _) ?_;(case s1=>rfl);(case s2=>rfl);intro W2 s2 u2;have S2:Hid (Zgj W2 w1.heap.size Zfk):=ħ s2;have C2:=ħ (u2.below A1.o (Nat.le_refl _));clear s2 u2;have H2:=ħ (H1.o.step C2.o);obtain⟨p0,p1,p2⟩:=H2.o.cells;clear p0 p2)
  refine (Zcj W2 R ao cap ts sz i i 12 H2.o hi hn).mono ?_
  rintro e w2 ⟨rfl,b2⟩
  have B2:=ħ b2
  clear b2
  unfold Za0
  go_wp2
  exact⟨rfl,rfl,((Only.of_below B1.o).step C2.o).step B2.o⟩
end
section
open Go.RowKit
def Zah (w:World) (g:Nat) (t:TypeId) (cs:List Value):Prop:=w.heap[g]?=some (.cells cs.toArray t (0,0))
theorem Zah.new (w:World) (t:TypeId) (cs:List Value):Zah (w.alloc (.cells cs.toArray t)) w.heap.size t cs:=heap_alloc_new w _
theorem Zah.lt {w:World} {g:Nat} {t:TypeId} {cs:List Value} (h:Zah w g t cs):g<w.heap.size:=(Array.getElem?_eq_some_iff.1 h).1
theorem Zah.below {w w':World} {g B:Nat} {t:TypeId} {cs:List Value} (h:Zah w g t cs) (hb:Below B w w') (hg:g<B):Zah w' g t cs:=by
 unfold Zah;rw[hb.block g hg];exact h
theorem Zah.step {w w':World} {g:Nat} {t:TypeId} {cs:List Value} (h:Zah w g t cs) (hb:Below w.heap.size w w'):Zah w' g t cs:=h.below hb h.lt
theorem Zah.only {w w':World} {g:Nat} {p:Nat→Prop} {t:TypeId} {cs:List Value} (h:Zah w g t cs) (hb:Only w w' p) (hg:¬ p g):Zah w' g t cs:=by
 unfold Zah;rw[hb.block g h.lt hg];exact h
theorem Zah.upd {w w':World} {g g':Nat} {t:TypeId} {cs:List Value} (h:Zah w g t cs) (hu:Upd w w' g') (hg:g≠g'):Zah w' g t cs:=by
 unfold Zah;rw[hu.block g hg];exact h
theorem Zah.cell {w:World} {g:Nat} {t:TypeId} {cs:List Value} (h:Zah w g t cs) (i:Nat) (v:Value) (hv:cs[i]?=some v):w.cell? ⟨g,i,none⟩=some v:=by
 unfold Zah at h
 simp[World.cell?,h,hv]
theorem Zah.warm {w:World} {g:Nat} {t:TypeId} {cs:List Value} (h:Zah w g t cs) (i:Nat):w.frozen? ⟨g,i,none⟩=false:=by
 unfold Zah at h
 simp[World.frozen?,h]
theorem Zah.set {w:World} {g:Nat} {t:TypeId} {cs:List Value} (h:Zah w g t cs) (i:Nat) (v:Value):Zah (w.setCell ⟨g,i,none⟩ v) g t (cs.set i v):=by
 have:=Go.heap_setCell_same w g i _ _ v h
 unfold Zah
 rw[this,List.setIfInBounds_toArray]
def Zc2 (a:Zfx):List Value:=[.string (Zad a.1),.int .i64 a.2]
def Z7h:Zfx:=([],0)
theorem Zb7 (a:Zfx):(Tryz.prog.info? 258).map (·.size)=some (Zc2 a).toArray.size:=by
 show _=some 2
 kernel_rfl
theorem Zgk (a:Zfx):(Zc2 a).toArray.all (·.oneCell')=true:=by simp[Zc2,Value.oneCell']
theorem Z1u (b:List Nat):(⟨#[46]⟩:ByteArray)++Zad b=Zad (46::b):=Ze3 [46] b
theorem Tab.onlyR {w w':World} {B R:Nat} (h:Tab w B) (hb:Only w w' (· = R)) (hR:B≤R):Tab w' B:=h.only hb (fun k hk=>hk ▸ hR)
abbrev Z8r (w:World) (R:Nat) (ao:Option Addr) (cap:Nat) (ts:List Tok) (sz:Nat) (r:PR Zfx) (e:Ending) (w':World):Prop :=
 Z8q w R ao cap ts sz (fun _ a v=>v = .agg (Zc2 a).toArray) r e w'
theorem Zba {α:Type} {w:World} {R:Nat} {ao:Option Addr} {cap:Nat} {ts:List Tok} {sz:Nat} {val:World→α→Value→Prop} {r:PR α} {e:Ending} {w':World} {a:α} {j:Nat} {v:Value}
  (hr:r = .ok (a,j)) (ho:Only w w' (· = R)) (he:e = .returned v) (hv:val w' a v) (hp:ParW w' R ao cap ts sz j):Z8q w R ao cap ts sz val r e w':=by
 subst hr;exact⟨ho,⟨v,he,hv⟩,hp⟩
theorem Zas {α:Type} {w:World} {R:Nat} {ao:Option Addr} {cap:Nat} {ts:List Tok} {sz:Nat} {val:World→α→Value→Prop} {r:PR α} {e:Ending} {w':World} {x:Int×Nat}
  (hr:r = .error x) (ho:Only w w' (· = R)) (he:e=Za0 x):Z8q w R ao cap ts sz val r e w':=by
 subst hr;exact⟨ho,he⟩
theorem Zdq {ts:List Tok} {sz i:Nat} {s:List Nat} (h:isP ts s i=true):Zbi ts sz s i = .ok (i+1):=by unfold Zbi;rw[if_pos h]
theorem Zeo {ts:List Tok} {sz i:Nat} {s:List Nat} (h:isP ts s i=false):Zbi ts sz s i = .error (12,Zdu ts sz i):=by unfold Zbi;rw[if_neg (by rw[h];simp)]
theorem Zja {ts:List Tok} {sz i:Nat} (h:Zd8 ts i=true):Zgd ts sz i = .ok (Zhz ts i,i+1):=by unfold Zgd;rw[if_pos h]
theorem Zlm {ts:List Tok} {sz i:Nat} (h:Zd8 ts i=false):Zgd ts sz i = .error (12,Zdu ts sz i):=by unfold Zgd;rw[if_neg (by rw[h];simp)]
theorem Zfm {ts:List Tok} {sz i:Nat} (h:Zcx ts i=true):Znb ts sz i = .ok (Zhu ts i,i+1):=by unfold Znb;rw[if_pos h]
theorem Zhd {ts:List Tok} {sz i:Nat} (h:Zcx ts i=false):Znb ts sz i = .error (12,Zdu ts sz i):=by unfold Znb;rw[if_neg (by rw[h];simp)]
theorem ParW.upd {w wk w':World} {R cap sz i j g:Nat} {ao:Option Addr} {ts:List Tok} (h0:ParW w R ao cap ts sz i) (h:ParW wk R ao cap ts sz j) (hu:Upd wk w' g) (hg:w.heap.size≤g):ParW w' R ao cap ts sz j:=by
 have hl:=h0.lt
 refine⟨?_,?_⟩
 ·unfold Z7e;rw[hu.block R (by omega)];exact h.blk
 ·rcases h0.toks with h1 | ⟨g1,off,h1,h2,h3,h4⟩
  ·exact .inl h1
  ·rcases h.toks with h5 | ⟨g5,off5,h5,h6,h7,h8⟩
   ·exact .inl h5
   ·have e:g5=g1∧off5=off:=by rw[h1] at h5;simp only[Option.some.injEq,Addr.mk.injEq] at h5;exact⟨h5.1.symm,h5.2.1.symm⟩
    obtain⟨rfl,rfl⟩:=e
    exact .inr ⟨g5,off5,h5,h6,by rw[hu.size];exact h7,h8.of_block (hu.block g5 (by omega))⟩
theorem Only.updNew {w wk w':World} {p:Nat→Prop} {g:Nat} (h:Only w wk p) (hu:Upd wk w' g) (hg:w.heap.size≤g):Only w w' p :=
 ⟨hu.os.trans h.os,hu.tape.trans h.tape,hu.output.trans h.output,by rw[hu.size];exact h.size,fun k hk hp=>(hu.block k (by omega)).trans (h.block k hk hp)⟩
theorem Z1v (w:World) (R:Nat) (ao:Option Addr) (cap:Nat) (ts:List Tok) (sz i B:Nat) (hT:Tab w B) (hR:B≤R) (h:ParW w R ao cap ts sz i) (hi:i≤ts.length) (hn:ts.length≤1000000) (hts:∀ t∈ts,TokOk t) (hm:isP ts [45] i=true) :
  Calls Tryz.prog 245 #[.pointer (some ⟨R,0,none⟩)] w fun e w'=>Z8r w R ao cap ts sz (Znc ts sz i) e w':=by
 obtain⟨V,hV⟩:∃ V,Znc ts sz i=V:=⟨_,rfl⟩
 rw[hV]
 have HV:=ħ hV.symm
 clear hV
 have Z0:Hid (Zah (w.alloc (.cells #[.string ⟨#[]⟩,.int .i64 0] 258)) w.heap.size 258 (Zc2 Z7h)):=ħ (Zah.new w _ (Zc2 Z7h))
 have B0:=ħ ((Below.refl w.heap.size w).alloc (Nat.le_refl _) (.cells #[.string ⟨#[]⟩,.int .i64 0] 258))
 have P0:=ħ (h.step B0.o)
 have T0:=ħ (hT.step B0.o)
 have Q0:=ħ (Only.refl (w.alloc (.cells #[.string ⟨#[]⟩,.int .i64 0] 258)) (· = R))
 have H0:=ħ h
 have BO:=ħ (Only.of_below (p:=(· = R)) B0.o)
 have hZR:Hid (¬ w.heap.size=R):=ħ (by have:=h.lt;omega)
 have RL:=ħ h.lt
 have HTS:=ħ hts
 clear h hT hts
 have hlt:=Zbv hm
 have EV:=ħ (show Znc ts sz i=(Znb ts sz (i+1)).bind (fun m=>.ok (([],-(m.1:Int)),m.2)) by unfold Znc;rw[if_pos hm])
 rw[EV.o] at HV
 have HM:=ħ hm
 clear hm EV
 go_enter Tryz.func245,Tryz.ntmps245
 go_wp2_with fail
 generalize w.alloc (.cells #[.string ⟨#[]⟩,.int .i64 0] 258)=w0 at *
 refine (Zbt w0 R ao cap ts sz i [45] P0.o hn HTS.o (by decide) HM.o).mono ?_
 rintro e w1 ⟨rfl,p1,o1⟩
 have P1:=ħ p1
 have T1:=ħ (T0.o.onlyR o1 hR)
 have Q1:=ħ (Q0.o.trans o1)
 clear p1 o1 P0 T0 Q0
 go_wp2_with fail
 cases hk:Zcx ts (i+1) with
 | true =>
  have HR:Hid (V = .ok (([],-((Zhu ts (i+1):Nat):Int)),i+1+1)):=ħ (by rw[HV.o,Zfm hk];rfl)
  have hv:=Zdw HTS.o (i+1)
  have e1:IntKind.i64.wrap (-((Zhu ts (i+1):Nat):Int)) = -((Zhu ts (i+1):Nat):Int):=IntWalk.i64_in _ (by omega)
  refine (Zdp w1 R ao cap ts sz (i+1) P1.o hn HTS.o hk).mono ?_
  clear hk hv HV
  generalize Zhu ts (i+1)=N at *
  rintro e w2 ⟨rfl,p2,o2⟩
  have P2:=ħ p2
  have T2:=ħ (T1.o.onlyR o2 hR)
  have Q2:=ħ (Q1.o.trans o2)
  clear p2 o2 P1 T1 Q1
  have Z2:=ħ (Z0.o.only Q2.o hZR.o)
  go_wp2_with (refine Zab rfl 258 (.tmp 2) (.tmp 11) rfl w.heap.size (Zc2 ([],-((N:Nat):Int))).toArray ?s1 ?s2 258 _ Z2.o (Zb7 _) rfl (Zgk _) ?_;(case s1=>rfl);(case s2=>rfl);intro W9 s9 u9;have S9:=ħ s9;have U9:=ħ u9;clear s9 u9)
  exact bodyPost_ret (results_cell_row (p:=2) (by kernel_rfl) _ _ w.heap.size 258 (Zc2 ([],-((N:Nat):Int))).toArray (0,0) _ rfl S9.o Tryz.underlying258 rfl (Zb7 _)) rfl (Zba HR.o ((BO.o.trans Q2.o).updNew U9.o (Nat.le_refl _)) rfl rfl (H0.o.upd P2.o U9.o (Nat.le_refl _)))
 | false =>
  refine (Zed w1 R ao cap ts sz (i+1) P1.o hlt hn HTS.o hk).mono ?_
  rw[Zhd hk] at HV
  clear hk
  rintro e w2 ⟨rfl,o2⟩
  have Q2:=ħ (Q1.o.trans o2)
  clear o2 Q1
  unfold Za0
  go_wp2
  exact⟨rfl,Zas (by rw[HV.o];try rfl) (BO.o.trans Q2.o) rfl⟩
theorem Z7i (w:World) (R:Nat) (ao:Option Addr) (cap:Nat) (ts:List Tok) (sz i B:Nat) (hT:Tab w B) (hR:B≤R) (h:ParW w R ao cap ts sz i) (hi:i≤ts.length) (hn:ts.length≤1000000) (hts:∀ t∈ts,TokOk t) (hm:isP ts [45] i=false) (hk:Zcx ts i=true) :
  Calls Tryz.prog 245 #[.pointer (some ⟨R,0,none⟩)] w fun e w'=>Z8r w R ao cap ts sz (Znc ts sz i) e w':=by
 obtain⟨V,hV⟩:∃ V,Znc ts sz i=V:=⟨_,rfl⟩
 rw[hV]
 have HV:=ħ hV.symm
 clear hV
 have Z0:Hid (Zah (w.alloc (.cells #[.string ⟨#[]⟩,.int .i64 0] 258)) w.heap.size 258 (Zc2 Z7h)):=ħ (Zah.new w _ (Zc2 Z7h))
 have B0:=ħ ((Below.refl w.heap.size w).alloc (Nat.le_refl _) (.cells #[.string ⟨#[]⟩,.int .i64 0] 258))
 have P0:=ħ (h.step B0.o)
 have T0:=ħ (hT.step B0.o)
 have Q0:=ħ (Only.refl (w.alloc (.cells #[.string ⟨#[]⟩,.int .i64 0] 258)) (· = R))
 have H0:=ħ h
 have BO:=ħ (Only.of_below (p:=(· = R)) B0.o)
 have hZR:Hid (¬ w.heap.size=R):=ħ (by have:=h.lt;omega)
 have RL:=ħ h.lt
 have HTS:=ħ hts
 clear h hT hts
 have hlt:=Zex hk
 have HR:Hid (V = .ok (([],((Zhu ts i:Nat):Int)),i+1)):=ħ (by rw[HV.o];unfold Znc;rw[if_neg (by rw[hm];simp),if_pos hk])
 have HM:=ħ hm
 have HK:=ħ hk
 have KK:Hid ((Zbl ts i).k=1):=ħ (by rw[Zi9 hlt] at hk;simpa using hk)
 have LT:=ħ (decide_eq_true hlt)
 clear hm hk HV
 go_enter Tryz.func245,Tryz.ntmps245
 go_wp2_with fail
 generalize w.alloc (.cells #[.string ⟨#[]⟩,.int .i64 0] 258)=w0 at *
 refine (Zcd w0 R ao cap ts sz i [45] P0.o hi hn HTS.o (by decide) HM.o).mono ?_
 rintro e w1 ⟨rfl,b1⟩
 have P1:=ħ (P0.o.step b1)
 have Q1:=ħ (Q0.o.step b1)
 have T1:=ħ (T0.o.step b1)
 clear b1 P0 T0 Q0
 go_wp2_with fail
 refine (Zfl w1 R ao cap ts sz i P1.o hi hn).mono ?_
 rw[LT.o]
 rintro e w2 ⟨rfl,b2⟩
 have P2:=ħ (P1.o.step b2)
 have Q2:=ħ (Q1.o.step b2)
 have T2:=ħ (T1.o.step b2)
 clear b2 P1 T1 Q1
 have A2:=ħ ((Below.refl w2.heap.size w2).alloc (Nat.le_refl _) (.cells (Zbw Zfk).toArray 169))
 generalize Zbl ts i=T at *
 obtain⟨κ,hκ⟩:∃ κ,T.k=κ:=⟨_,rfl⟩
 have K1:=ħ hκ
 rw[hκ] at KK
 have hk1:=KK.o
 subst hk1
 clear hκ
 go_wp2_with (refine Zab rfl 169 (.tmp 3) (.tmp 15) rfl w2.heap.size (Zbw T).toArray ?s1 ?s2 169 _ (heap_alloc_new w2 _) (Zay _) rfl (Zbe _) ?_;(case s1=>rfl);(case s2=>rfl);intro w3 s2 u2;have S2:Hid (Zgj w3 w2.heap.size T):=ħ s2;have C2:=ħ (u2.below A2.o (Nat.le_refl _));clear s2 u2;obtain⟨q0,q1,q2,q3⟩:=S2.o.cells;clear q1 q2 q3;rw[K1.o] at q0)
 have P3:=ħ (P2.o.step C2.o)
 have Q3:=ħ (Q2.o.step C2.o)
 have T3:=ħ (T2.o.step C2.o)
 clear P2 Q2 T2
 refine (Zdp w3 R ao cap ts sz i P3.o hn HTS.o HK.o).mono ?_
 generalize Zhu ts i=N at *
 rintro e w4 ⟨rfl,p4,o4⟩
 have P4:=ħ p4
 have T4:=ħ (T3.o.onlyR o4 hR)
 have Q4:=ħ (Q3.o.trans o4)
 clear p4 o4 P3 T3 Q3
 have Z4:=ħ (Z0.o.only Q4.o hZR.o)
 go_wp2_with (refine Zab rfl 258 (.tmp 2) (.tmp 25) rfl w.heap.size (Zc2 ([],((N:Nat):Int))).toArray ?s1 ?s2 258 _ Z4.o (Zb7 _) rfl (Zgk _) ?_;(case s1=>rfl);(case s2=>rfl);intro W9 s9 u9;have S9:=ħ s9;have U9:=ħ u9;clear s9 u9)
 exact bodyPost_ret (results_cell_row (p:=2) (by kernel_rfl) _ _ w.heap.size 258 (Zc2 ([],((N:Nat):Int))).toArray (0,0) _ rfl S9.o Tryz.underlying258 rfl (Zb7 _)) rfl (Zba HR.o ((BO.o.trans Q4.o).updNew U9.o (Nat.le_refl _)) rfl rfl (H0.o.upd P4.o U9.o (Nat.le_refl _)))
theorem Z5f (w:World) (R:Nat) (ao:Option Addr) (cap:Nat) (ts:List Tok) (sz i B:Nat) (hT:Tab w B) (hR:B≤R) (h:ParW w R ao cap ts sz i) (hi:i≤ts.length) (hn:ts.length≤1000000) (hts:∀ t∈ts,TokOk t) (hm:isP ts [45] i=false) (hk:Zcx ts i=false) :
  Calls Tryz.prog 245 #[.pointer (some ⟨R,0,none⟩)] w fun e w'=>Z8r w R ao cap ts sz (Znc ts sz i) e w':=by
 obtain⟨V,hV⟩:∃ V,Znc ts sz i=V:=⟨_,rfl⟩
 rw[hV]
 have HV:=ħ hV.symm
 clear hV
 have Z0:Hid (Zah (w.alloc (.cells #[.string ⟨#[]⟩,.int .i64 0] 258)) w.heap.size 258 (Zc2 Z7h)):=ħ (Zah.new w _ (Zc2 Z7h))
 have B0:=ħ ((Below.refl w.heap.size w).alloc (Nat.le_refl _) (.cells #[.string ⟨#[]⟩,.int .i64 0] 258))
 have P0:=ħ (h.step B0.o)
 have T0:=ħ (hT.step B0.o)
 have Q0:=ħ (Only.refl (w.alloc (.cells #[.string ⟨#[]⟩,.int .i64 0] 258)) (· = R))
 have H0:=ħ h
 have BO:=ħ (Only.of_below (p:=(· = R)) B0.o)
 have hZR:Hid (¬ w.heap.size=R):=ħ (by have:=h.lt;omega)
 have RL:=ħ h.lt
 have HTS:=ħ hts
 clear h hT hts
 have EV:=ħ (show Znc ts sz i=(Zgd ts sz i).bind (fun a=>(Zbi ts sz [46] a.2).bind (fun j=>(Zgd ts sz j).bind (fun b =>
  if isP ts [43] b.2=true then (Znb ts sz (b.2+1)).bind (fun m=>.ok ((a.1++46::b.1,(m.1:Int)),m.2))
  else if isP ts [45] b.2=true then (Znb ts sz (b.2+1)).bind (fun m=>.ok ((a.1++46::b.1,-(m.1:Int)),m.2))
  else .ok ((a.1++46::b.1,0),b.2)))) by unfold Znc;rw[if_neg (by rw[hm];simp),if_neg (by rw[hk];simp)])
 rw[EV.o] at HV
 have HM:=ħ hm
 have HK:=ħ hk
 have KK:Hid (i<ts.length→¬ (Zbl ts i).k=1):=ħ (fun hlt=>by rw[Zi9 hlt] at hk;simpa using hk)
 clear hm hk EV
 go_enter Tryz.func245,Tryz.ntmps245
 go_wp2_with fail
 generalize w.alloc (.cells #[.string ⟨#[]⟩,.int .i64 0] 258)=w0 at *
 refine (Zcd w0 R ao cap ts sz i [45] P0.o hi hn HTS.o (by decide) HM.o).mono ?_
 rintro e w1 ⟨rfl,b1⟩
 have P1:=ħ (P0.o.step b1)
 have Q1:=ħ (Q0.o.step b1)
 have T1:=ħ (T0.o.step b1)
 clear b1 P0 T0 Q0
 go_wp2_with fail
 refine (Zfl w1 R ao cap ts sz i P1.o hi hn).mono ?_
 rintro e w2 ⟨rfl,b2⟩
 have P2:=ħ (P1.o.step b2)
 have Q2:=ħ (Q1.o.step b2)
 have T2:=ħ (T1.o.step b2)
 clear b2 P1 T1 Q1
 have A2:=ħ ((Below.refl w2.heap.size w2).alloc (Nat.le_refl _) (.cells (Zbw Zfk).toArray 169))
 obtain⟨D,hD⟩:∃ D,decide (i<ts.length)=D:=⟨_,rfl⟩
 rw[hD]
 have KD:Hid (D=true→¬ (Zbl ts i).k=1):=ħ (fun e=>KK.o (by rw[← hD] at e;exact of_decide_eq_true e))
 clear hD KK
 generalize Zbl ts i=T at *
 obtain⟨κ,hκ⟩:∃ κ,T.k=κ:=⟨_,rfl⟩
 have K1:=ħ hκ
 rw[hκ] at KD
 clear hκ
 cases D with
 | true =>
  have hk1:=KD.o rfl
  clear KD
  go_wp2_with (refine Zab rfl 169 (.tmp 3) (.tmp 15) rfl w2.heap.size (Zbw T).toArray ?s1 ?s2 169 _ (heap_alloc_new w2 _) (Zay _) rfl (Zbe _) ?_;(case s1=>rfl);(case s2=>rfl);intro w3 s2 u2;have S2:Hid (Zgj w3 w2.heap.size T):=ħ s2;have C2:=ħ (u2.below A2.o (Nat.le_refl _));clear s2 u2;obtain⟨q0,q1,q2,q3⟩:=S2.o.cells;clear q1 q2 q3;rw[K1.o] at q0)
  have P3:=ħ (P2.o.step C2.o)
  have Q3:=ħ (Q2.o.step C2.o)
  have T3:=ħ (T2.o.step C2.o)
  clear P2 Q2 T2
  cases h1:Zd8 ts i with
  | false =>
   refine (Zm0 w3 R ao cap ts sz i B T3.o P3.o hi hn HTS.o h1).mono ?_
   rw[Zlm h1] at HV
   clear h1
   rintro e w4 ⟨rfl,o4⟩
   have Q4:=ħ (Q3.o.trans o4)
   clear o4 Q3
   unfold Za0
   go_wp2
   exact⟨rfl,Zas (by rw[HV.o];try rfl) (BO.o.trans Q4.o) rfl⟩
  | true =>
   have l1:=Zew h1
   have L1:=ħ (Zff h1)
   rw[Zja h1] at HV
   simp only[Except.bind] at HV
   refine (Zmz w3 R ao cap ts sz i B T3.o P3.o hn HTS.o h1).mono ?_
   clear h1
   rintro e w4 ⟨rfl,p4,o4⟩
   have P4:=ħ p4
   have T4:=ħ (T3.o.onlyR o4 hR)
   have Q4:=ħ (Q3.o.trans o4)
   clear p4 o4 P3 T3 Q3
   go_wp2_with fail
   cases h2:isP ts [46] (i+1) with
   | false =>
    refine (Zfv w4 R ao cap ts sz (i+1) [46] P4.o l1 hn HTS.o (by decide) h2).mono ?_
    rw[Zeo h2] at HV
    clear h2
    rintro e w5 ⟨rfl,o5⟩
    have Q5:=ħ (Q4.o.trans o5)
    clear o5 Q4
    unfold Za0
    go_wp2
    exact⟨rfl,Zas (by rw[HV.o];try rfl) (BO.o.trans Q5.o) rfl⟩
   | true =>
    have l2:=Zbv h2
    rw[Zdq h2] at HV
    simp only[Except.bind] at HV
    refine (Zfu w4 R ao cap ts sz (i+1) [46] P4.o hn HTS.o (by decide) h2).mono ?_
    clear h2
    rintro e w5 ⟨rfl,p5,o5⟩
    have P5:=ħ p5
    have T5:=ħ (T4.o.onlyR o5 hR)
    have Q5:=ħ (Q4.o.trans o5)
    clear p5 o5 P4 T4 Q4
    go_wp2_with fail
    cases h3:Zd8 ts (i+1+1) with
    | false =>
     refine (Zm0 w5 R ao cap ts sz (i+1+1) B T5.o P5.o l2 hn HTS.o h3).mono ?_
     rw[Zlm h3] at HV
     clear h3
     rintro e w6 ⟨rfl,o6⟩
     have Q6:=ħ (Q5.o.trans o6)
     clear o6 Q5
     unfold Za0
     go_wp2
     exact⟨rfl,Zas (by rw[HV.o];try rfl) (BO.o.trans Q6.o) rfl⟩
    | true =>
     have l3:=Zew h3
     rw[Zja h3] at HV
     simp only[Except.bind] at HV
     refine (Zmz w5 R ao cap ts sz (i+1+1) B T5.o P5.o hn HTS.o h3).mono ?_
     have d1:=Z1u (Zhz ts (i+1+1))
     have d2:=Ze3 (Zhz ts i) (46::Zhz ts (i+1+1))
     have z1:¬ 9223372036854775807<1+(Zad (Zhz ts (i+1+1))).size:=by rw[Zaq];have:=Zff h3;omega
     have z2:¬ 9223372036854775807<(Zad (Zhz ts i)).size+(Zad (46::Zhz ts (i+1+1))).size:=by rw[Zaq,Zaq,List.length_cons];have:=Zff h3;have:=L1.o;omega
     clear h3 L1
     generalize Zhz ts i=X at *
     generalize Zhz ts (i+1+1)=Y at *
     rintro e w6 ⟨rfl,p6,o6⟩
     have P6:=ħ p6
     have T6:=ħ (T5.o.onlyR o6 hR)
     have Q6:=ħ (Q5.o.trans o6)
     clear p6 o6 P5 T5 Q5
     go_wp2_with fail
     cases h4:isP ts [43] (i+1+1+1) with
     | true =>
      have l4:=Zbv h4
      rw[if_pos h4] at HV
      refine (Zbt w6 R ao cap ts sz (i+1+1+1) [43] P6.o hn HTS.o (by decide) h4).mono ?_
      clear h4
      rintro e w7 ⟨rfl,p7,o7⟩
      have P7:=ħ p7
      have T7:=ħ (T6.o.onlyR o7 hR)
      have Q7:=ħ (Q6.o.trans o7)
      clear p7 o7 P6 T6 Q6
      go_wp2_with fail
      cases h5:Zcx ts (i+1+1+1+1) with
      | false =>
       refine (Zed w7 R ao cap ts sz (i+1+1+1+1) P7.o l4 hn HTS.o h5).mono ?_
       rw[Zhd h5] at HV
       clear h5
       rintro e w8 ⟨rfl,o8⟩
       have Q8:=ħ (Q7.o.trans o8)
       clear o8 Q7
       unfold Za0
       go_wp2
       exact⟨rfl,Zas (by rw[HV.o];try rfl) (BO.o.trans Q8.o) rfl⟩
      | true =>
       have HR:Hid (V = .ok ((X++46::Y,((Zhu ts (i+1+1+1+1):Nat):Int)),i+1+1+1+1+1)):=ħ (by rw[HV.o,Zfm h5];try rfl)
       refine (Zdp w7 R ao cap ts sz (i+1+1+1+1) P7.o hn HTS.o h5).mono ?_
       clear h5 HV
       generalize Zhu ts (i+1+1+1+1)=N at *
       rintro e w8 ⟨rfl,p8,o8⟩
       have P8:=ħ p8
       have T8:=ħ (T7.o.onlyR o8 hR)
       have Q8:=ħ (Q7.o.trans o8)
       clear p8 o8 P7 T7 Q7
       have Z8:=ħ (Z0.o.only Q8.o hZR.o)
       go_wp2_with (refine Zab rfl 258 (.tmp 2) (.tmp 41) rfl w.heap.size (Zc2 (X++46::Y,((N:Nat):Int))).toArray ?s1 ?s2 258 _ Z8.o (Zb7 _) rfl (Zgk _) ?_;(case s1=>rfl);(case s2=>rfl);intro W9 s9 u9;have S9:=ħ s9;have U9:=ħ u9;clear s9 u9)
       exact bodyPost_ret (results_cell_row (p:=2) (by kernel_rfl) _ _ w.heap.size 258 (Zc2 (X++46::Y,((N:Nat):Int))).toArray (0,0) _ rfl S9.o Tryz.underlying258 rfl (Zb7 _)) rfl (Zba HR.o ((BO.o.trans Q8.o).updNew U9.o (Nat.le_refl _)) rfl rfl (H0.o.upd P8.o U9.o (Nat.le_refl _)))
     | false =>
      rw[if_neg (by rw[h4];simp)] at HV
      refine (Zcd w6 R ao cap ts sz (i+1+1+1) [43] P6.o l3 hn HTS.o (by decide) h4).mono ?_
      clear h4
      rintro e w7 ⟨rfl,b7⟩
      have P7:=ħ (P6.o.step b7)
      have Q7:=ħ (Q6.o.step b7)
      have T7:=ħ (T6.o.step b7)
      clear b7 P6 T6 Q6
      go_wp2_with fail
      cases h4:isP ts [45] (i+1+1+1) with
      | true =>
       have l4:=Zbv h4
       rw[if_pos h4] at HV
       refine (Zbt w7 R ao cap ts sz (i+1+1+1) [45] P7.o hn HTS.o (by decide) h4).mono ?_
       clear h4
       rintro e w8 ⟨rfl,p8,o8⟩
       have P8:=ħ p8
       have T8:=ħ (T7.o.onlyR o8 hR)
       have Q8:=ħ (Q7.o.trans o8)
       clear p8 o8 P7 T7 Q7
       go_wp2_with fail
       cases h5:Zcx ts (i+1+1+1+1) with
       | false =>
        refine (Zed w8 R ao cap ts sz (i+1+1+1+1) P8.o l4 hn HTS.o h5).mono ?_
        rw[Zhd h5] at HV
        clear h5
        rintro e w9 ⟨rfl,o9⟩
        have Q9:=ħ (Q8.o.trans o9)
        clear o9 Q8
        unfold Za0
        go_wp2
        exact⟨rfl,Zas (by rw[HV.o];try rfl) (BO.o.trans Q9.o) rfl⟩
       | true =>
        have HR:Hid (V = .ok ((X++46::Y,-((Zhu ts (i+1+1+1+1):Nat):Int)),i+1+1+1+1+1)):=ħ (by rw[HV.o,Zfm h5];try rfl)
        have hv:=Zdw HTS.o (i+1+1+1+1)
        have e1:IntKind.i64.wrap (-((Zhu ts (i+1+1+1+1):Nat):Int)) = -((Zhu ts (i+1+1+1+1):Nat):Int):=IntWalk.i64_in _ (by omega)
        refine (Zdp w8 R ao cap ts sz (i+1+1+1+1) P8.o hn HTS.o h5).mono ?_
        clear h5 HV hv
        generalize Zhu ts (i+1+1+1+1)=N at *
        rintro e w9 ⟨rfl,p9,o9⟩
        have P9:=ħ p9
        have T9:=ħ (T8.o.onlyR o9 hR)
        have Q9:=ħ (Q8.o.trans o9)
        clear p9 o9 P8 T8 Q8
        have Z9:=ħ (Z0.o.only Q9.o hZR.o)
        go_wp2_with (refine Zab rfl 258 (.tmp 2) (.tmp 49) rfl w.heap.size (Zc2 (X++46::Y,-((N:Nat):Int))).toArray ?s1 ?s2 258 _ Z9.o (Zb7 _) rfl (Zgk _) ?_;(case s1=>rfl);(case s2=>rfl);intro W9 s9 u9;have S9:=ħ s9;have U9:=ħ u9;clear s9 u9)
        exact bodyPost_ret (results_cell_row (p:=2) (by kernel_rfl) _ _ w.heap.size 258 (Zc2 (X++46::Y,-((N:Nat):Int))).toArray (0,0) _ rfl S9.o Tryz.underlying258 rfl (Zb7 _)) rfl (Zba HR.o ((BO.o.trans Q9.o).updNew U9.o (Nat.le_refl _)) rfl rfl (H0.o.upd P9.o U9.o (Nat.le_refl _)))
      | false =>
       rw[if_neg (by rw[h4];simp)] at HV
       refine (Zcd w7 R ao cap ts sz (i+1+1+1) [45] P7.o l3 hn HTS.o (by decide) h4).mono ?_
       have HR:Hid (V = .ok ((X++46::Y,0),i+1+1+1)):=HV
       clear h4
       rintro e w8 ⟨rfl,b8⟩
       have P8:=ħ (P7.o.step b8)
       have Q8:=ħ (Q7.o.step b8)
       have T8:=ħ (T7.o.step b8)
       clear b8 P7 T7 Q7
       have Z8:=ħ (Z0.o.only Q8.o hZR.o)
       go_wp2_with (refine Zab rfl 258 (.tmp 2) (.tmp 51) rfl w.heap.size (Zc2 (X++46::Y,0)).toArray ?s1 ?s2 258 _ Z8.o (Zb7 _) rfl (Zgk _) ?_;(case s1=>rfl);(case s2=>rfl);intro W9 s9 u9;have S9:=ħ s9;have U9:=ħ u9;clear s9 u9)
       exact bodyPost_ret (results_cell_row (p:=2) (by kernel_rfl) _ _ w.heap.size 258 (Zc2 (X++46::Y,0)).toArray (0,0) _ rfl S9.o Tryz.underlying258 rfl (Zb7 _)) rfl (Zba HR.o ((BO.o.trans Q8.o).updNew U9.o (Nat.le_refl _)) rfl rfl (H0.o.upd P8.o U9.o (Nat.le_refl _)))
 | false =>
  clear KD
  go_wp2_with (refine Zab rfl 169 (.tmp 3) (.tmp 15) rfl w2.heap.size (Zbw T).toArray ?s1 ?s2 169 _ (heap_alloc_new w2 _) (Zay _) rfl (Zbe _) ?_;(case s1=>rfl);(case s2=>rfl);intro w3 s2 u2;have S2:Hid (Zgj w3 w2.heap.size T):=ħ s2;have C2:=ħ (u2.below A2.o (Nat.le_refl _));clear s2 u2;obtain⟨q0,q1,q2,q3⟩:=S2.o.cells;clear q1 q2 q3;rw[K1.o] at q0)
  have P3:=ħ (P2.o.step C2.o)
  have Q3:=ħ (Q2.o.step C2.o)
  have T3:=ħ (T2.o.step C2.o)
  clear P2 Q2 T2
  cases h1:Zd8 ts i with
  | false =>
   refine (Zm0 w3 R ao cap ts sz i B T3.o P3.o hi hn HTS.o h1).mono ?_
   rw[Zlm h1] at HV
   clear h1
   rintro e w4 ⟨rfl,o4⟩
   have Q4:=ħ (Q3.o.trans o4)
   clear o4 Q3
   unfold Za0
   go_wp2
   exact⟨rfl,Zas (by rw[HV.o];try rfl) (BO.o.trans Q4.o) rfl⟩
  | true =>
   have l1:=Zew h1
   have L1:=ħ (Zff h1)
   rw[Zja h1] at HV
   simp only[Except.bind] at HV
   refine (Zmz w3 R ao cap ts sz i B T3.o P3.o hn HTS.o h1).mono ?_
   clear h1
   rintro e w4 ⟨rfl,p4,o4⟩
   have P4:=ħ p4
   have T4:=ħ (T3.o.onlyR o4 hR)
   have Q4:=ħ (Q3.o.trans o4)
   clear p4 o4 P3 T3 Q3
   go_wp2_with fail
   cases h2:isP ts [46] (i+1) with
   | false =>
    refine (Zfv w4 R ao cap ts sz (i+1) [46] P4.o l1 hn HTS.o (by decide) h2).mono ?_
    rw[Zeo h2] at HV
    clear h2
    rintro e w5 ⟨rfl,o5⟩
    have Q5:=ħ (Q4.o.trans o5)
    clear o5 Q4
    unfold Za0
    go_wp2
    exact⟨rfl,Zas (by rw[HV.o];try rfl) (BO.o.trans Q5.o) rfl⟩
   | true =>
    have l2:=Zbv h2
    rw[Zdq h2] at HV
    simp only[Except.bind] at HV
    refine (Zfu w4 R ao cap ts sz (i+1) [46] P4.o hn HTS.o (by decide) h2).mono ?_
    clear h2
    rintro e w5 ⟨rfl,p5,o5⟩
    have P5:=ħ p5
    have T5:=ħ (T4.o.onlyR o5 hR)
    have Q5:=ħ (Q4.o.trans o5)
    clear p5 o5 P4 T4 Q4
    go_wp2_with fail
    cases h3:Zd8 ts (i+1+1) with
    | false =>
     refine (Zm0 w5 R ao cap ts sz (i+1+1) B T5.o P5.o l2 hn HTS.o h3).mono ?_
     rw[Zlm h3] at HV
     clear h3
     rintro e w6 ⟨rfl,o6⟩
     have Q6:=ħ (Q5.o.trans o6)
     clear o6 Q5
     unfold Za0
     go_wp2
     exact⟨rfl,Zas (by rw[HV.o];try rfl) (BO.o.trans Q6.o) rfl⟩
    | true =>
     have l3:=Zew h3
     rw[Zja h3] at HV
     simp only[Except.bind] at HV
     refine (Zmz w5 R ao cap ts sz (i+1+1) B T5.o P5.o hn HTS.o h3).mono ?_
     have d1:=Z1u (Zhz ts (i+1+1))
     have d2:=Ze3 (Zhz ts i) (46::Zhz ts (i+1+1))
     have z1:¬ 9223372036854775807<1+(Zad (Zhz ts (i+1+1))).size:=by rw[Zaq];have:=Zff h3;omega
     have z2:¬ 9223372036854775807<(Zad (Zhz ts i)).size+(Zad (46::Zhz ts (i+1+1))).size:=by rw[Zaq,Zaq,List.length_cons];have:=Zff h3;have:=L1.o;omega
     clear h3 L1
     generalize Zhz ts i=X at *
     generalize Zhz ts (i+1+1)=Y at *
     rintro e w6 ⟨rfl,p6,o6⟩
     have P6:=ħ p6
     have T6:=ħ (T5.o.onlyR o6 hR)
     have Q6:=ħ (Q5.o.trans o6)
     clear p6 o6 P5 T5 Q5
     go_wp2_with fail
     cases h4:isP ts [43] (i+1+1+1) with
     | true =>
      have l4:=Zbv h4
      rw[if_pos h4] at HV
      refine (Zbt w6 R ao cap ts sz (i+1+1+1) [43] P6.o hn HTS.o (by decide) h4).mono ?_
      clear h4
      rintro e w7 ⟨rfl,p7,o7⟩
      have P7:=ħ p7
      have T7:=ħ (T6.o.onlyR o7 hR)
      have Q7:=ħ (Q6.o.trans o7)
      clear p7 o7 P6 T6 Q6
      go_wp2_with fail
      cases h5:Zcx ts (i+1+1+1+1) with
      | false =>
       refine (Zed w7 R ao cap ts sz (i+1+1+1+1) P7.o l4 hn HTS.o h5).mono ?_
       rw[Zhd h5] at HV
       clear h5
       rintro e w8 ⟨rfl,o8⟩
       have Q8:=ħ (Q7.o.trans o8)
       clear o8 Q7
       unfold Za0
       go_wp2
       exact⟨rfl,Zas (by rw[HV.o];try rfl) (BO.o.trans Q8.o) rfl⟩
      | true =>
       have HR:Hid (V = .ok ((X++46::Y,((Zhu ts (i+1+1+1+1):Nat):Int)),i+1+1+1+1+1)):=ħ (by rw[HV.o,Zfm h5];try rfl)
       refine (Zdp w7 R ao cap ts sz (i+1+1+1+1) P7.o hn HTS.o h5).mono ?_
       clear h5 HV
       generalize Zhu ts (i+1+1+1+1)=N at *
       rintro e w8 ⟨rfl,p8,o8⟩
       have P8:=ħ p8
       have T8:=ħ (T7.o.onlyR o8 hR)
       have Q8:=ħ (Q7.o.trans o8)
       clear p8 o8 P7 T7 Q7
       have Z8:=ħ (Z0.o.only Q8.o hZR.o)
       go_wp2_with (refine Zab rfl 258 (.tmp 2) (.tmp 41) rfl w.heap.size (Zc2 (X++46::Y,((N:Nat):Int))).toArray ?s1 ?s2 258 _ Z8.o (Zb7 _) rfl (Zgk _) ?_;(case s1=>rfl);(case s2=>rfl);intro W9 s9 u9;have S9:=ħ s9;have U9:=ħ u9;clear s9 u9)
       exact bodyPost_ret (results_cell_row (p:=2) (by kernel_rfl) _ _ w.heap.size 258 (Zc2 (X++46::Y,((N:Nat):Int))).toArray (0,0) _ rfl S9.o Tryz.underlying258 rfl (Zb7 _)) rfl (Zba HR.o ((BO.o.trans Q8.o).updNew U9.o (Nat.le_refl _)) rfl rfl (H0.o.upd P8.o U9.o (Nat.le_refl _)))
     | false =>
      rw[if_neg (by rw[h4];simp)] at HV
      refine (Zcd w6 R ao cap ts sz (i+1+1+1) [43] P6.o l3 hn HTS.o (by decide) h4).mono ?_
      clear h4
      rintro e w7 ⟨rfl,b7⟩
      have P7:=ħ (P6.o.step b7)
      have Q7:=ħ (Q6.o.step b7)
      have T7:=ħ (T6.o.step b7)
      clear b7 P6 T6 Q6
      go_wp2_with fail
      cases h4:isP ts [45] (i+1+1+1) with
      | true =>
       have l4:=Zbv h4
       rw[if_pos h4] at HV
       refine (Zbt w7 R ao cap ts sz (i+1+1+1) [45] P7.o hn HTS.o (by decide) h4).mono ?_
       clear h4
       rintro e w8 ⟨rfl,p8,o8⟩
       have P8:=ħ p8
       have T8:=ħ (T7.o.onlyR o8 hR)
       have Q8:=ħ (Q7.o.trans o8)
       clear p8 o8 P7 T7 Q7
       go_wp2_with fail
       cases h5:Zcx ts (i+1+1+1+1) with
       | false =>
        refine (Zed w8 R ao cap ts sz (i+1+1+1+1) P8.o l4 hn HTS.o h5).mono ?_
        rw[Zhd h5] at HV
        clear h5
        rintro e w9 ⟨rfl,o9⟩
        have Q9:=ħ (Q8.o.trans o9)
        clear o9 Q8
        unfold Za0
        go_wp2
        exact⟨rfl,Zas (by rw[HV.o];try rfl) (BO.o.trans Q9.o) rfl⟩
       | true =>
        have HR:Hid (V = .ok ((X++46::Y,-((Zhu ts (i+1+1+1+1):Nat):Int)),i+1+1+1+1+1)):=ħ (by rw[HV.o,Zfm h5];try rfl)
        have hv:=Zdw HTS.o (i+1+1+1+1)
        have e1:IntKind.i64.wrap (-((Zhu ts (i+1+1+1+1):Nat):Int)) = -((Zhu ts (i+1+1+1+1):Nat):Int):=IntWalk.i64_in _ (by omega)
        refine (Zdp w8 R ao cap ts sz (i+1+1+1+1) P8.o hn HTS.o h5).mono ?_
        clear h5 HV hv
        generalize Zhu ts (i+1+1+1+1)=N at *
        rintro e w9 ⟨rfl,p9,o9⟩
        have P9:=ħ p9
        have T9:=ħ (T8.o.onlyR o9 hR)
        have Q9:=ħ (Q8.o.trans o9)
        clear p9 o9 P8 T8 Q8
        have Z9:=ħ (Z0.o.only Q9.o hZR.o)
        go_wp2_with (refine Zab rfl 258 (.tmp 2) (.tmp 49) rfl w.heap.size (Zc2 (X++46::Y,-((N:Nat):Int))).toArray ?s1 ?s2 258 _ Z9.o (Zb7 _) rfl (Zgk _) ?_;(case s1=>rfl);(case s2=>rfl);intro W9 s9 u9;have S9:=ħ s9;have U9:=ħ u9;clear s9 u9)
        exact bodyPost_ret (results_cell_row (p:=2) (by kernel_rfl) _ _ w.heap.size 258 (Zc2 (X++46::Y,-((N:Nat):Int))).toArray (0,0) _ rfl S9.o Tryz.underlying258 rfl (Zb7 _)) rfl (Zba HR.o ((BO.o.trans Q9.o).updNew U9.o (Nat.le_refl _)) rfl rfl (H0.o.upd P9.o U9.o (Nat.le_refl _)))
      | false =>
       rw[if_neg (by rw[h4];simp)] at HV
       refine (Zcd w7 R ao cap ts sz (i+1+1+1) [45] P7.o l3 hn HTS.o (by decide) h4).mono ?_
       have HR:Hid (V = .ok ((X++46::Y,0),i+1+1+1)):=HV
       clear h4
       rintro e w8 ⟨rfl,b8⟩
       have P8:=ħ (P7.o.step b8)
       have Q8:=ħ (Q7.o.step b8)
       have T8:=ħ (T7.o.step b8)
       clear b8 P7 T7 Q7
       have Z8:=ħ (Z0.o.only Q8.o hZR.o)
       go_wp2_with (refine Zab rfl 258 (.tmp 2) (.tmp 51) rfl w.heap.size (Zc2 (X++46::Y,0)).toArray ?s1 ?s2 258 _ Z8.o (Zb7 _) rfl (Zgk _) ?_;(case s1=>rfl);(case s2=>rfl);intro W9 s9 u9;have S9:=ħ s9;have U9:=ħ u9;clear s9 u9)
       exact bodyPost_ret (results_cell_row (p:=2) (by kernel_rfl) _ _ w.heap.size 258 (Zc2 (X++46::Y,0)).toArray (0,0) _ rfl S9.o Tryz.underlying258 rfl (Zb7 _)) rfl (Zba HR.o ((BO.o.trans Q8.o).updNew U9.o (Nat.le_refl _)) rfl rfl (H0.o.upd P8.o U9.o (Nat.le_refl _)))
theorem Z1w (w:World) (R:Nat) (ao:Option Addr) (cap:Nat) (ts:List Tok) (sz i B:Nat) (hT:Tab w B) (hR:B≤R) (h:ParW w R ao cap ts sz i) (hi:i≤ts.length) (hn:ts.length≤1000000) (hts:∀ t∈ts,TokOk t) :
  Calls Tryz.prog 245 #[.pointer (some ⟨R,0,none⟩)] w fun e w'=>Z8r w R ao cap ts sz (Znc ts sz i) e w':=by
 cases hm:isP ts [45] i with
 | true=>exact Z1v w R ao cap ts sz i B hT hR h hi hn hts hm
 | false =>
  cases hk:Zcx ts i with
  | true=>exact Z7i w R ao cap ts sz i B hT hR h hi hn hts hm hk
  | false=>exact Z5f w R ao cap ts sz i B hT hR h hi hn hts hm hk
end
end Go.Proofs.YtmkdfbelbcocpaaGreatDoor
