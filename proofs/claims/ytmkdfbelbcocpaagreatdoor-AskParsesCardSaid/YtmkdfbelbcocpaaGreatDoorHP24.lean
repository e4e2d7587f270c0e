import Derived.Deep.Quiet
import Derived.Lib.QuietBelow
import Derived.Test.YtmkdfbelbcocpaaGreatDoorHP23
import Derived.Test.YtmkdfbelbcocpaaGreatDoorHP13
import Derived.Shelf.SlSortCmp.Whole1
import Derived.Shelf.SlSortCmp.NoneTotal
import Derived.Test.YtmkdfbelbcocpaaGreatDoorShelf
set_option linter.unusedVariables false
set_option linter.unusedSimpArgs false
set_option maxHeartbeats 8000000
set_option maxRecDepth 100000
namespace Go.Proofs.YtmkdfbelbcocpaaGreatDoor
section
open Go.RowKit Go.Sort
theorem cmpI_zero (a b:Int):cmpI a b=0↔a=b:=by
 unfold cmpI
 by_cases h1:a<b
 ·rw[if_pos h1]
  exact⟨fun h=>absurd h (by decide),fun h=>by omega⟩
 ·rw[if_neg h1]
  by_cases h2:a=b
  ·rw[if_pos h2];exact⟨fun _=>h2,fun _=>rfl⟩
  ·rw[if_neg h2];exact⟨fun h=>absurd h (by decide),fun h=>absurd h h2⟩
theorem cmpK_zero (a b:Ky):cmpK a b=0↔a=b:=by
 unfold cmpK or3
 by_cases h1:a.l=b.l
 ·rw[if_neg (by simp[(cmpL_zero _ _).2 h1])]
  by_cases h2:a.r=b.r
  ·rw[if_neg (by simp[(cmpL_zero _ _).2 h2]),cmpI_zero]
   constructor
   ·intro h;cases a;cases b;simp_all
   ·intro h;rw[h]
  ·have:=fun h=>h2 ((cmpL_zero _ _).1 h)
   rw[if_pos this]
   exact⟨fun h=>absurd h this,fun h=>absurd (by rw[h]) h2⟩
 ·have:=fun h=>h1 ((cmpL_zero _ _).1 h)
  rw[if_pos this]
  exact⟨fun h=>absurd h this,fun h=>absurd (by rw[h]) h1⟩
theorem asc_found {l:List Ky} (hl:AscK l) {x:Ky} {i:Nat} (hlo:∀ m k,m<i→l[m]?=some k→ltK k x=true) (hhi:∀ m k,i≤m→l[m]?=some k→ltK k x=false) (hx:x∈l):l[i]?=some x:=by
 obtain⟨m,hm⟩:=List.mem_iff_getElem?.1 hx
 rcases Nat.lt_trichotomy m i with h | rfl | h
 ·have:=hlo m x h hm
  rw[ltK_irrefl] at this
  cases this
 ·exact hm
 ·have hml:=(List.getElem?_eq_some_iff.1 hm).1
  have hil:i<l.length:=by omega
  have h1:=List.pairwise_iff_getElem.1 hl i m hil hml h
  rw[(List.getElem?_eq_some_iff.1 hm).2] at h1
  have h2:=hhi i l[i] (Nat.le_refl _) (List.getElem?_eq_getElem hil)
  rw[h1] at h2
  cases h2
theorem regr {f:FuncId} {args:Array Value} {v:Value} (w:World) (h:∀ W:World,Below w.heap.size w W→Calls Tryz.prog f args W fun e w'=>e = .returned v∧Below W.heap.size W w') (d:Nat) (os:Array Obj) :
  Calls Tryz.prog f args (grow (redrawn w d) os) fun e w''=>e = .returned v∧∃ p:Regrown,w''=grow (redrawn w p.d) p.os :=
 Calls.regrown_of (h _ (below_regrown w d os))
theorem kbin_any (w:World) (ao:Option Addr) (n cp:Nat) (l:List Ky) (x:Ky) (hn:n=l.length) (h:KeysR w ao l) (hb:∀ k∈l,KyB k) (hx:KyB x) (hl:AscK l) (hbig:n≤1000000) :
  Calls Tryz.prog 226 #[.slice ao n cp,.agg (kyC x).toArray,.func (.func 159) #[] #[]] w fun e w'=>(∃ i:Nat,i≤n∧e = .returned (.tuple #[.int .i64 (i:Int),.bool (decide (x∈l))])∧(x∈l→l[i]?=some x))∧Below w.heap.size w w':=by
 have H:=ħ h
 have HN:=ħ hn
 have HB:=ħ hb
 have HL:=ħ hl
 have b1:=(Below.refl w.heap.size w).alloc (Nat.le_refl _) (.cells (kyC x).toArray 123)
 have B1:=ħ b1
 have X1:Hid (HasV (w.alloc (.cells (kyC x).toArray 123)) w.heap.size 123 (kyC x)):=ħ (heap_alloc_new w _)
 have HC:=ħ (fun k hk w=>kcmp_b k x w (hb k hk) hx)
 obtain⟨D,hD⟩:∃ D,decide (x∈l)=D:=⟨_,rfl⟩
 have HD:=ħ hD
 rw[hD]
 clear h hn hb hl hx b1 hD
 have HKX:Hid (kyC x=[.string (strN x.l),.string (strN x.r),.int .i64 x.c]):=ħ rfl
 rw[HKX.o] at B1 X1
 simp only[HKX.o] at HC ⊢
 generalize strN x.l=x1 at *
 generalize strN x.r=x2 at *
 generalize x.c=x3 at *
 go_enter Tryz.func226,Tryz.ntmps226
 go_upto_region 1 with (fail)
 generalize w.alloc (.cells #[.string x1,.string x2,.int .i64 x3] 123)=w1 at *
 go_wp2_with fail
 go_loopw [9,10] (fun ii jj wr=>∃ (i j:Nat),ii = .int .i64 i∧jj = .int .i64 j∧i≤j∧j≤n∧Hid (∀ m k,m<i→l[m]?=some k→ltK k x=true)∧Hid (∀ m k,j≤m→l[m]?=some k→ltK k x=false)∧Hid (Below w.heap.size w wr)∧Hid (HasV wr w.heap.size 123 [.string x1,.string x2,.int .i64 x3])) (fun i j _=>(intOf j-intOf i).toNat)
 case atStart=>exact⟨0,n,rfl,rfl,by omega,by omega,ħ (fun m k hm=>absurd hm (Nat.not_lt_zero m)),ħ (fun m k hm hk=>by
  have:=(List.getElem?_eq_some_iff.1 hk).1
  rw[← HN.o] at this;omega),B1,X1⟩
 case round =>
  clear B1 X1
  obtain⟨i,j,rfl,rfl,hij,hj,hlo,hhi,hw,hX⟩:=hrel
  by_cases hlt:i<j
  ·have ij:(i:Int)<j:=by omega
   have e1:IntKind.i64.wrap ((i:Int)+j)=((i+j:Nat):Int):=IntWalk.i64_in _ (by omega)
   go_upto_region 5 with (fail)
   obtain⟨m,hm⟩:∃ m:Nat,((i:Int)+j)/2=(m:Int):=⟨(i+j)/2,by omega⟩
   rw[hm]
   have him:i≤m:=by omega
   have hmj:m<j:=by omega
   have mn:(m:Int)<n:=by omega
   clear hm
   have HK:Hid (∃ k,l[m]?=some k):=ħ (by have:m<l.length:=(by rw[← HN.o];omega);exact⟨l[m],List.getElem?_eq_getElem this⟩)
   obtain⟨k,hk⟩:=HK.o
   have HKI:=ħ hk
   obtain⟨g,off,hao,hg,s0,s1,s2⟩:=(H.o.below hw.o).at m k hk
   have HAO:=ħ hao
   subst hao
   have HCK:=ħ (HC.o k (List.mem_of_getElem? hk))
   have HV:Hid (ltK k x=decide (cmpK k x<0)):=ħ rfl
   generalize hcx:cmpK k x=cx at *
   clear hcx hk HK e1
   have HG:=ħ hg
   unfold kyC at HCK
   generalize strN k.l=k1 at *
   generalize strN k.r=k2 at *
   generalize k.c=k3 at *
   have HS:=ħ (And.intro s0 (And.intro s1 s2))
   clear s0 s1 s2
   refine wp_region_pickS [0,1,2,3,4,5] [6,7] (fun w'=>Below wr.heap.size wr w') (by kernel_rfl) (by kernel_rfl) (by kernel_rfl) (fun _ _ d _ _ h=>by cases d<;>exact h) (Below.refl wr.heap.size wr).drew ?_
   simp only[pickI,List.filterMap_cons,List.filterMap_nil,List.getElem?_cons_zero,List.getElem?_cons_succ,Option.map_some,List.map_cons,List.map_nil]
   apply Exists.intro
   refine⟨?hh,?ht⟩
   case hh =>
    intro w' hw'
    have c0:w'.cell? ⟨g,off+m*3,none⟩=some (.string k1):=(hw'.cell (p:=⟨g,off+m*3,none⟩) HG.o).trans HS.o.1
    have c1:w'.cell? ⟨g,off+m*3+1,none⟩=some (.string k2):=(hw'.cell (p:=⟨g,off+m*3+1,none⟩) HG.o).trans HS.o.2.1
    have c2:w'.cell? ⟨g,off+m*3+2,none⟩=some (.int .i64 k3):=(hw'.cell (p:=⟨g,off+m*3+2,none⟩) HG.o).trans HS.o.2.2
    have d0:=(hX.o.step hw').cell 0 _ rfl
    have d1:=(hX.o.step hw').cell 1 _ rfl
    have d2:=(hX.o.step hw').cell 2 _ rfl
    clear hw'
    repeat still_step
    exact wpStill_nil rfl
   case ht =>
    have BD:=ħ (Below.refl wr.heap.size wr).drew
    generalize wr.drew=wd at *
    refine wpTailS_cons ?_
    go_wp2_with fail
    refine (HCK.o wd).mono ?_
    rintro e w2 ⟨rfl,b2⟩
    have B2:=ħ (BD.o.trans (b2.below.mono BD.o.size))
    clear b2
    go_wp2_with fail
    refine postOf_normal ⟨B2.o,?_⟩
    refine wpTailS_cons ?_
    have HW:=ħ (hw.o.trans (B2.o.mono hw.o.size))
    have HX2:=ħ (hX.o.step B2.o)
    have e2:IntKind.i64.wrap ((m:Int)+1)=((m+1:Nat):Int):=IntWalk.i64_in _ (by omega)
    by_cases hc:cx<0
    ·have HLT:Hid (ltK k x=true):=ħ (by rw[HV.o];exact decide_eq_true hc)
     go_wp2_with fail
     refine postOf_normal ⟨B2.o,?_⟩
     unfold wpTailS
     go_wp2
     go_roundw
     case rel=>exact⟨m+1,j,by go_num,rfl,by omega,by omega,ħ (fun m' k' hm' hk'=>by
      rcases Nat.lt_or_ge m' m with h | h
      ·have h1:=List.pairwise_iff_getElem.1 HL.o m' m (List.getElem?_eq_some_iff.1 hk').1 (List.getElem?_eq_some_iff.1 HKI.o).1 h
       rw[(List.getElem?_eq_some_iff.1 hk').2,(List.getElem?_eq_some_iff.1 HKI.o).2] at h1
       exact ltK_trans _ _ _ h1 HLT.o
      ·obtain rfl:m'=m:=by omega
       rw[HKI.o] at hk'
       obtain rfl:=Option.some.inj hk'
       exact HLT.o),hhi,HW,HX2⟩
     case measure=>simp only[intOf];omega
    ·have HLT:Hid (ltK k x=false):=ħ (by rw[HV.o];exact decide_eq_false hc)
     go_wp2_with fail
     refine postOf_normal ⟨B2.o,?_⟩
     unfold wpTailS
     go_wp2
     go_roundw
     case rel=>exact⟨i,m,rfl,rfl,by omega,by omega,hlo,ħ (fun m' k' hm' hk'=>by
      rcases Nat.lt_or_ge m m' with h | h
      ·have h1:=List.pairwise_iff_getElem.1 HL.o m m' (List.getElem?_eq_some_iff.1 HKI.o).1 (List.getElem?_eq_some_iff.1 hk').1 h
       rw[(List.getElem?_eq_some_iff.1 hk').2,(List.getElem?_eq_some_iff.1 HKI.o).2] at h1
       rw[Bool.eq_false_iff]
       intro h2
       have:=ltK_trans _ _ _ h1 h2
       rw[HLT.o] at this
       cases this
      ·obtain rfl:m'=m:=by omega
       rw[HKI.o] at hk'
       obtain rfl:=Option.some.inj hk'
       exact HLT.o),HW,HX2⟩
     case measure=>simp only[intOf];omega
  ·obtain rfl:i=j:=by omega
   have ij:¬ ((i:Int)<(i:Int)):=by omega
   by_cases hin:i<n
   ·have bi:(i:Int)<n:=by omega
    have bib:decide ((i:Int)<n)=true:=decide_eq_true bi
    have bic:decide (i<n)=true:=decide_eq_true hin
    have HK:Hid (∃ k,l[i]?=some k):=ħ (by have:i<l.length:=(by rw[← HN.o];omega);exact⟨l[i],List.getElem?_eq_getElem this⟩)
    obtain⟨k,hk⟩:=HK.o
    have HKI:=ħ hk
    obtain⟨g,off,hao,hg,s0,s1,s2⟩:=(H.o.below hw.o).at i k hk
    have HAO:=ħ hao
    subst hao
    have HCK:=ħ (HC.o k (List.mem_of_getElem? hk))
    have HV:=ħ (cmpK_zero k x)
    generalize cmpK k x=cx at *
    clear hk HK
    have HG:=ħ hg
    have HFIN:Hid (D=(cx==0)∧(x∈l→l[i]?=some x)):=ħ (by
     have hf:=fun hx=>asc_found HL.o hlo.o hhi.o hx
     refine⟨?_,hf⟩
     rw[← HD.o,Bool.eq_iff_iff,decide_eq_true_iff,beq_iff_eq,HV.o]
     constructor
     ·intro hx
      have:=hf hx
      rw[HKI.o] at this
      exact Option.some.inj this
     ·intro h
      rw[← h];exact List.mem_of_getElem? HKI.o)
    unfold kyC at HCK
    generalize strN k.l=k1 at *
    generalize strN k.r=k2 at *
    generalize k.c=k3 at *
    have HS:=ħ (And.intro s0 (And.intro s1 s2))
    clear s0 s1 s2
    go_upto_region 8 with (fail)
    have k0:=cell_regrown HS.o.1
    have k1':=cell_regrown HS.o.2.1
    have k2':=cell_regrown HS.o.2.2
    have x0:=cell_regrown (hX.o.cell 0 _ rfl)
    have x1':=cell_regrown (hX.o.cell 1 _ rfl)
    have x2':=cell_regrown (hX.o.cell 2 _ rfl)
    have r1:=regr wr (fun w _=>(HCK.o w).mono (fun e w' h=>⟨h.1,h.2.below⟩))
    refine wp_region_quiet_below (by kernel_rfl) (by kernel_rfl) ?_
    repeat (quiet_step (with_reducible (exact r1 _ _)))
    refine wpQuiet_nil ?_
    intro _ hw'
    obtain⟨⟨dq,osq⟩,hw''⟩:=hw'
    subst hw''
    have B3:=ħ (hw.o.trans ((below_regrown wr dq osq).mono hw.o.size))
    clear k0 k1' k2' x0 x1' x2' r1
    generalize grow (redrawn wr dq) osq=wy at *
    go_wp2
    go_ret2
    exact⟨⟨i,by omega,by rw[HFIN.o.1];rfl,HFIN.o.2⟩,B3.o⟩
   ·have bi:¬ ((i:Int)<n):=by omega
    have bib:decide ((i:Int)<n)=false:=decide_eq_false bi
    have bic:decide (i<n)=false:=decide_eq_false hin
    have HFIN:Hid (D=false∧(x∈l→l[i]?=some x)):=ħ (by
     have hf:=fun hx=>asc_found HL.o hlo.o hhi.o hx
     refine⟨?_,hf⟩
     rw[← HD.o,decide_eq_false_iff_not]
     intro hx
     have:=(List.getElem?_eq_some_iff.1 (hf hx)).1
     rw[← HN.o] at this
     omega)
    go_upto_region 8 with (fail)
    go_quiet (fail)
    have HB:=ħ (hw.o.trans ((below_drewN (Below.refl wr.heap.size wr) nq).mono hw.o.size))
    clear hin bi
    generalize wr.drewN nq=wd at *
    go_wp2
    go_ret2
    exact⟨⟨i,by omega,by rw[HFIN.o.1];rfl,HFIN.o.2⟩,HB.o⟩
end
section
open Go.RowKit Go.Sort
def inSet (l:List Ky) (set:Nat) (k:Ky):Bool:=match l.findIdx? (fun x=>x==k) with
 | some i=>set.testBit i
 | none=>decide (0≤k.c)
theorem find_at {l:List Ky} (hl:AscK l) {k:Ky} {i:Nat} (h:l[i]?=some k):l.findIdx? (fun x=>x==k)=some i:=by
 have hi:=(List.getElem?_eq_some_iff.1 h).1
 have hk:=(List.getElem?_eq_some_iff.1 h).2
 rw[List.findIdx?_eq_some_iff_getElem]
 refine⟨hi,by simp[hk],fun j hj=>?_⟩
 have h1:=List.pairwise_iff_getElem.1 hl j i (by omega) hi hj
 rw[hk] at h1
 have hne:l[j]≠k:=fun e=>by rw[e,ltK_irrefl] at h1;cases h1
 simpa using hne
theorem bit_all:∀ s:Fin 256,∀ i:Fin 9,(bits .and .i64 (((s:Nat):Int)/2^(i:Nat)) 1==1)=(s:Nat).testBit (i:Nat):=by decide +kernel
theorem bit_at {s i:Nat} (hs:s<256) (hi:i≤8):(bits .and .i64 ((s:Int)/2^i) 1==1)=s.testBit i:=bit_all ⟨s,hs⟩ ⟨i,by omega⟩
structure SetB (A X:Nat) (ao:Option Addr) (cp:Nat) (l:List Ky) (set:Nat) (w:World):Prop where
 bl:HasV w A 120 [.slice ao l.length cp]
 bs:HasV w X 3 [.int .i64 (set:Int)]
 keys:KeysR w ao l
theorem SetB.step {A X cp set:Nat} {ao:Option Addr} {l:List Ky} {w w':World} (h:SetB A X ao cp l set w) (hb:Below w.heap.size w w'):SetB A X ao cp l set w' :=
 ⟨h.bl.step hb,h.bs.step hb,h.keys.below hb⟩
theorem clau1_any (A X cp set:Nat) (ao:Option Addr) (l:List Ky) (k:Ky) (w:World) (h:SetB A X ao cp l set w) (hb:∀ k∈l,KyB k) (hk:KyB k) (hl:AscK l) (hn:l.length≤8) (hset:set<256) :
  Calls Tryz.prog 225 #[.agg (kyC k).toArray,.pointer (some ⟨A,0,none⟩),.pointer (some ⟨X,0,none⟩)] w fun e w'=>e = .returned (.bool (inSet l set k))∧Below w.heap.size w w':=by
 have bx:=(Below.refl w.heap.size w).alloc (Nat.le_refl _) (.cells (kyC k).toArray 123)
 have B1:=ħ bx
 have H1:=ħ (h.step bx)
 have HB:=ħ (fun w h=>kbin_any w ao l.length cp l k rfl h hb hk hl (by omega))
 have HL:=ħ hl
 have HKA:=ħ (hb)
 obtain⟨V,hV⟩:∃ V,inSet l set k=V:=⟨_,rfl⟩
 have HV:=ħ hV
 rw[hV]
 have X1:Hid (HasV (w.alloc (.cells (kyC k).toArray 123)) w.heap.size 123 (kyC k)):=ħ (heap_alloc_new w _)
 obtain⟨D,hD⟩:∃ D,decide (k∈l)=D:=⟨_,rfl⟩
 have HD:=ħ hD
 clear h hb hk hl bx hV
 have HN:=ħ hn
 obtain⟨n,hnn⟩:∃ n,l.length=n:=⟨_,rfl⟩
 have HNN:=ħ hnn
 clear hn
 simp only[hD,hnn] at HB
 clear hD
 have HKX:Hid (kyC k=[.string (strN k.l),.string (strN k.r),.int .i64 k.c]):=ħ rfl
 rw[HKX.o] at B1 X1 H1 ⊢
 simp only[HKX.o] at HB
 obtain⟨c3,hc3⟩:∃ c3,k.c=c3:=⟨_,rfl⟩
 have HC3:=ħ hc3
 rw[hc3] at B1 X1 H1 HB ⊢
 clear hc3
 generalize strN k.l=k1 at *
 generalize strN k.r=k2 at *
 go_enter Tryz.func225,Tryz.ntmps225
 go_upto_region 1 with (fail)
 generalize w.alloc (.cells #[.string k1,.string k2,.int .i64 c3] 123)=w1 at *
 have b0:=H1.o.bl.cell 0 _ rfl
 have s0:=H1.o.bs.cell 0 _ rfl
 have x0:=X1.o.cell 0 _ rfl
 have x1:=X1.o.cell 1 _ rfl
 have x2:=X1.o.cell 2 _ rfl
 rw[hnn] at b0
 clear hnn
 go_wp2_with fail
 refine (HB.o w1 H1.o.keys).mono ?_
 rintro e w2 ⟨⟨i,hi,rfl,hf⟩,b2⟩
 have B2:=ħ (B1.o.trans (b2.mono B1.o.size))
 have c2:=(X1.o.step b2).cell 2 _ rfl
 have t0:=(H1.o.bs.step b2).cell 0 _ rfl
 have HF:=ħ hf
 clear b2 b0 s0 x0 x1 x2 hf
 cases hd:D with
 | true =>
  rw[hd] at HD
  clear hd
  have hi8:i≤8:=by have:=HN.o;have:=HNN.o;omega
  have HX:Hid (V=set.testBit i):=ħ (by
   rw[← HV.o]
   unfold inSet
   rw[find_at HL.o (HF.o (of_decide_eq_true HD.o))])
  go_wp2
  go_ret
  exact⟨ret_bool (by rw[HX.o];exact bit_at hset hi8),B2.o⟩
 | false =>
  rw[hd] at HD
  clear hd
  have HX:Hid (V=decide (0≤c3)):=ħ (by
   rw[← HV.o]
   unfold inSet
   have:l.findIdx? (fun x=>x==k)=none:=by
    rw[List.findIdx?_eq_none_iff]
    intro x hx
    have hk:=of_decide_eq_false HD.o
    simp only[beq_eq_false_iff_ne]
    rintro rfl
    exact hk hx
   rw[this,HC3.o])
  by_cases hc:0≤c3
  ·have hcb:decide (0≤c3)=true:=decide_eq_true hc
   clear hc
   go_wp2
   go_ret
   exact⟨ret_bool (by rw[HX.o,hcb]),B2.o⟩
  ·have hcb:decide (0≤c3)=false:=decide_eq_false hc
   clear hc
   go_wp2
   go_ret
   exact⟨ret_bool (by rw[HX.o,hcb]),B2.o⟩
end
section
def pickU (l:List Ky) (set:Nat):Nat→List Ky
 | 0=>[]
 | j+1=>pickU l set j++(match l[j]? with | some k=>(if set.testBit j=true then [k] else []) | none=>[])
def primeU (t:Nat→Bool) (set others:Nat):Nat→Bool
 | 0=>true
 | j+1=>primeU t set others j&&(!set.testBit j||t (others+2^j))
def outU (t:Nat→Bool) (l:List Ky):Nat→List (List Ky)
 | 0=>[]
 | s+1=>outU t l s++(if (!t (2^l.length-1-s)&&primeU t s (2^l.length-1-s) l.length)=true then [pickU l s l.length] else [])
theorem cmpK_anti (a b:Ky):cmpK a b<0↔0<cmpK b a:=by
 have h1:cmpK a b<0↔ltK a b=true:=by unfold ltK;rw[decide_eq_true_eq]
 have h2:cmpK b a<0↔ltK b a=true:=by unfold ltK;rw[decide_eq_true_eq]
 rcases ltK_total a b with h | rfl | h
 ·refine⟨fun _=>?_,fun _=>h1.2 h⟩
  have h3:¬ cmpK b a<0:=fun h4=>by
   have:=ltK_trans _ _ _ h (h2.1 h4)
   rw[ltK_irrefl] at this;cases this
  have h4:cmpK b a≠0:=fun h4=>by
   have:=(cmpK_zero b a).1 h4
   subst this
   rw[ltK_irrefl] at h;cases h
  omega
 ·have:cmpK a a=0:=(cmpK_zero a a).2 rfl
  omega
 ·have h3:=h2.2 h
  constructor
  ·intro h4
   have:=ltK_trans _ _ _ h (h1.1 h4)
   rw[ltK_irrefl] at this;cases this
  ·intro h4;omega
theorem cmpKL_zero:∀ a b:List Ky,cmpKL a b=0↔a=b
 | [],[]=>by simp[cmpKL]
 | [],_::_=>by simp[cmpKL]
 | _::_,[]=>by simp[cmpKL]
 | x::l,y::m=>by
  rw[cmpKL]
  by_cases h:cmpK x y=0
  ·rw[if_neg (by simp[h]),cmpKL_zero l m]
   have:=(cmpK_zero x y).1 h
   subst this
   simp
  ·rw[if_pos h]
   constructor
   ·intro h2;exact absurd h2 h
   ·intro h2
    have:x=y:=by injection h2
    exact absurd ((cmpK_zero x y).2 this) h
theorem cmpKL_anti:∀ a b:List Ky,cmpKL a b<0↔0<cmpKL b a
 | [],[]=>by simp[cmpKL]
 | [],_::_=>by simp[cmpKL]
 | _::_,[]=>by simp[cmpKL]
 | x::l,y::m=>by
  rw[cmpKL,cmpKL]
  have h1:=cmpK_anti x y
  have h2:=cmpK_zero x y
  have h3:=cmpK_zero y x
  by_cases h:cmpK x y=0
  ·have h4:cmpK y x=0:=h3.2 (h2.1 h).symm
   rw[if_neg (by simp[h]),if_neg (by simp[h4])]
   exact cmpKL_anti l m
  ·have h4:cmpK y x≠0:=fun h4=>h (h2.2 (h3.1 h4).symm)
   rw[if_pos h,if_pos h4]
   exact h1
theorem cmpKL_trans:∀ a b c:List Ky,cmpKL a b<0→cmpKL b c<0→cmpKL a c<0
 | [],[],_,h,_=>by simp[cmpKL] at h
 | [],_::_,[],_,h=>by simp[cmpKL] at h
 | [],_::_,_::_,_,_=>by simp[cmpKL]
 | _::_,[],_,h,_=>by simp[cmpKL] at h
 | _::_,_::_,[],_,h=>by simp[cmpKL] at h
 | x::l,y::m,z::n,h1,h2=>by
  rw[cmpKL] at h1 h2 ⊢
  have lt:∀ a b:Ky,cmpK a b<0↔ltK a b=true:=fun a b=>by unfold ltK;rw[decide_eq_true_eq]
  by_cases e1:cmpK x y=0
  ·have:=(cmpK_zero x y).1 e1
   subst this
   rw[if_neg (by simp[e1])] at h1
   by_cases e2:cmpK x z=0
   ·rw[if_neg (by simp[e2])] at h2 ⊢
    exact cmpKL_trans l m n h1 h2
   ·rw[if_pos e2] at h2 ⊢
    exact h2
  ·rw[if_pos e1] at h1
   by_cases e2:cmpK y z=0
   ·have:=(cmpK_zero y z).1 e2
    subst this
    rw[if_pos e1]
    exact h1
   ·rw[if_pos e2] at h2
    have h3:=(lt x z).2 (ltK_trans _ _ _ ((lt x y).1 h1) ((lt y z).1 h2))
    rw[if_pos (by omega)]
    exact h3
def leC (a b:List Ky):Bool:=decide (cmpKL a b≤0)
theorem leC_trans (a b c:List Ky) (h1:leC a b=true) (h2:leC b c=true):leC a c=true:=by
 unfold leC at *
 rw[decide_eq_true_eq] at *
 rcases Int.lt_or_eq_of_le h1 with h1 | h1
 ·rcases Int.lt_or_eq_of_le h2 with h2 | h2
  ·exact Int.le_of_lt (cmpKL_trans _ _ _ h1 h2)
  ·rw[← (cmpKL_zero b c).1 h2];exact Int.le_of_lt h1
 ·rw[(cmpKL_zero a b).1 h1];exact h2
theorem leC_total (a b:List Ky):(leC a b||leC b a)=true:=by
 unfold leC
 have:=cmpKL_anti a b
 have:=cmpKL_anti b a
 rw[Bool.or_eq_true,decide_eq_true_eq,decide_eq_true_eq]
 omega
theorem leC_anti (a b:List Ky) (h1:leC a b=true) (h2:leC b a=true):a=b:=by
 unfold leC at *
 rw[decide_eq_true_eq] at *
 have:=cmpKL_anti a b
 have:=cmpKL_anti b a
 exact (cmpKL_zero a b).1 (by omega)
def clausesP (p:Prd):List (List Ky):=(outU (fun set=>truthP (inSet (properP p) set) p) (properP p) (2^(properP p).length)).mergeSort leC
theorem sorted_clauses {l l':List (List Ky)} (hp:l'.Perm l) (hs:l'.Pairwise (fun a b=>leC a b=true)):l'=l.mergeSort leC:=by
 refine List.Perm.eq_of_pairwise (le:=fun a b=>leC a b=true) (fun a b _ _ h1 h2=>leC_anti a b h1 h2) hs (List.pairwise_mergeSort leC_trans leC_total l) (hp.trans (List.mergeSort_perm l leC).symm)
theorem bits_not:∀ m:Fin 9,∀ s:Fin 256,(s:Nat)<2^(m:Nat)→bits .andNot .i64 (((2^(m:Nat)-1:Nat):Int)) ((s:Nat):Int)=((2^(m:Nat)-1-(s:Nat):Nat):Int):=by decide +kernel
theorem bits_or:∀ m:Fin 9,∀ s:Fin 256,∀ i:Fin 8,(s:Nat)<2^(m:Nat)→(s:Nat).testBit (i:Nat)=true→bits .or .i64 (((2^(m:Nat)-1-(s:Nat):Nat):Int)) (((2^(i:Nat):Nat):Int))=((2^(m:Nat)-1-(s:Nat)+2^(i:Nat):Nat):Int)∧2^(m:Nat)-1-(s:Nat)+2^(i:Nat)<2^(m:Nat):=by decide +kernel
theorem not_at {m s:Nat} (hm:m≤8) (hs:s<2^m):bits .andNot .i64 ((2^m-1:Nat):Int) (s:Int)=((2^m-1-s:Nat):Int):=by
 have h2:2^m≤2^8:=Nat.pow_le_pow_right (by omega) hm
 exact bits_not ⟨m,by omega⟩ ⟨s,by omega⟩ hs
theorem or_at {m s i:Nat} (hm:m≤8) (hs:s<2^m) (hi:i<8) (hb:s.testBit i=true):bits .or .i64 ((2^m-1-s:Nat):Int) ((2^i:Nat):Int)=((2^m-1-s+2^i:Nat):Int)∧2^m-1-s+2^i<2^m:=by
 have h2:2^m≤2^8:=Nat.pow_le_pow_right (by omega) hm
 exact bits_or ⟨m,by omega⟩ ⟨s,by omega⟩ ⟨i,hi⟩ hs hb
end
section
open Go.RowKit Go.Sort
section
variable {α:Type}
def Keeps (EL:World→(Nat→Prop)→α→List Value→Prop):Prop :=
 ∀ (w w':World) (P P':Nat→Prop) (x:α) (vs:List Value),(∀ g,P g→g<w.heap.size→w'.heap[g]?=w.heap[g]?)→w.heap.size≤w'.heap.size→(∀ g,P g→g<w.heap.size→P' g)→EL w P x vs→EL w' P' x vs
structure RowM (EL:World→(Nat→Prop)→α→List Value→Prop) (k base:Nat) (wr:World) (lo:Nat) (bad:Nat→Prop) (ao:Option Addr) (n cp:Nat) (xs:List α) (vss:List (List Value)):Prop where
 own:OwnK wr lo k n cp vss.flatten ao
 len:vss.length=xs.length
 cnt:n=xs.length
 elk:∀ vs∈vss,vs.length=k
 each:∀ (i:Nat) (x:α) (vs:List Value),xs[i]?=some x→vss[i]?=some vs→EL wr (fun g=>base≤g∧¬ bad g∧blk ao≠some g) x vs
variable {EL:World→(Nat→Prop)→α→List Value→Prop} {k base:Nat}
theorem RowM.nil (wr:World) (lo:Nat) (bad:Nat→Prop):RowM EL k base wr lo bad none 0 0 [] [] :=
 ⟨.nil rfl rfl rfl,rfl,rfl,fun vs h=>absurd h List.not_mem_nil,fun i x vs h=>by simp at h⟩
theorem RowM.turn (hE:Keeps EL) {wr w':World} {lo:Nat} {bad:Nat→Prop} {ao:Option Addr} {n cp:Nat} {xs:List α} {vss:List (List Value)} (h:RowM EL k base wr lo bad ao n cp xs vss) {p:Nat→Prop} (hb:Only wr w' p)
  (hp:∀ g,p g→bad g∨g<base) (ho:∀ g,blk ao=some g→¬ p g):RowM EL k base w' lo bad ao n cp xs vss:=by
 refine⟨h.own.of_block (fun g e hl=>hb.block g hl (ho g e)) hb.size,h.len,h.cnt,h.elk,fun i x vs hx hv=>hE _ _ _ _ _ _ (fun g hg hl=>hb.block g hl (fun hh=>?_)) hb.size (fun g hg _=>hg) (h.each i x vs hx hv)⟩
 rcases hp g hh with h1 | h1
 ·exact hg.2.1 h1
 ·have:=hg.1;omega
theorem RowM.step (hE:Keeps EL) {wr w':World} {lo:Nat} {bad:Nat→Prop} {ao:Option Addr} {n cp:Nat} {xs:List α} {vss:List (List Value)} (h:RowM EL k base wr lo bad ao n cp xs vss) (hb:Below wr.heap.size wr w'):RowM EL k base w' lo bad ao n cp xs vss :=
 h.turn hE (Only.of_below (p:=fun _=>False) hb) (fun g h=>h.elim) (fun g _ h=>h.elim)
theorem RowM.add (hE:Keeps EL) {w0 w2 wa:World} {lo:Nat} {bad:Nat→Prop} {ao:Option Addr} {n cp g5 off5 c5:Nat} {xs:List α} {vss:List (List Value)} {x:α} {vs:List Value} (h:RowM EL k base w2 lo bad ao n cp xs vss)
  (hao:∀ g,blk ao=some g→g<w0.heap.size) (hb0:base≤w0.heap.size) (hbad:∀ g,bad g→g<w0.heap.size)
  (hx:EL w2 (fun g=>w0.heap.size≤g) x vs) (hk:vs.length=k) (ho:OwnK wa lo k (n+1) c5 (vss.flatten++vs) (some ⟨g5,off5,none⟩)) (hg:w2.grownBy wa (blk ao)) (hor:blk ao=some g5∨w2.heap.size≤g5) :
  RowM EL k base wa lo bad (some ⟨g5,off5,none⟩) (n+1) c5 (xs++[x]) (vss++[vs]):=by
 have hnew:∀ g,blk ao≠some g→g<w2.heap.size→blk (some (⟨g5,off5,none⟩:Addr))≠some g:=fun g hb hl e=>by
  have e':g5=g:=Option.some.inj e
  subst e'
  rcases hor with h1 | h1
  ·exact hb h1
  ·omega
 refine⟨by rw[List.flatten_append];simpa using ho,by rw[List.length_append,List.length_append,h.len];rfl,by rw[List.length_append,← h.cnt];rfl,fun us hu=>?_,?_⟩
 ·rcases List.mem_append.1 hu with hu | hu
  ·exact h.elk us hu
  ·rw[List.mem_singleton] at hu;subst hu;exact hk
 intro i y us hq hu
 have hlen:=h.len
 by_cases hi:i<xs.length
 ·rw[List.getElem?_append_left hi] at hq
  rw[List.getElem?_append_left (by omega)] at hu
  exact hE w2 wa (fun g=>base≤g∧¬ bad g∧blk ao≠some g) _ y us (fun g hx hl=>hg.block g hl (fun e=>hx.2.2 e.symm)) hg.size (fun g hx hl=>⟨hx.1,hx.2.1,hnew g hx.2.2 hl⟩) (h.each i y us hq hu)
 ·rw[List.getElem?_append_right (by omega)] at hq hu
  have hi1:i=xs.length:=by
   have:=(List.getElem?_eq_some_iff.1 hq).1
   simp at this
   omega
  subst hi1
  rw[Nat.sub_self] at hq
  rw[hlen,Nat.sub_self] at hu
  obtain rfl:x=y:=by simpa using hq
  obtain rfl:vs=us:=by simpa using hu
  have hne:∀ g,w0.heap.size≤g→blk ao≠some g:=fun g hge e=>by
   have:=hao g e
   omega
  exact hE w2 wa (fun g=>w0.heap.size≤g) _ x vs (fun g hx hl=>hg.block g hl (fun e=>hne g hx e.symm)) hg.size (fun g hx hl=>⟨Nat.le_trans hb0 hx,fun hb=>by have:=hbad g hb;omega,hnew g (hne g hx) hl⟩) hx
theorem flatten_at (k:Nat):∀ (vss:List (List Value)),(∀ vs∈vss,vs.length=k)→∀ (i j:Nat) (vs:List Value),vss[i]?=some vs→j<k→vss.flatten[i*k+j]?=vs[j]?
 | [],_,i,j,vs,h,_=>by simp at h
 | us::vss,hk,0,j,vs,h,hj=>by
  obtain rfl:us=vs:=by simpa using h
  have:=hk us (List.mem_cons_self ..)
  rw[List.flatten_cons,List.getElem?_append_left (by omega)]
  congr 1;omega
 | us::vss,hk,i+1,j,vs,h,hj=>by
  have hl:=hk us (List.mem_cons_self ..)
  rw[List.flatten_cons,List.getElem?_append_right (by rw[hl,Nat.add_mul];omega),hl]
  rw[← flatten_at k vss (fun x hx=>hk x (List.mem_cons_of_mem _ hx)) i j vs (by simpa using h) hj]
  congr 1
  rw[Nat.add_mul];omega
theorem RowM.at {wr:World} {lo:Nat} {bad:Nat→Prop} {ao:Option Addr} {n cp:Nat} {xs:List α} {vss:List (List Value)} (h:RowM EL k base wr lo bad ao n cp xs vss) (i:Nat) (x:α) (hx:xs[i]?=some x) :
  ∃ g off vs,ao=some ⟨g,off,none⟩∧g<wr.heap.size∧lo≤g∧vss[i]?=some vs∧vs.length=k∧Reads wr g (off+i*k) vs∧EL wr (fun g=>base≤g∧¬ bad g∧blk ao≠some g) x vs:=by
 have hi:=(List.getElem?_eq_some_iff.1 hx).1
 have hil:i<vss.length:=by rw[h.len];exact hi
 have hv:vss[i]?=some vss[i]:=List.getElem?_eq_getElem hil
 have hk:=h.elk vss[i] (List.getElem_mem hil)
 have hO:=h.own
 cases hao:ao with
 | none =>
  rw[hao] at hO
  cases hO with
  | nil h1 h2 h3=>have:=h.cnt;omega
 | some a =>
  rw[hao] at hO
  obtain⟨g,off,si⟩:=a
  cases hO with
  | «at» g off h1 h2 h3 h4 =>
   refine⟨g,off,vss[i],rfl,h1.lt,h1.own,hv,hk,fun j u hj=>?_,hao ▸ h.each i x _ hx hv⟩
   have hjk:=(List.getElem?_eq_some_iff.1 hj).1
   have:=h1.cells (i*k+j) u (by rw[flatten_at k vss h.elk i j _ hv (by omega)];exact hj)
   rwa [← Nat.add_assoc] at this
end
def ClE (w:World) (P:Nat→Prop) (c:List Ky) (vs:List Value):Prop:=∃ ao cap,vs=[.slice ao c.length cap]∧(c=[]∨∃ g off,ao=some ⟨g,off,none⟩∧P g∧g<w.heap.size∧Reads w g off (c.flatMap kyC))
theorem ClE.keeps:Keeps ClE:=fun w w' P P' c vs hb hs hP ⟨ao,cap,hv,hk⟩=>⟨ao,cap,hv,by
 rcases hk with hk | ⟨g,off,h1,h2,h3,h4⟩
 ·exact .inl hk
 ·exact .inr ⟨g,off,h1,hP g h2 h3,Nat.lt_of_lt_of_le h3 hs,h4.of_block (hb g h2 h3)⟩⟩
structure Chc where
 need:Int
 atoms:List Prd
def ChE (w:World) (P:Nat→Prop) (c:Chc) (vs:List Value):Prop:=∃ ao cap,vs=[.int .i64 c.need,.slice ao c.atoms.length cap]∧(c.atoms=[]∨∃ g off,ao=some ⟨g,off,none⟩∧P g∧g<w.heap.size∧KidsC w P c.atoms g off)
theorem ChE.keeps:Keeps ChE:=fun w w' P P' c vs hb hs hP ⟨ao,cap,hv,hk⟩=>⟨ao,cap,hv,by
 rcases hk with hk | ⟨g,off,h1,h2,h3,h4⟩
 ·exact .inl hk
 ·exact .inr ⟨g,off,h1,hP g h2 h3,Nat.lt_of_lt_of_le h3 hs,KidsC.keep hb hs hP c.atoms g off h2 h3 h4⟩⟩
end
section
open Go.RowKit Go.Shelf Go.Sort
section
variable {α:Type} [Inhabited α] (enc:α→Value)
theorem OwnK.holds1 {w:World} {B n cap g off:Nat} {l:List α} (h:OwnK w B 1 n cap (l.map enc) (some ⟨g,off,none⟩)):Holds enc w g off l.toArray:=by
 intro j hj
 rw[List.size_toArray] at hj
 cases h with
 | «at» g off h h1 h2 h3 =>
  rw[List.length_map] at h1
  refine⟨?_,h.warm j (by omega)⟩
  rw[h.cells j (enc l[j]) (by rw[List.getElem?_map,List.getElem?_eq_getElem hj];rfl),getElem!_pos l.toArray j (by simpa using hj)]
  simp
theorem OwnK.sorted1 {w:World} {B n cap g off m:Nat} {l:List α} {d:Array α} {os:Array Obj} (h:OwnK w B 1 n cap (l.map enc) (some ⟨g,off,none⟩)) (hd:d.size=l.length) :
  OwnK (sortWorld enc w g off m d os) B 1 n cap (d.toList.map enc) (some ⟨g,off,none⟩)∧Only w (sortWorld enc w g off m d os) (· = g):=by
 have hH:=h.holds1 enc
 have hlen:=h.count
 rw[List.length_map] at hlen
 have hsz:w.heap.size≤(sortWorld enc w g off m d os).heap.size:=by
  unfold sortWorld
  rw[size_grow,size_putRow]
  exact Nat.le_add_right _ _
 cases h with
 | «at» g off h h1 h2 h3 =>
  have hlt:=h.lt
  have hold:∀ i,i<w.heap.size→(sortWorld enc w g off m d os).heap[i]?=(putRow enc (Sort.ahead w m) g off d).heap[i]?:=fun i hi=>heap_grow_old _ _ (by rw[size_putRow];exact hi)
  have hg:∀ a:Addr,a.block<w.heap.size→(sortWorld enc w g off m d os).cell? a=(putRow enc (Sort.ahead w m) g off d).cell? a:=fun a ha=>World.cell?_of_block (hold _ ha)
  have hgf:∀ a:Addr,a.block<w.heap.size→(sortWorld enc w g off m d os).frozen? a=(putRow enc (Sort.ahead w m) g off d).frozen? a:=fun a ha=>World.frozen?_of_block (hold _ ha)
  have hH2:=holds_putRow enc (Sort.ahead w m) g off l.toArray d hH (by simpa using hd)
  refine⟨.at g off ⟨h.own,Nat.lt_of_lt_of_le hlt hsz,by rw[List.length_map,Array.length_toList];omega,fun j u hj=>?_,fun j hj=>?_,fun j hj=>?_⟩ (by rw[List.length_map,Array.length_toList];omega) h2 h3,?_⟩
  ·rw[List.getElem?_map,Array.getElem?_toList] at hj
   obtain⟨x,hx,rfl⟩:=Option.map_eq_some_iff.1 hj
   obtain⟨hjl,rfl⟩:=Array.getElem?_eq_some_iff.1 hx
   rw[hg _ hlt,(hH2 j hjl).1,getElem!_pos d j hjl]
  ·by_cases hj2:j<d.size
   ·rw[hg _ hlt,(hH2 j hj2).1];rfl
   ·rw[hg _ hlt,cell?_putRow_other _ _ _ _ _ _ (.inr (.inr (by show off+d.size≤off+j;omega)))]
    exact h.room j hj
  ·rw[hgf _ hlt,frozen?_putRow]
   exact h.warm j hj
  ·refine⟨rfl,rfl,rfl,hsz,fun i hi hne=>?_⟩
   rw[hold i hi]
   show (w.heap.modify g _)[i]?=_
   rw[Array.getElem?_modify,if_neg (fun e=>hne e.symm)]
end
def GoodC (w:World) (g base:Nat) (bad:Nat→Prop) (x:List Ky×Value):Prop :=
 ClE w (fun h=>base≤h∧¬ bad h∧h≠g) x.1 [x.2]∧(∀ k∈x.1,KyB k)∧x.1.length≤1000
abbrev GC (w:World) (g base:Nat) (bad:Nat→Prop):={x:List Ky×Value // GoodC w g base bad x}
instance (w:World) (g base:Nat) (bad:Nat→Prop):Inhabited (GC w g base bad):=⟨⟨([],.slice none 0 0),⟨none,0,rfl,.inl rfl⟩,by simp,by simp⟩⟩
theorem swoC (w:World) (g base:Nat) (bad:Nat→Prop):SWO (ltOf fun x y:GC w g base bad=>cmpKL x.1.1 y.1.1) where
 irrefl x:=by
  have:cmpKL x.1.1 x.1.1=0:=(cmpKL_zero _ _).2 rfl
  simp[ltOf,this]
 trans x y z h1 h2:=by
  simp only[ltOf,decide_eq_true_eq] at *
  exact cmpKL_trans _ _ _ h1 h2
 ntrans x y z h1 h2:=by
  simp only[ltOf,decide_eq_false_iff_not] at *
  intro h3
  have a1:=cmpKL_anti x.1.1 y.1.1
  have a2:=cmpKL_anti y.1.1 x.1.1
  have a3:=cmpKL_anti y.1.1 z.1.1
  have a4:=cmpKL_anti z.1.1 y.1.1
  have l1:leC y.1.1 x.1.1=true:=by unfold leC;rw[decide_eq_true_eq];omega
  have l2:leC z.1.1 y.1.1=true:=by unfold leC;rw[decide_eq_true_eq];omega
  have l3:=leC_trans _ _ _ l2 l1
  unfold leC at l3
  rw[decide_eq_true_eq] at l3
  have a5:=cmpKL_anti x.1.1 z.1.1
  omega
theorem list_lift {α:Type} {p:α→Prop}:∀ (l:List α),(∀ x∈l,p x)→∃ d:List {x // p x},d.map (·.1)=l
 | [],_=>⟨[],rfl⟩
 | x::l,h=>by
  obtain⟨d,hd⟩:=list_lift l (fun y hy=>h y (List.mem_cons_of_mem _ hy))
  exact⟨⟨x,h x (List.mem_cons_self ..)⟩::d,by rw[List.map_cons,hd]⟩
theorem csort_any (w:World) (base lo:Nat) (bad:Nat→Prop) (ao:Option Addr) (n cp:Nat) (xs:List (List Ky)) (vss:List (List Value)) (h:RowM ClE 1 base w lo bad ao n cp xs vss) (hb:∀ c∈xs,∀ k∈c,KyB k) (hl:∀ c∈xs,c.length≤1000) (hn:n≤1000000) :
  Calls Tryz.prog 227 #[.slice ao n cp,.func (.func 228) #[] #[]] w fun e w'=>e = .returned (.tuple #[])∧(∃ vss',RowM ClE 1 base w' lo bad ao n cp (xs.mergeSort leC) vss')∧Only w w' (fun g=>blk ao=some g):=by
 cases ao with
 | none =>
  have hO:=h.own
  have hn0:n=0:=by cases hO with | nil h1 h2 h3=>exact h2
  have hx:xs=[]:=List.eq_nil_of_length_eq_zero (by rw[← h.cnt];exact hn0)
  subst hx
  subst hn0
  refine (AnyF.slices_SortFunc_none (P:=Tryz.prog) (ρ:=Tryz.sortRows_ren) { Tryz.sortRows with } none cp _ w).mono ?_
  rintro e w' ⟨rfl,rfl⟩
  exact⟨rfl,⟨vss,by simpa using h⟩,Only.refl _ _⟩
 | some a =>
  obtain⟨g,off,si⟩:=a
  have hO:=h.own
  have hsi:si=none:=by cases hO;rfl
  subst hsi
  have hlt:g<w.heap.size:=(hO.blk_lt rfl).2
  have hxl:xs.length=vss.length:=h.len.symm
  have hgood:∀ x∈xs.zip (vss.map (fun vs=>vs.headD undef)),GoodC w g base bad x:=by
   intro x hx
   obtain⟨i,hi⟩:=List.mem_iff_getElem?.1 hx
   rw[List.getElem?_zip_eq_some] at hi
   obtain⟨h1,h2⟩:=hi
   rw[List.getElem?_map] at h2
   obtain⟨vs,hv,he⟩:=Option.map_eq_some_iff.1 h2
   have hk:=h.elk vs (List.mem_of_getElem? hv)
   obtain⟨v,rfl⟩:∃ v,vs=[v]:=List.length_eq_one_iff.1 hk
   have he':v=x.2:=he
   subst he'
   refine⟨ClE.keeps w w _ _ _ _ (fun _ _ _=>rfl) (Nat.le_refl _) (fun y hy _=>⟨hy.1,hy.2.1,fun e=>hy.2.2 (by rw[e];rfl)⟩) (h.each i x.1 _ h1 hv),hb _ (List.mem_of_getElem? h1),hl _ (List.mem_of_getElem? h1)⟩
  obtain⟨d,hd⟩:=list_lift _ hgood
  have hd1:d.map (fun x=>x.1.1)=xs:=by
   have:=congrArg (List.map Prod.fst) hd
   rw[List.map_map,List.map_fst_zip (by rw[List.length_map];omega)] at this
   exact this
  have hd2:d.map (fun x=>x.1.2)=vss.flatten:=by
   have:=congrArg (List.map Prod.snd) hd
   rw[List.map_map,List.map_snd_zip (by rw[List.length_map];omega)] at this
   rw[show d.map (fun x=>x.1.2)=vss.map (fun vs=>vs.headD undef) from this]
   have hel:=h.elk
   clear this hd hd1 hgood hO h hxl
   induction vss with
   | nil=>rfl
   | cons vs vss ih =>
    obtain⟨v,rfl⟩:=List.length_eq_one_iff.1 (hel vs (List.mem_cons_self ..))
    rw[List.map_cons,List.flatten_cons,ih (fun x hx=>hel x (List.mem_cons_of_mem _ hx))]
    rfl
  have hdl:d.length=n:=by rw[h.cnt,← hd1,List.length_map]
  have hO':=hO
  rw[← hd2] at hO'
  have hH:=OwnK.holds1 (fun x:GC w g base bad=>x.1.2) hO'
  have eg:∀ args w,(callFunc 228 args).run Tryz.prog w = .ok (.enter 228 args) w:=enters_of Tryz.func228 (by kernel_rfl) rfl
  have hkeep:∀ (m:Nat) (os:Array Obj) (dk:Array (GC w g base bad)),dk.size=d.length→Only w (sortWorld (fun x:GC w g base bad=>x.1.2) w g off m dk os) (· = g):=fun m os dk hs=>(OwnK.sorted1 (fun x:GC w g base bad=>x.1.2) (m:=m) (os:=os) (d:=dk) hO' hs).2
  have hone:∀ x:GC w g base bad,∃ a c,x.1.2 = .slice a x.1.1.length c∧(x.1.1=[]∨∃ g' off',a=some ⟨g',off',none⟩∧(base≤g'∧¬ bad g'∧g'≠g)∧g'<w.heap.size∧Reads w g' off' (x.1.1.flatMap kyC)):=fun x=>by
   obtain⟨a,c,hv,hr⟩:=x.2.1
   exact⟨a,c,by injection hv,hr⟩
  have hkr:∀ (x:GC w g base bad) (a:Option Addr) (W:World),Only w W (· = g)→(x.1.1=[]∨∃ g' off',a=some ⟨g',off',none⟩∧(base≤g'∧¬ bad g'∧g'≠g)∧g'<w.heap.size∧Reads w g' off' (x.1.1.flatMap kyC))→KeysR W a x.1.1:=fun x a W hW hr=>by
   rcases hr with hr | ⟨g',off',h1,h2,h3,h4⟩
   ·exact .inl hr
   ·exact .inr ⟨g',off',h1,Nat.lt_of_lt_of_le h3 hW.size,h4.of_block (hW.block g' h3 h2.2.2)⟩
  have hc:=Any.slices_SortFunc Tryz.sortRows (fun x:GC w g base bad=>x.1.2) (fun x=>by obtain⟨a,c,hv,_⟩:=hone x;show x.1.2.oneCell'=true;rw[hv];rfl) (fun x y=>cmpKL x.1.1 y.1.1) (swoC w g base bad) 228 #[] g off cp d.toArray w eg
   (fun m os dk hs x y=>by
    obtain⟨a1,c1,hv1,hr1⟩:=hone x
    obtain⟨a2,c2,hv2,hr2⟩:=hone y
    have hW:=hkeep m os dk (by simpa using hs)
    have:=clau2_any (sortWorld (fun x:GC w g base bad=>x.1.2) w g off m dk os) a1 a2 x.1.1.length y.1.1.length c1 c2 x.1.1 y.1.1 rfl rfl (hkr x a1 _ hW hr1) (hkr y a2 _ hW hr2) x.2.2.1 y.2.2.1 (Nat.le_trans x.2.2.2 (by omega)) (Nat.le_trans y.2.2.2 (by omega))
    rw[← hv1,← hv2] at this
    exact this) hH hlt (by simp;omega)
  rw[List.size_toArray,hdl] at hc
  refine hc.mono ?_
  rintro e w' ⟨rfl,d',m,os,hp,hs,rfl⟩
  obtain⟨p1,_,p3⟩:=hp
  have hsz:d'.size=d.length:=by simpa using p1
  have hpp:d'.toList.Perm d:=by
   have e1:d'.extract 0 n=d':=by rw[← hdl,← hsz];exact Array.extract_size
   have e2:d.toArray.extract 0 n=d.toArray:=by rw[← hdl,← List.size_toArray];exact Array.extract_size
   rw[e1,e2] at p3
   simpa using p3
  have hxs:d'.toList.map (fun x=>x.1.1)=xs.mergeSort leC:=by
   refine sorted_clauses (by rw[← hd1];exact hpp.map _) ?_
   rw[List.pairwise_iff_getElem]
   intro i j hi hj hij
   rw[List.length_map,Array.length_toList] at hi hj
   have:=hs i j (Nat.zero_le _) hij (by omega)
   rw[getElem!_pos d' i hi,getElem!_pos d' j hj] at this
   simp only[List.getElem_map,Array.getElem_toList]
   simp only[ltOf,decide_eq_false_iff_not] at this
   have h1:=cmpKL_anti d'[i].1.1 d'[j].1.1
   have h2:=cmpKL_anti d'[j].1.1 d'[i].1.1
   unfold leC
   rw[decide_eq_true_eq]
   omega
  obtain⟨hS,hOn⟩:=OwnK.sorted1 (fun x:GC w g base bad=>x.1.2) (m:=m) (os:=os) (d:=d') hO' hsz
  refine⟨rfl,⟨d'.toList.map (fun x=>[x.1.2]),?_⟩,hOn.mono (fun x _ hx=>by rw[hx];rfl)⟩
  refine⟨?_,by rw[List.length_map,← hxs,List.length_map],by rw[← hxs,List.length_map,Array.length_toList];omega,fun vs hv=>?_,fun i x vs hx hv=>?_⟩
  ·have:(d'.toList.map (fun x=>[x.1.2])).flatten=d'.toList.map (fun x:GC w g base bad=>x.1.2):=by
    generalize d'.toList=dl
    induction dl with
    | nil=>rfl
    | cons y dl ih=>simp only[List.map_cons,List.flatten_cons,ih];rfl
   rw[this]
   exact hS
  ·obtain⟨x,_,rfl⟩:=List.mem_map.1 hv
   rfl
  ·rw[← hxs,List.getElem?_map] at hx
   rw[List.getElem?_map] at hv
   obtain⟨y,hy,rfl⟩:=Option.map_eq_some_iff.1 hx
   rw[hy] at hv
   obtain rfl:=Option.some.inj hv
   exact ClE.keeps w _ _ _ _ _ (fun z hz hl=>hOn.block z hl hz.2.2) hOn.size (fun z hz _=>⟨hz.1,hz.2.1,fun e=>hz.2.2 (Option.some.inj e).symm⟩) y.2.1
end
end Go.Proofs.YtmkdfbelbcocpaaGreatDoor
