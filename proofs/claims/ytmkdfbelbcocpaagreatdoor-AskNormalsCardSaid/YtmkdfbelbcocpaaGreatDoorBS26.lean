import Derived.Sort.KeysCollected
import Derived.Shelf.SlIter.Nil
import Derived.Shelf.SortM.Plain
import Derived.Shelf.SortM.SortNone
import Derived.Ground.GgzProg
import Derived.Ground.SlgmProg
import Derived.Test.YtmkdfbelbcocpaaGreatDoorProg
import Derived.Test.YtmkdfbelbcocpaaGreatDoorBS25
set_option linter.unusedVariables false
set_option linter.unusedSimpArgs false
namespace Go.Proofs.YtmkdfbelbcocpaaGreatDoor
open Go.RowKit Go.Sort Go.Maps
def fbP (l:List Bnd):Bool:=decide (l.length≤10) && l.all (fun b=>decide (b.n.length≤60))
set_option maxHeartbeats 8000000 in
set_option maxRecDepth 100000 in
theorem fewb_any (w:World) (P:Nat→Prop) (l:List Bnd) (ao:Option Addr) (n cap:Nat) (hn:n = l.length) (hbig:n≤9223372036854775807) (hk:BndR w P l ao) :
  Calls Tryz.prog 37 #[.slice ao n cap] w fun e w'=>e = .returned (.bool (fbP l))∧RowKit.Below w.heap.size w w':=by
 have HK:=mkHid hk
 have HN:=mkHid hn
 have B0:=mkHid (RowKit.Below.refl w.heap.size w)
 obtain ⟨V,hV⟩:∃ V,fbP l = V:=⟨_,rfl⟩
 have HV:Hid (V = (decide (l.length≤10) && l.all (fun b=>decide (b.n.length≤60)))):=mkHid hV.symm
 rw [hV]
 clear hk hn hV
 go_enter Tryz.func37,Tryz.ntmps37
 go_wp2_with fail
 go_loopw [3] (fun cc wr=>∃ (i:Nat),cc = .int .i64 i∧i≤n∧i≤11∧Hid (∀ b∈l.take i,b.n.length≤60)∧Hid (RowKit.Below w.heap.size w wr)) (fun c _=>(11 - intOf c).toNat)
 case atStart=>exact ⟨0,rfl,by omega,by omega,mkHid (by simp),B0⟩
 case round =>
  clear B0
  obtain ⟨i,rfl,hi,hi11,ha,hw⟩:=hrel
  have e2:IntKind.i64.wrap ((i:Int) + 1) = ((i + 1:Nat):Int):=IntWalk.i64_in _ (by omega)
  by_cases hlt:i < n
  ·have ii:(i:Int) < n:=by omega
   by_cases h11:i < 11
   ·have i11:(i:Int) < 11:=by omega
    have HQ:Hid (∃ q,l[i]? = some q∧∃ g off,ao = some ⟨g,off,none⟩∧wr.cell? ⟨g,off + i * 2,none⟩ = some (.string (strN q.n))):=mkHid (by
     have hl:i < l.length:=by rw [← HN.out]; exact hlt
     refine ⟨l[i],List.getElem?_eq_getElem hl,?_⟩
     rcases (HK.out.below hw.out) with h | ⟨g,off,h1,h2,h3,h4⟩
     ·rw [h] at hl; exact absurd hl (Nat.not_lt_zero _)
     ·exact ⟨g,off,h1,by simpa using (bnd_cells h4 i _ (List.getElem?_eq_getElem hl)) 0 _ rfl⟩)
    obtain ⟨q,hqi,g,off,hao,s0⟩:=HQ.out
    have HAO:=mkHid hao
    have HQI:=mkHid hqi
    clear HQ hqi HK
    subst hao
    have hz:=strN_size q.n
    obtain ⟨z,hzz⟩:∃ z,q.n.length = z:=⟨_,rfl⟩
    have HZ:=mkHid hzz
    rw [hzz] at hz
    clear hzz
    generalize strN q.n = y at *
    by_cases h60:60 < z
    ·have h60':(60:Int) < (z:Int):=by omega
     have HF:Hid (V = false):=mkHid (by
      rw [HV.out]
      have:l.all (fun b=>decide (b.n.length≤60)) = false:=by
       rw [List.all_eq_false]
       exact ⟨q,List.mem_of_getElem? HQI.out,by rw [HZ.out]; simpa using h60⟩
      rw [this,Bool.and_false])
     clear h60
     go_wp2
     go_ret
     exact ⟨ret_bool HF.out.symm,hw.out⟩
    ·have h60':¬ (60:Int) < (z:Int):=by omega
     have HA2:Hid (∀ b∈l.take (i + 1),b.n.length≤60):=mkHid (fun b hb=>by
      rw [List.take_add_one,HQI.out] at hb
      rcases List.mem_append.1 hb with hb | hb
      ·exact ha.out b hb
      ·have:b = q:=by simpa using hb
       rw [this,HZ.out]; omega)
     clear h60
     go_wp2
     go_roundw
     case rel=>exact ⟨i + 1,by go_num,by omega,by omega,HA2,hw⟩
     case measure=>simp only [intOf]; omega
   ·have i11:¬ (i:Int) < 11:=by omega
    have hn10:¬ (n:Int)≤10:=by omega
    have HF:Hid (V = false):=mkHid (by rw [HV.out,decide_eq_false (by rw [← HN.out]; omega),Bool.false_and])
    go_wp2
    go_ret
    exact ⟨ret_bool HF.out.symm,hw.out⟩
  ·have ii:¬ ((i:Int) < n):=by omega
   have HA2:Hid (V = decide (n≤10)):=mkHid (by
    rw [HV.out,← HN.out]
    have:l.all (fun b=>decide (b.n.length≤60)) = true:=by
     rw [List.all_eq_true]
     intro b hb
     exact decide_eq_true (ha.out b (by rwa [List.take_of_length_le (by rw [← HN.out]; omega)]))
    rw [this,Bool.and_true])
   by_cases h10:n≤10
   ·have h10':(n:Int)≤10:=by omega
    have HF:Hid (V = true):=mkHid (by rw [HA2.out,decide_eq_true h10])
    clear h10
    go_wp2
    go_ret
    exact ⟨ret_bool HF.out.symm,hw.out⟩
   ·have h10':¬ (n:Int)≤10:=by omega
    have HF:Hid (V = false):=mkHid (by rw [HA2.out,decide_eq_false h10])
    clear h10
    go_wp2
    go_ret
    exact ⟨ret_bool HF.out.symm,hw.out⟩
end Go.Proofs.YtmkdfbelbcocpaaGreatDoor
namespace Go.Proofs.YtmkdfbelbcocpaaGreatDoor
mutual
def RawP:Prd→Prop
 | .mk _ l r _ ks=>(∀ y∈l,y < 256)∧(∀ y∈r,y < 256)∧RawL ks
def RawL:List Prd→Prop
 | []=>True
 | p :: ps=>RawP p∧RawL ps
end
theorem RawL_iff:∀ ks:List Prd,RawL ks ↔ ∀ q∈ks,RawP q
 | []=>by simp [RawL]
 | p :: ps=>by simp [RawL,RawL_iff ps]
mutual
theorem byt_of:∀ p,RawP p→namP p = true→BytP p
 | .mk k l r c ks,h,hn=>by
  unfold RawP at h
  unfold namP at hn
  simp only [Bool.and_eq_true,decide_eq_true_eq] at hn
  unfold BytP
  exact ⟨⟨h.1,by omega⟩,⟨h.2.1,by omega⟩,byt_ofL ks h.2.2 hn.1⟩
theorem byt_ofL:∀ ks,RawL ks→namL ks = true→BytL ks
 | [],_,_=>by unfold BytL; trivial
 | p :: ps,h,hn=>by
  unfold RawL at h
  unfold namL at hn
  rw [Bool.and_eq_true] at hn
  unfold BytL
  exact ⟨byt_of p h.1 hn.1,byt_ofL ps h.2 hn.2⟩
end
theorem couL_ge (M L:Nat):∀ (ks:List Prd) (n:Nat),n≤couL M L n ks
 | [],n=>by rw [couL]; exact Nat.le_refl _
 | q :: qs,n=>by
  rw [couL]
  split
  ·exact Nat.le_trans (Nat.le_add_right _ _) (couL_ge M L qs _)
  ·exact Nat.le_refl _
theorem couL_cnt (M L:Nat) (h:∀ q,couP M L q≤M→cntP q≤couP M L q):∀ (ks:List Prd) (n:Nat),couL M L n ks≤M→n + cntL ks≤couL M L n ks
 | [],n,_=>by rw [couL,cntL]; exact Nat.le_refl _
 | q :: qs,n,hn=>by
  rw [couL] at hn ⊢
  rw [cntL]
  by_cases hm:n≤M
  ·rw [if_pos hm] at hn ⊢
   have h1:=couL_ge M L qs (n + couP M L q)
   have h2:=h q (by omega)
   have h3:=couL_cnt M L h qs _ hn
   omega
  ·rw [if_neg hm] at hn
   exact absurd hn hm
theorem couP_cnt (M:Nat):∀ (L:Nat) (p:Prd),couP M L p≤M→cntP p≤couP M L p
 | 0,p,h=>by rw [couP] at h; omega
 | L + 1,.mk k l r c ks,h=>by
  rw [couP] at h ⊢
  rw [cntP]
  exact couL_cnt M L (couP_cnt M L) ks 1 h
theorem few_cnt {p:Prd} {M L:Nat} (h:fewP p M L = true):cntP p≤M:=by
 have h1:=of_decide_eq_true h
 exact Nat.le_trans (couP_cnt M L p h1) h1
theorem couL_eq (M L:Nat) (h:∀ q,cntP q≤M→depP q≤L→couP M L q = cntP q):∀ (ks:List Prd) (n:Nat),n + cntL ks≤M→depL ks≤L→couL M L n ks = n + cntL ks
 | [],n,_,_=>by rw [couL,cntL]; rfl
 | q :: qs,n,hn,hd=>by
  rw [cntL] at hn ⊢
  rw [depL] at hd
  rw [couL,if_pos (by omega),h q (by omega) (by omega),couL_eq M L h qs _ (by omega) (by omega)]
  omega
theorem couP_eq (M:Nat):∀ (L:Nat) (p:Prd),cntP p≤M→depP p≤L→couP M L p = cntP p
 | 0,.mk k l r c ks,_,hd=>by rw [depP] at hd; omega
 | L + 1,.mk k l r c ks,hn,hd=>by
  rw [couP]
  rw [cntP] at hn ⊢
  rw [depP] at hd
  exact couL_eq M L (couP_eq M L) ks 1 hn (by omega)
theorem few_of {p:Prd} {M L:Nat} (hc:cntP p≤M) (hd:depP p≤L):fewP p M L = true:=by
 unfold fewP
 rw [couP_eq M L p hc hd]
 exact decide_eq_true hc
end Go.Proofs.YtmkdfbelbcocpaaGreatDoor
namespace Go.Proofs.YtmkdfbelbcocpaaGreatDoor
open Go.RowKit Go.Sort Go.Maps
set_option maxHeartbeats 8000000 in
set_option maxRecDepth 100000 in
theorem rform_atom (w:World) (l r:List Nat) (c:Int) (ao:Option Addr) (n cap:Nat) (hl:NmB l) (hr:NmB r) :
  Calls Tryz.prog 165 #[.agg #[.int .i64 0,.string (strN l),.string (strN r),.int .i64 c,.slice ao n cap]] w fun e w'=>e = .returned (.bool (atomB 0 l r c n))∧RowKit.Below w.heap.size w w':=by
 have bx:=(RowKit.Below.refl w.heap.size w).alloc (Nat.le_refl _) (.cells #[.int .i64 0,.string (strN l),.string (strN r),.int .i64 c,.slice ao n cap] 25)
 have B1:=mkHid bx
 have X1:Hid (HasV (w.alloc (.cells #[.int .i64 0,.string (strN l),.string (strN r),.int .i64 c,.slice ao n cap] 25)) w.heap.size 25 [.int .i64 0,.string (strN l),.string (strN r),.int .i64 c,.slice ao n cap]):=mkHid (heap_alloc_new w _)
 have HA:=mkHid (fun W=>rvatom_any 0 l r c ao n cap W hl hr)
 clear bx hl hr
 generalize atomB 0 l r c n = V at *
 generalize strN l = y at *
 generalize strN r = z at *
 go_enter Tryz.func165,Tryz.ntmps165
 go_upto_region 1 with (fail)
 generalize w.alloc (.cells #[.int .i64 0,.string y,.string z,.int .i64 c,.slice ao n cap] 25) = w1 at *
 have x0:=X1.out.cell 0 _ rfl
 go_wp2_with (refine wpList_load_row rfl 25 (.tmp 1) rfl w.heap.size ?x1 25 #[.int .i64 0,.string y,.string z,.int .i64 c,.slice ao n cap] (0,0) _ X1.out Tryz.underlying25 rfl (inf_pred _ rfl) ?_; (case x1=>rfl))
 refine (HA.out w1).mono ?_
 rintro e w2 ⟨rfl,b2⟩
 have B2:=mkHid (B1.out.trans (b2.mono B1.out.size))
 clear b2
 go_wp2
 go_ret
 exact ⟨rfl,B2.out⟩
set_option maxHeartbeats 16000000 in
set_option maxRecDepth 100000 in
theorem rform_node (w:World) (P:Nat→Prop) (κ:Int) (l r:List Nat) (c:Int) (ks:List Prd) (ao:Option Addr) (n cap:Nat) (hκ:κ ≠ 0) (hn:n = ks.length) (hbig:n≤1000000) (hk:KidR w P ks ao)
  (ih:∀ (q:Prd) (w:World) (vs:List Value),q∈ks→PredC w P q vs→Calls Tryz.prog 165 #[.agg vs.toArray] w fun e w'=>e = .returned (.bool (formP q))∧RowKit.Below w.heap.size w w') :
  Calls Tryz.prog 165 #[.agg #[.int .i64 κ,.string (strN l),.string (strN r),.int .i64 c,.slice ao n cap]] w fun e w'=>e = .returned (.bool (formP (.mk κ l r c ks)))∧RowKit.Below w.heap.size w w':=by
 have HV:Hid (formP (.mk κ l r c ks) = (listB κ n c && (l == [] && (r == [] && ks.all formP)))):=mkHid (by
  rw [formP_eq,if_neg hκ,hn]
  have:(!(ks.any (fun q=>!formP q))) = ks.all formP:=by
   rw [Bool.eq_iff_iff,Bool.not_eq_true',List.any_eq_false,List.all_eq_true]
   simp
  rw [this])
 obtain ⟨V,hV⟩:∃ V,formP (.mk κ l r c ks) = V:=⟨_,rfl⟩
 rw [hV] at HV ⊢
 clear hV
 have HK:=mkHid (fun W (hW:RowKit.Below w.heap.size w W)=>hk.below hW)
 have IH:=mkHid ih
 have HN:=mkHid hn
 have bx:=(RowKit.Below.refl w.heap.size w).alloc (Nat.le_refl _) (.cells #[.int .i64 κ,.string (strN l),.string (strN r),.int .i64 c,.slice ao n cap] 25)
 have B1:=mkHid bx
 have X1:Hid (HasV (w.alloc (.cells #[.int .i64 κ,.string (strN l),.string (strN r),.int .i64 c,.slice ao n cap] 25)) w.heap.size 25 [.int .i64 κ,.string (strN l),.string (strN r),.int .i64 c,.slice ao n cap]):=mkHid (heap_alloc_new w _)
 have HLE:Hid ((strN l).toList.isEmpty = (l == [])∧(strN r).toList.isEmpty = (r == [])):=mkHid (by
  have:∀ m:List Nat,(strN m).toList.isEmpty = (m == []):=fun m=>by
   cases m with
   | nil=>exact strN_isE0.trans rfl
   | cons a b=>rw [strN_isE _ (by simp)]; rfl
  exact ⟨this l,this r⟩)
 have hle1:=HLE.out.1
 have hle2:=HLE.out.2
 generalize (l == []) = e1 at *
 generalize (r == []) = e2 at *
 have HK0:=mkHid hκ
 clear bx hk ih hn HLE hκ
 generalize strN l = y at *
 generalize strN r = z at *
 go_enter Tryz.func165,Tryz.ntmps165
 go_upto_region 1 with (fail)
 generalize w.alloc (.cells #[.int .i64 κ,.string y,.string z,.int .i64 c,.slice ao n cap] 25) = w1 at *
 by_cases k1:κ = 1
 ·subst k1
  by_cases n2:2≤n
  ·have n2i:(2:Int)≤n:=by omega
   by_cases c0:c = 0
   ·subst c0
    have HA:Hid (V = (e1 && (e2 && ks.all formP))):=mkHid (by rw [HV.out,show listB 1 n 0 = true from by unfold listB; simp; omega,Bool.true_and])
    have x0:=X1.out.cell 0 _ rfl
    have x1:=X1.out.cell 1 _ rfl
    have x2:=X1.out.cell 2 _ rfl
    have x3:=X1.out.cell 3 _ rfl
    have x4:=X1.out.cell 4 _ rfl
    cases e1 with
    | false =>
     have HX:Hid (V = false):=mkHid (by rw [HA.out]; rfl)
     go_wp2
     go_ret
     exact ⟨ret_bool HX.out.symm,B1.out⟩
    | true =>
     cases e2 with
     | false =>
      have HX:Hid (V = false):=mkHid (by rw [HA.out]; rfl)
      go_wp2
      go_ret
      exact ⟨ret_bool HX.out.symm,B1.out⟩
     | true =>
      have S0:Hid (V = (ks.drop 0).all formP):=mkHid (by rw [HA.out]; rfl)
      go_wp2_with fail
      clear x0 x1 x2 x3 x4
      go_loopw [6] (fun cc wr=>∃ (i:Nat),cc = .int .i64 i∧i≤n∧Hid (RowKit.Below w.heap.size w wr)∧Hid (HasV wr w.heap.size 25 [.int .i64 1,.string y,.string z,.int .i64 0,.slice ao n cap])∧Hid (V = (ks.drop i).all formP)) (fun c _=>(n - intOf c).toNat)
      case atStart=>exact ⟨0,rfl,by omega,B1,X1,S0⟩
      case round =>
       clear S0 B1 X1 HA HV
       obtain ⟨i,rfl,hi,hw,hx,hv⟩:=hrel
       have ei:IntKind.i64.wrap ((i:Int) + 1) = ((i + 1:Nat):Int):=IntWalk.i64_in _ (by omega)
       by_cases hlt:i < n
       ·have ii:(i:Int) < n:=by omega
        obtain ⟨q,hqi,g,off,hao,hg,us,hpc,hrd⟩:=(HK.out wr hw.out).get (i:=i) (by rw [← HN.out]; exact hlt)
        have HST:=mkHid (hv.out.trans (all_dropG formP ks i q hqi))
        have HIH:=mkHid (IH.out q wr us (List.mem_of_getElem? hqi) hpc)
        obtain ⟨xa,xn,xc,rfl,-⟩:=hpc.form
        have s0:=hrd 0 _ rfl
        have s1:=hrd 1 _ rfl
        have s2:=hrd 2 _ rfl
        have s3:=hrd 3 _ rfl
        have s4:=hrd 4 _ rfl
        rw [Nat.add_zero] at s0
        have x4:=hx.out.cell 4 _ rfl
        have HAO:=mkHid hao
        clear hrd hpc hqi hv
        subst hao
        generalize formP q = rb at *
        generalize q.k = q0 at *
        generalize strN q.l = q1 at *
        generalize strN q.r = q2 at *
        generalize q.c = q3 at *
        go_wp2_with fail
        refine HIH.out.mono ?_
        rintro e w3 ⟨rfl,b3⟩
        have B3:=mkHid (hw.out.trans (b3.mono hw.out.size))
        have X3:=mkHid (hx.out.step b3)
        clear b3 hw hx s0 s1 s2 s3 s4 x4 HIH
        cases rb with
        | false =>
         have HX:Hid (V = false):=mkHid (by rw [HST.out]; rfl)
         go_wp2
         go_ret
         exact ⟨ret_bool HX.out.symm,B3.out⟩
        | true =>
         have HX:Hid (V = (ks.drop (i + 1)).all formP):=mkHid (by rw [HST.out,Bool.true_and])
         go_wp2
         go_roundw
         case rel=>exact ⟨i + 1,by go_num,by omega,B3,X3,HX⟩
         case measure=>simp only [intOf]; omega
       ·have ii:¬ ((i:Int) < n):=by omega
        have HX:Hid (V = true):=mkHid (by rw [hv.out,List.drop_eq_nil_of_le (by rw [← HN.out]; omega)]; rfl)
        go_wp2
        go_ret
        exact ⟨ret_bool HX.out.symm,hw.out⟩
   ·have c0b:(c == 0) = false:=beq_eq_false_iff_ne.mpr c0
    have HX:Hid (V = false):=mkHid (by rw [HV.out,show listB 1 n c = false from by unfold listB; simp [c0b]]; rfl)
    have x0:=X1.out.cell 0 _ rfl
    have x1:=X1.out.cell 1 _ rfl
    have x2:=X1.out.cell 2 _ rfl
    have x3:=X1.out.cell 3 _ rfl
    have x4:=X1.out.cell 4 _ rfl
    go_wp2
    go_ret
    exact ⟨ret_bool HX.out.symm,B1.out⟩
  ·have n2i:¬ ((2:Int)≤n):=by omega
   have HX:Hid (V = false):=mkHid (by rw [HV.out,show listB 1 n c = false from by unfold listB; simp; omega]; rfl)
   have x0:=X1.out.cell 0 _ rfl
   have x1:=X1.out.cell 1 _ rfl
   have x2:=X1.out.cell 2 _ rfl
   have x3:=X1.out.cell 3 _ rfl
   have x4:=X1.out.cell 4 _ rfl
   go_wp2
   go_ret
   exact ⟨ret_bool HX.out.symm,B1.out⟩
 ·have k1b:(κ == 1) = false:=beq_eq_false_iff_ne.mpr k1
  by_cases k2:κ = 2
  ·subst k2
   by_cases n2:2≤n
   ·have n2i:(2:Int)≤n:=by omega
    by_cases c0:c = 0
    ·subst c0
     have HA:Hid (V = (e1 && (e2 && ks.all formP))):=mkHid (by rw [HV.out,show listB 2 n 0 = true from by unfold listB; simp; omega,Bool.true_and])
     have x0:=X1.out.cell 0 _ rfl
     have x1:=X1.out.cell 1 _ rfl
     have x2:=X1.out.cell 2 _ rfl
     have x3:=X1.out.cell 3 _ rfl
     have x4:=X1.out.cell 4 _ rfl
     cases e1 with
     | false =>
      have HX:Hid (V = false):=mkHid (by rw [HA.out]; rfl)
      go_wp2
      go_ret
      exact ⟨ret_bool HX.out.symm,B1.out⟩
     | true =>
      cases e2 with
      | false =>
       have HX:Hid (V = false):=mkHid (by rw [HA.out]; rfl)
       go_wp2
       go_ret
       exact ⟨ret_bool HX.out.symm,B1.out⟩
      | true =>
       have S0:Hid (V = (ks.drop 0).all formP):=mkHid (by rw [HA.out]; rfl)
       go_wp2_with fail
       clear x0 x1 x2 x3 x4
       go_loopw [6] (fun cc wr=>∃ (i:Nat),cc = .int .i64 i∧i≤n∧Hid (RowKit.Below w.heap.size w wr)∧Hid (HasV wr w.heap.size 25 [.int .i64 2,.string y,.string z,.int .i64 0,.slice ao n cap])∧Hid (V = (ks.drop i).all formP)) (fun c _=>(n - intOf c).toNat)
       case atStart=>exact ⟨0,rfl,by omega,B1,X1,S0⟩
       case round =>
        clear S0 B1 X1 HA HV
        obtain ⟨i,rfl,hi,hw,hx,hv⟩:=hrel
        have ei:IntKind.i64.wrap ((i:Int) + 1) = ((i + 1:Nat):Int):=IntWalk.i64_in _ (by omega)
        by_cases hlt:i < n
        ·have ii:(i:Int) < n:=by omega
         obtain ⟨q,hqi,g,off,hao,hg,us,hpc,hrd⟩:=(HK.out wr hw.out).get (i:=i) (by rw [← HN.out]; exact hlt)
         have HST:=mkHid (hv.out.trans (all_dropG formP ks i q hqi))
         have HIH:=mkHid (IH.out q wr us (List.mem_of_getElem? hqi) hpc)
         obtain ⟨xa,xn,xc,rfl,-⟩:=hpc.form
         have s0:=hrd 0 _ rfl
         have s1:=hrd 1 _ rfl
         have s2:=hrd 2 _ rfl
         have s3:=hrd 3 _ rfl
         have s4:=hrd 4 _ rfl
         rw [Nat.add_zero] at s0
         have x4:=hx.out.cell 4 _ rfl
         have HAO:=mkHid hao
         clear hrd hpc hqi hv
         subst hao
         generalize formP q = rb at *
         generalize q.k = q0 at *
         generalize strN q.l = q1 at *
         generalize strN q.r = q2 at *
         generalize q.c = q3 at *
         go_wp2_with fail
         refine HIH.out.mono ?_
         rintro e w3 ⟨rfl,b3⟩
         have B3:=mkHid (hw.out.trans (b3.mono hw.out.size))
         have X3:=mkHid (hx.out.step b3)
         clear b3 hw hx s0 s1 s2 s3 s4 x4 HIH
         cases rb with
         | false =>
          have HX:Hid (V = false):=mkHid (by rw [HST.out]; rfl)
          go_wp2
          go_ret
          exact ⟨ret_bool HX.out.symm,B3.out⟩
         | true =>
          have HX:Hid (V = (ks.drop (i + 1)).all formP):=mkHid (by rw [HST.out,Bool.true_and])
          go_wp2
          go_roundw
          case rel=>exact ⟨i + 1,by go_num,by omega,B3,X3,HX⟩
          case measure=>simp only [intOf]; omega
        ·have ii:¬ ((i:Int) < n):=by omega
         have HX:Hid (V = true):=mkHid (by rw [hv.out,List.drop_eq_nil_of_le (by rw [← HN.out]; omega)]; rfl)
         go_wp2
         go_ret
         exact ⟨ret_bool HX.out.symm,hw.out⟩
    ·have c0b:(c == 0) = false:=beq_eq_false_iff_ne.mpr c0
     have HX:Hid (V = false):=mkHid (by rw [HV.out,show listB 2 n c = false from by unfold listB; simp [c0b]]; rfl)
     have x0:=X1.out.cell 0 _ rfl
     have x1:=X1.out.cell 1 _ rfl
     have x2:=X1.out.cell 2 _ rfl
     have x3:=X1.out.cell 3 _ rfl
     have x4:=X1.out.cell 4 _ rfl
     go_wp2
     go_ret
     exact ⟨ret_bool HX.out.symm,B1.out⟩
   ·have n2i:¬ ((2:Int)≤n):=by omega
    have HX:Hid (V = false):=mkHid (by rw [HV.out,show listB 2 n c = false from by unfold listB; simp; omega]; rfl)
    have x0:=X1.out.cell 0 _ rfl
    have x1:=X1.out.cell 1 _ rfl
    have x2:=X1.out.cell 2 _ rfl
    have x3:=X1.out.cell 3 _ rfl
    have x4:=X1.out.cell 4 _ rfl
    go_wp2
    go_ret
    exact ⟨ret_bool HX.out.symm,B1.out⟩
  ·have k2b:(κ == 2) = false:=beq_eq_false_iff_ne.mpr k2
   by_cases k3:κ = 3
   ·subst k3
    by_cases c1:1≤c
    ·by_cases cn:c≤(n:Int)
     ·skip
      have HA:Hid (V = (e1 && (e2 && ks.all formP))):=mkHid (by rw [HV.out,show listB 3 n c = true from by unfold listB; simp [c1,cn],Bool.true_and])
      have x0:=X1.out.cell 0 _ rfl
      have x1:=X1.out.cell 1 _ rfl
      have x2:=X1.out.cell 2 _ rfl
      have x3:=X1.out.cell 3 _ rfl
      have x4:=X1.out.cell 4 _ rfl
      cases e1 with
      | false =>
       have HX:Hid (V = false):=mkHid (by rw [HA.out]; rfl)
       go_wp2
       go_ret
       exact ⟨ret_bool HX.out.symm,B1.out⟩
      | true =>
       cases e2 with
       | false =>
        have HX:Hid (V = false):=mkHid (by rw [HA.out]; rfl)
        go_wp2
        go_ret
        exact ⟨ret_bool HX.out.symm,B1.out⟩
       | true =>
        have S0:Hid (V = (ks.drop 0).all formP):=mkHid (by rw [HA.out]; rfl)
        go_wp2_with fail
        clear x0 x1 x2 x3 x4
        go_loopw [6] (fun cc wr=>∃ (i:Nat),cc = .int .i64 i∧i≤n∧Hid (RowKit.Below w.heap.size w wr)∧Hid (HasV wr w.heap.size 25 [.int .i64 3,.string y,.string z,.int .i64 c,.slice ao n cap])∧Hid (V = (ks.drop i).all formP)) (fun c _=>(n - intOf c).toNat)
        case atStart=>exact ⟨0,rfl,by omega,B1,X1,S0⟩
        case round =>
         clear S0 B1 X1 HA HV
         obtain ⟨i,rfl,hi,hw,hx,hv⟩:=hrel
         have ei:IntKind.i64.wrap ((i:Int) + 1) = ((i + 1:Nat):Int):=IntWalk.i64_in _ (by omega)
         by_cases hlt:i < n
         ·have ii:(i:Int) < n:=by omega
          obtain ⟨q,hqi,g,off,hao,hg,us,hpc,hrd⟩:=(HK.out wr hw.out).get (i:=i) (by rw [← HN.out]; exact hlt)
          have HST:=mkHid (hv.out.trans (all_dropG formP ks i q hqi))
          have HIH:=mkHid (IH.out q wr us (List.mem_of_getElem? hqi) hpc)
          obtain ⟨xa,xn,xc,rfl,-⟩:=hpc.form
          have s0:=hrd 0 _ rfl
          have s1:=hrd 1 _ rfl
          have s2:=hrd 2 _ rfl
          have s3:=hrd 3 _ rfl
          have s4:=hrd 4 _ rfl
          rw [Nat.add_zero] at s0
          have x4:=hx.out.cell 4 _ rfl
          have HAO:=mkHid hao
          clear hrd hpc hqi hv
          subst hao
          generalize formP q = rb at *
          generalize q.k = q0 at *
          generalize strN q.l = q1 at *
          generalize strN q.r = q2 at *
          generalize q.c = q3 at *
          go_wp2_with fail
          refine HIH.out.mono ?_
          rintro e w3 ⟨rfl,b3⟩
          have B3:=mkHid (hw.out.trans (b3.mono hw.out.size))
          have X3:=mkHid (hx.out.step b3)
          clear b3 hw hx s0 s1 s2 s3 s4 x4 HIH
          cases rb with
          | false =>
           have HX:Hid (V = false):=mkHid (by rw [HST.out]; rfl)
           go_wp2
           go_ret
           exact ⟨ret_bool HX.out.symm,B3.out⟩
          | true =>
           have HX:Hid (V = (ks.drop (i + 1)).all formP):=mkHid (by rw [HST.out,Bool.true_and])
           go_wp2
           go_roundw
           case rel=>exact ⟨i + 1,by go_num,by omega,B3,X3,HX⟩
           case measure=>simp only [intOf]; omega
         ·have ii:¬ ((i:Int) < n):=by omega
          have HX:Hid (V = true):=mkHid (by rw [hv.out,List.drop_eq_nil_of_le (by rw [← HN.out]; omega)]; rfl)
          go_wp2
          go_ret
          exact ⟨ret_bool HX.out.symm,hw.out⟩
     ·skip
      have HX:Hid (V = false):=mkHid (by rw [HV.out,show listB 3 n c = false from by unfold listB; simp [cn]]; rfl)
      have x0:=X1.out.cell 0 _ rfl
      have x1:=X1.out.cell 1 _ rfl
      have x2:=X1.out.cell 2 _ rfl
      have x3:=X1.out.cell 3 _ rfl
      have x4:=X1.out.cell 4 _ rfl
      go_wp2
      go_ret
      exact ⟨ret_bool HX.out.symm,B1.out⟩
    ·skip
     have HX:Hid (V = false):=mkHid (by rw [HV.out,show listB 3 n c = false from by unfold listB; simp [c1]]; rfl)
     have x0:=X1.out.cell 0 _ rfl
     have x1:=X1.out.cell 1 _ rfl
     have x2:=X1.out.cell 2 _ rfl
     have x3:=X1.out.cell 3 _ rfl
     have x4:=X1.out.cell 4 _ rfl
     go_wp2
     go_ret
     exact ⟨ret_bool HX.out.symm,B1.out⟩
   ·have k3b:(κ == 3) = false:=beq_eq_false_iff_ne.mpr k3
    have k0b:(κ == 0) = false:=beq_eq_false_iff_ne.mpr HK0.out
    have HX:Hid (V = false):=mkHid (by rw [HV.out,show listB κ n c = false from by unfold listB; simp [k1b,k2b,k3b]]; rfl)
    have x0:=X1.out.cell 0 _ rfl
    have x1:=X1.out.cell 1 _ rfl
    have x2:=X1.out.cell 2 _ rfl
    have x3:=X1.out.cell 3 _ rfl
    have x4:=X1.out.cell 4 _ rfl
    go_wp2
    go_ret
    exact ⟨ret_bool HX.out.symm,B1.out⟩
theorem rformed_any:∀ (N:Nat) (p:Prd) (w:World) (P:Nat→Prop) (vs:List Value),cntP p≤N→N≤1000000→BytP p→PredC w P p vs →
  Calls Tryz.prog 165 #[.agg vs.toArray] w fun e w'=>e = .returned (.bool (formP p))∧RowKit.Below w.heap.size w w'
 | 0,p,w,P,vs,hN,_,_,_=>by have:=cnt_pos p; omega
 | N + 1,.mk κ l r c ks,w,P,vs,hN,hM,hb,h=>by
  have hc2:cntL ks≤N:=by unfold cntP at hN; omega
  have hl:=len_le_cntL ks
  unfold PredC at h
  unfold BytP at hb
  obtain ⟨ao,cap,rfl,hk⟩:=h
  by_cases hκ:κ = 0
  ·subst hκ
   have:=rform_atom w l r c ao ks.length cap hb.1 hb.2.1
   rw [formP_eq,if_pos rfl]
   exact this
  ·exact rform_node w P κ l r c ks ao ks.length cap hκ rfl (by omega) hk (fun q w' us hq hpc=>rformed_any N q w' P us (by
    obtain ⟨i,hi⟩:=List.mem_iff_getElem?.1 hq
    have:=cnt_kid ks i q hi
    omega) (by omega) ((BytL_iff ks).1 hb.2.2 q hq) hpc)
theorem couL_dep (M L:Nat) (h:∀ q,couP M L q≤M→depP q≤L):∀ (ks:List Prd) (n:Nat),couL M L n ks≤M→depL ks≤L
 | [],n,_=>by rw [depL]; exact Nat.zero_le _
 | q :: qs,n,hn=>by
  rw [couL] at hn
  rw [depL]
  by_cases hm:n≤M
  ·rw [if_pos hm] at hn
   have h1:=couL_ge M L qs (n + couP M L q)
   have h2:=h q (by omega)
   have h3:=couL_dep M L h qs _ hn
   omega
  ·rw [if_neg hm] at hn
   exact absurd hn hm
theorem couP_dep (M:Nat):∀ (L:Nat) (p:Prd),couP M L p≤M→depP p≤L
 | 0,p,h=>by rw [couP] at h; omega
 | L + 1,.mk k l r c ks,h=>by
  rw [couP] at h
  rw [depP]
  have:=couL_dep M L (couP_dep M L) ks 1 h
  omega
theorem few_small (p:Prd):fewP p 100 12 = smallP p:=by
 rw [Bool.eq_iff_iff]
 constructor
 ·intro h
  have h1:=few_cnt h
  have h2:=couP_dep 100 12 p (of_decide_eq_true h)
  unfold smallP
  rw [Bool.and_eq_true,decide_eq_true_eq,decide_eq_true_eq]
  exact ⟨h1,h2⟩
 ·intro h
  unfold smallP at h
  rw [Bool.and_eq_true,decide_eq_true_eq,decide_eq_true_eq] at h
  exact few_of h.1 h.2
set_option maxHeartbeats 8000000 in
set_option maxRecDepth 100000 in
theorem rvpred_any (p:Prd) (w:World) (P:Nat→Prop) (vs:List Value) (hN:cntP p≤1000000) (hb:BytP p) (hlen:LenP p) (h:PredC w P p vs) :
  Calls Tryz.prog 95 #[.agg vs.toArray] w fun e w'=>e = .returned (.bool (validP p))∧RowKit.Below w.heap.size w w':=by
 obtain ⟨xa,xn,xc,rfl,-⟩:=h.form
 have bx:=(RowKit.Below.refl w.heap.size w).alloc (Nat.le_refl _) (.cells #[.int .i64 p.k,.string (strN p.l),.string (strN p.r),.int .i64 p.c,.slice xa xn xc] 25)
 have B1:=mkHid bx
 have X1:Hid (HasV (w.alloc (.cells #[.int .i64 p.k,.string (strN p.l),.string (strN p.r),.int .i64 p.c,.slice xa xn xc] 25)) w.heap.size 25 [.int .i64 p.k,.string (strN p.l),.string (strN p.r),.int .i64 p.c,.slice xa xn xc]):=mkHid (heap_alloc_new w _)
 have HF:=mkHid (fun W (hW:RowKit.Below w.heap.size w W)=>few_any p 100 12 (by omega) (by omega) W P _ hlen (h.below hW))
 rw [few_small p] at HF
 have HG:=mkHid (fun W (hW:RowKit.Below w.heap.size w W)=>rformed_any (cntP p) p W P _ (Nat.le_refl _) hN hb (h.below hW))
 have HV:Hid (validP p = (smallP p && formP p)):=mkHid rfl
 obtain ⟨V,hV⟩:∃ V,validP p = V:=⟨_,rfl⟩
 rw [hV] at HV ⊢
 clear bx h hb hlen hN hV
 generalize smallP p = s at *
 generalize formP p = f at *
 generalize p.k = q0 at *
 generalize strN p.l = q1 at *
 generalize strN p.r = q2 at *
 generalize p.c = q3 at *
 go_enter Tryz.func95,Tryz.ntmps95
 go_upto_region 1 with (fail)
 generalize w.alloc (.cells #[.int .i64 q0,.string q1,.string q2,.int .i64 q3,.slice xa xn xc] 25) = w1 at *
 go_wp2_with (refine wpList_load_row rfl 25 (.tmp 1) rfl w.heap.size ?a1 25 #[.int .i64 q0,.string q1,.string q2,.int .i64 q3,.slice xa xn xc] (0,0) _ X1.out Tryz.underlying25 rfl (inf_pred _ rfl) ?_; (case a1=>rfl))
 refine (HF.out w1 B1.out).mono ?_
 rintro e w2 ⟨rfl,b2⟩
 have B2:=mkHid (B1.out.trans (b2.mono B1.out.size))
 have X2:=mkHid (X1.out.step b2)
 clear b2 X1 B1
 cases s with
 | false =>
  go_wp2
  go_ret
  exact ⟨ret_bool (by rw [HV.out]; rfl),B2.out⟩
 | true =>
  go_wp2_with (refine wpList_load_wanted (by rfl) 25 (.tmp 1) rfl w.heap.size (by rfl) 25 #[.int .i64 q0,.string q1,.string q2,.int .i64 q3,.slice xa xn xc] (0,0) _ X2.out Tryz.underlying25 rfl (inf_pred _ rfl) ?_)
  refine (HG.out w2 B2.out).mono ?_
  rintro e w3 ⟨rfl,b3⟩
  have B3:=mkHid (B2.out.trans (b3.mono B2.out.size))
  clear b3
  go_wp2
  go_ret
  exact ⟨ret_bool (by rw [HV.out]; rfl),B3.out⟩
set_option maxHeartbeats 8000000 in
set_option maxRecDepth 100000 in
theorem rconst_any (κ:Int) (l r:List Nat) (c:Int) (x:Value) (hx:x.oneCell' = true) (w:World) (hl:∀ y∈l,y < 256) (hr:∀ y∈r,y < 256) :
  Calls Tryz.prog 166 #[.agg #[.int .i64 κ,.string (strN l),.string (strN r),.int .i64 c,x]] w fun e w'=>e = .returned (.bool (conK ⟨l,r,c⟩))∧RowKit.Below w.heap.size w w':=by
 have bx:=(RowKit.Below.refl w.heap.size w).alloc (Nat.le_refl _) (.cells #[.int .i64 κ,.string (strN l),.string (strN r),.int .i64 c,x] 25)
 have B1:=mkHid bx
 have X1:Hid (HasV (w.alloc (.cells #[.int .i64 κ,.string (strN l),.string (strN r),.int .i64 c,x] 25)) w.heap.size 25 [.int .i64 κ,.string (strN l),.string (strN r),.int .i64 c,x]):=mkHid (heap_alloc_new w _)
 have he:=strN_eqL l r hl hr
 have HV:Hid (conK ⟨l,r,c⟩ = (l == r)):=mkHid rfl
 generalize conK ⟨l,r,c⟩ = V at *
 clear bx hl hr
 generalize (l == r) = b at *
 generalize strN l = y at *
 generalize strN r = z at *
 go_enter Tryz.func166,Tryz.ntmps166
 go_upto_region 1 with (fail)
 generalize w.alloc (.cells #[.int .i64 κ,.string y,.string z,.int .i64 c,x] 25) = w1 at *
 have x1:=X1.out.cell 1 _ rfl
 have x2:=X1.out.cell 2 _ rfl
 go_wp2
 go_ret
 exact ⟨ret_bool HV.out.symm,B1.out⟩
end Go.Proofs.YtmkdfbelbcocpaaGreatDoor
