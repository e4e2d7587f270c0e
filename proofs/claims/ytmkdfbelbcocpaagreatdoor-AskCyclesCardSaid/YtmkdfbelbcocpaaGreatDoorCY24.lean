import Derived.Test.YtmkdfbelbcocpaaGreatDoorCY23
import Derived.Test.YtmkdfbelbcocpaaGreatDoorIter
import Derived.Test.YtmkdfbelbcocpaaGreatDoorCY20
import Derived.Test.YtmkdfbelbcocpaaGreatDoorCY21
set_option linter.unusedVariables false
set_option linter.unusedSimpArgs false
namespace Go.Proofs.YtmkdfbelbcocpaaGreatDoor
open Go.RowKit Go.Sort Go.Maps
def PrdsR (w:World) (P:Nat→Prop) (l:List Prd) (ao:Option Addr):Prop:=l = []∨∃ g off,ao = some ⟨g,off,none⟩∧P g∧g < w.heap.size∧KidsC w P l g off
def nmsOf (ks:List Ky):List (List Nat):=ks.flatMap nmsK
theorem nmsOf_take (ks:List Ky) (j:Nat) (k:Ky) (h:ks[j]? = some k):nmsOf (ks.take (j + 1)) = nmsOf (ks.take j) ++ [k.l] ++ [k.r]:=by
 unfold nmsOf
 rw [List.take_add_one,h,List.flatMap_append]
 simp [nmsK]
theorem atoms_take (l:List Prd) (i:Nat) (q:Prd) (h:l[i]? = some q):nmsOf ((l.take (i + 1)).flatMap atomsP) = nmsOf ((l.take i).flatMap atomsP) ++ nmsOf (atomsP q):=by
 unfold nmsOf
 rw [List.take_add_one,h,List.flatMap_append,List.flatMap_append]
 simp
theorem nmsOf_len (ks:List Ky):(nmsOf ks).length = 2 * ks.length:=by
 unfold nmsOf
 induction ks with
 | nil=>rfl
 | cons k ks ih=>rw [List.flatMap_cons,List.length_append,ih]; simp [nmsK]; omega
theorem nmsL_eq (ks:List Ky) (x:List Nat):x∈nmsL ks ↔ x∈(nmsOf ks).filter (fun s=>s != []):=by
 rw [nmsL_mem,List.mem_filter]
 simp [nmsOf,nmsK,List.mem_flatMap,and_comm]
def strV (s:List Nat):Value:=.string (strN s)
set_option maxHeartbeats 16000000 in
set_option maxRecDepth 100000 in
theorem asknames_any (l:List Prd) (w:World) (P:Nat→Prop) (ao:Option Addr) (n cap:Nat) (hn:n = l.length) (hl:PrdsR w P l ao) (hf:∀ q∈l,formP q = true) (hc:∀ q∈l,cntP q≤1000000) (hbig:(l.flatMap atomsP).length≤1000000) (hnb:n≤1000000) :
  Calls Tryz.prog 120 #[.slice ao n cap] w fun e w'=>∃ (ro:Option Addr) (rc:Nat),e = .returned (.slice ro (nmsL (l.flatMap atomsP)).length rc)∧OwnK w' w.heap.size 1 (nmsL (l.flatMap atomsP)).length rc ((nmsL (l.flatMap atomsP)).map strV) ro∧RowKit.Below w.heap.size w w':=by
 have HL:=mkHid hl
 have HN:=mkHid hn
 have HF:=mkHid hf
 have HC:=mkHid hc
 have HBG:=mkHid hbig
 have HFK:=mkHid (fun (q:Prd) (hq:q∈l) (k:Ky) (hk:k∈atomsP q)=>form_keys q (hf q hq) k ((atomsP_mem q k).1 hk))
 have HSO:Hid (∀ s∈nmsOf (l.flatMap atomsP),NmOk s):=mkHid (fun s hs=>by
  unfold nmsOf at hs
  obtain ⟨k,hk,hs⟩:=List.mem_flatMap.1 hs
  obtain ⟨q,hq,hk⟩:=List.mem_flatMap.1 hk
  have hko:=HFK.out q hq k hk
  simp only [nmsK,List.mem_cons,List.not_mem_nil,or_false] at hs
  rcases hs with rfl | rfl
  ·exact nmOk_l hko
  ·exact nmOk_r hko)
 have bx:=(RowKit.Below.refl w.heap.size w).alloc (Nat.le_refl _) (.map #[] 0)
 have BX:=mkHid bx
 have QX:Hid (SetN (w.alloc (.map #[] 0)) w.heap.size []):=mkHid (SetN.nil w)
 clear hl hn hf hc hbig bx
 have hmm:=@run_makeMap Tryz.prog
 go_enter Tryz.func120,Tryz.ntmps120
 go_upto_region 2 with (fail)
 clear hmm
 generalize hwx:w.alloc (.map #[] 0) = wx at *
 clear hwx
 go_wp2_with fail
 have S0:Hid (SetN wx w.heap.size (nmsOf ((l.take 0).flatMap atomsP))):=mkHid QX.out
 have O0:Hid (Only wx wx (· = w.heap.size)):=mkHid (Only.refl _ _)
 clear QX
 have HXX:=mkHid (fun (W:World) (hW:Only wx W (· = w.heap.size))=>Only.later (RowKit.Below.refl w.heap.size w) (Only.trans (Only.of_below (p:=fun g=>w.heap.size≤g) BX.out) (hW.mono (fun g _ hg=>by rw [hg]; exact Nat.le_refl _))) (fun g hg=>hg))
 have HLB:Hid (l = []∨∃ g off,ao = some ⟨g,off,none⟩∧g < w.heap.size∧∀ W,Only wx W (· = w.heap.size)→KidsC W (fun g=>g < w.heap.size) l g off∧w.heap.size < W.heap.size):=mkHid (by
  rcases HL.out with h | ⟨g,off,h1,h2,h3,h4⟩
  ·exact .inl h
  ·refine .inr ⟨g,off,h1,h3,fun W hW=>⟨?_,?_⟩⟩
   ·have hbx:=BX.out
    have hall:∀ x,x < w.heap.size→W.heap[x]? = w.heap[x]?:=fun x hx=>(hW.block x (Nat.lt_of_lt_of_le hx hbx.size) (by omega)).trans (hbx.block x hx)
    exact KidsC.keep (fun x _ hx=>hall x hx) (Nat.le_trans hbx.size hW.size) (fun x _ hx=>hx) l g off h2 h3 h4
   ·have:=S0.out.lt
    exact Nat.lt_of_lt_of_le this hW.size)
 clear HL
 generalize hb:w.heap.size = b at *
 go_loopw [11] (fun cc wr=>∃ (i:Nat),cc = .int .i64 i∧i≤n∧Hid (SetN wr b (nmsOf ((l.take i).flatMap atomsP)))∧Hid (Only wx wr (· = b))) (fun c _=>(n - intOf c).toNat)
 case atStart=>exact ⟨0,rfl,by omega,S0,O0⟩
 case round =>
  clear S0 O0
  obtain ⟨i,rfl,hi,hq,ho⟩:=hrel
  have e2:IntKind.i64.wrap ((i:Int) + 1) = ((i + 1:Nat):Int):=IntWalk.i64_in _ (by omega)
  by_cases hlt:i < n
  ·have ii:(i:Int) < n:=by omega
   have HQ:Hid (∃ q,l[i]? = some q∧∃ g off,ao = some ⟨g,off,none⟩∧∃ vs,PredC wr (fun g=>g < b) q vs∧Reads wr g (off + i * 5) vs):=mkHid (by
    have hll:i < l.length:=by rw [← HN.out]; exact hlt
    refine ⟨l[i],List.getElem?_eq_getElem hll,?_⟩
    rcases HLB.out with h | ⟨g,off,h1,h3,h4⟩
    ·rw [h] at hll; exact absurd hll (Nat.not_lt_zero _)
    ·obtain ⟨vs,hv1,hv2⟩:=KidsC.at l g off i _ (List.getElem?_eq_getElem hll) (h4 wr ho.out).1
     exact ⟨g,off,h1,vs,hv1,hv2⟩)
   obtain ⟨q,hqi,gk,off,hao,vs,hpc,hrd⟩:=HQ.out
   clear HQ
   have HQM:=mkHid (List.mem_of_getElem? hqi)
   have HTK:=mkHid (atoms_take l i q hqi)
   obtain ⟨xa,xn,xc,hvf,-⟩:=hpc.form
   rw [hvf] at hrd hpc
   have PC:=mkHid hpc
   have s0:=hrd 0 _ rfl
   have s1:=hrd 1 _ rfl
   have s2:=hrd 2 _ rfl
   have s3:=hrd 3 _ rfl
   have s4:=hrd 4 _ rfl
   rw [Nat.add_zero] at s0
   have HAO:=mkHid hao
   have HAT:=mkHid (fun W (hW:PredC W (fun g=>g < b) q [.int .i64 q.k,.string (strN q.l),.string (strN q.r),.int .i64 q.c,.slice xa xn xc])=>atoms_any W (fun g=>g < b) q _ hW (HF.out q HQM.out) (HC.out q HQM.out))
   have HKF:=mkHid (HFK.out q HQM.out)
   have HLN:Hid ((nmsOf ((l.take i).flatMap atomsP)).length + 2 * (atomsP q).length≤2000000):=mkHid (by
    have e1:=congrArg List.length HTK.out
    rw [List.length_append,nmsOf_len (atomsP q)] at e1
    rw [← e1,nmsOf_len]
    have:((l.take (i + 1)).flatMap atomsP).length≤(l.flatMap atomsP).length:=by
     conv=>rhs; rw [← List.take_append_drop (i + 1) l,List.flatMap_append,List.length_append]
     omega
    have:=HBG.out
    omega)
   have HSS:Hid (∀ s∈nmsOf ((l.take i).flatMap atomsP),NmOk s):=mkHid (fun s hs=>HSO.out s (by
    unfold nmsOf at hs ⊢
    obtain ⟨k,hk,hs⟩:=List.mem_flatMap.1 hs
    obtain ⟨p,hp,hk⟩:=List.mem_flatMap.1 hk
    exact List.mem_flatMap.2 ⟨k,List.mem_flatMap.2 ⟨p,List.mem_of_mem_take hp,hk⟩,hs⟩))
   clear hrd hpc hvf vs hqi
   subst hao
   generalize q.k = q0 at *
   generalize strN q.l = q1 at *
   generalize strN q.r = q2 at *
   generalize q.c = q3 at *
   obtain ⟨S,hS⟩:∃ S,nmsOf ((l.take i).flatMap atomsP) = S:=⟨_,rfl⟩
   rw [hS] at HTK HLN HSS hq
   clear hS
   have bx:=(RowKit.Below.refl wr.heap.size wr).alloc (Nat.le_refl _) (.cells #[.int .i64 q0,.string q1,.string q2,.int .i64 q3,.slice xa xn xc] 25)
   have Y1:Hid (HasV (wr.alloc (.cells #[.int .i64 q0,.string q1,.string q2,.int .i64 q3,.slice xa xn xc] 25)) wr.heap.size 25 [.int .i64 q0,.string q1,.string q2,.int .i64 q3,.slice xa xn xc]):=mkHid (heap_alloc_new _ _)
   have PX:=mkHid (PC.out.below bx)
   have hq1:=mkHid (hq.out.step bx)
   have ho1:=mkHid (ho.out.step bx)
   have hbl:Hid (b < wr.heap.size):=mkHid hq.out.lt
   clear bx PC hq ho
   go_upto_region 5 with (fail)
   clear s0 s1 s2 s3 s4
   generalize wr.alloc (.cells #[.int .i64 q0,.string q1,.string q2,.int .i64 q3,.slice xa xn xc] 25) = wy at *
   go_wp2_with (refine wpList_load_row rfl 25 (.tmp 5) rfl wr.heap.size ?x1 25 #[.int .i64 q0,.string q1,.string q2,.int .i64 q3,.slice xa xn xc] (0,0) _ Y1.out Tryz.underlying25 rfl (inf_pred _ rfl) ?_; (case x1=>rfl))
   refine (HAT.out wy PX.out).mono ?_
   rintro e w3 ⟨ak,ck,rfl,hok,b3⟩
   have hq3:=mkHid (hq1.out.step b3)
   have ho3:=mkHid (ho1.out.step b3)
   have K3:=mkHid (hok.keysR rfl)
   have KB3:Hid (∀ g,blk ak = some g→b < g):=mkHid (fun g hg=>Nat.lt_of_lt_of_le (Nat.lt_of_lt_of_le hbl.out (Nat.le_of_lt Y1.out.lt)) (hok.blk_lt hg).1)
   clear b3 hok HAT PX hq1 ho1 Y1
   obtain ⟨ks,hks⟩:∃ ks,atomsP q = ks:=⟨_,rfl⟩
   rw [hks] at HTK HLN K3 HKF
   rw [hks]
   clear hks
   obtain ⟨m,hm⟩:∃ m,ks.length = m:=⟨_,rfl⟩
   have HM:=mkHid hm
   rw [hm] at HLN
   rw [hm]
   clear hm
   have hlen:=HLN.out
   have Z0:Hid (SetN w3 b (S ++ nmsOf (ks.take 0))):=mkHid (by have:=hq3.out; rwa [show nmsOf (ks.take 0) = [] from rfl,List.append_nil])
   have Z1:Hid (Only w3 w3 (· = b)):=mkHid (Only.refl _ _)
   go_wp2_with fail
   go_loopw [18] (fun cc wr=>∃ (j:Nat),cc = .int .i64 j∧j≤m∧Hid (SetN wr b (S ++ nmsOf (ks.take j)))∧Hid (Only w3 wr (· = b))) (fun c _=>(m - intOf c).toNat)
   case atStart=>exact ⟨0,rfl,by omega,Z0,Z1⟩
   case round =>
    clear Z0 Z1
    obtain ⟨j,rfl,hj,hz,hy⟩:=hrel
    have e3:IntKind.i64.wrap ((j:Int) + 1) = ((j + 1:Nat):Int):=IntWalk.i64_in _ (by omega)
    by_cases hjl:j < m
    ·have jj:(j:Int) < m:=by omega
     have HQ:Hid (∃ k,ks[j]? = some k):=mkHid (by
      have hl:j < ks.length:=by rw [HM.out]; exact hjl
      exact ⟨ks[j],List.getElem?_eq_getElem hl⟩)
     obtain ⟨k,hki⟩:=HQ.out
     clear HQ
     have HTJ:=mkHid (nmsOf_take ks j k hki)
     have HKO:=mkHid (HKF.out k (List.mem_of_getElem? hki))
     have HKR:Hid (KeysR wr ak ks):=mkHid (by
      rcases K3.out with h | ⟨g,o,h1,h2,h3⟩
      ·exact .inl h
      ·have:=KB3.out g (by rw [h1]; rfl)
       exact .inr ⟨g,o,h1,Nat.lt_of_lt_of_le h2 hy.out.size,h3.of_block (hy.out.block g h2 (by omega))⟩)
     obtain ⟨g,o,hak,hg,s0,s1,s2⟩:=HKR.out.at j k hki
     have HAK:=mkHid hak
     have HSJ:Hid (∀ s∈S ++ nmsOf (ks.take j),NmOk s):=mkHid (fun s hs=>by
      rcases List.mem_append.1 hs with hs | hs
      ·exact HSS.out s hs
      ·unfold nmsOf at hs
       obtain ⟨x,hx,hs⟩:=List.mem_flatMap.1 hs
       have hko:=HKF.out x (List.mem_of_mem_take hx)
       simp only [nmsK,List.mem_cons,List.not_mem_nil,or_false] at hs
       rcases hs with rfl | rfl
       ·exact nmOk_l hko
       ·exact nmOk_r hko)
     have HL1:Hid ((S ++ nmsOf (ks.take j)).length < maxLen):=mkHid (by
      rw [List.length_append,nmsOf_len,List.length_take]
      have:min j ks.length≤m:=by rw [HM.out]; exact Nat.min_le_right _ _
      exact Nat.lt_of_le_of_lt (show _≤2000000 by omega) (by decide))
     have HL2:Hid ((S ++ nmsOf (ks.take j) ++ [k.l]).length < maxLen):=mkHid (by
      rw [List.length_append,List.length_append,nmsOf_len,List.length_take]
      have:min j ks.length≤m:=by rw [HM.out]; exact Nat.min_le_right _ _
      exact Nat.lt_of_le_of_lt (show _≤2000001 by simp; omega) (by decide))
     have HKL:=mkHid (keyOf_nm k.l (nmOk_l HKO.out))
     have HKR2:=mkHid (keyOf_nm k.r (nmOk_r HKO.out))
     clear hki HKR hg
     subst hak
     generalize hyl:strN k.l = y1 at *
     generalize hyr:strN k.r = y2 at *
     generalize k.c = y3 at *
     have bx:=(RowKit.Below.refl wr.heap.size wr).alloc (Nat.le_refl _) (.cells #[.string y1,.string y2,.int .i64 y3] 123)
     have Y1:Hid (HasV (wr.alloc (.cells #[.string y1,.string y2,.int .i64 y3] 123)) wr.heap.size 123 [.string y1,.string y2,.int .i64 y3]):=mkHid (heap_alloc_new _ _)
     have hz1:=mkHid (hz.out.step bx)
     have hy1:=mkHid (hy.out.step bx)
     have hbn:Hid (b < wr.heap.size):=mkHid hz.out.lt
     clear bx hz hy hyl hyr
     go_upto_region 8 with (fail)
     clear s0 s1 s2
     generalize wr.alloc (.cells #[.string y1,.string y2,.int .i64 y3] 123) = wk at *
     refine wp_region_pickS [0,1,2,3,4,5] [6,7] (fun w'=>HasV w' wr.heap.size 123 [.string y1,.string y2,.int .i64 y3]) (by kernel_rfl) (by kernel_rfl) (by kernel_rfl) (fun _ _ d _ _ h=>by cases d <;> exact h) Y1.out ?_
     simp only [pickI,List.filterMap_cons,List.filterMap_nil,List.getElem?_cons_zero,List.getElem?_cons_succ,Option.map_some,List.map_cons,List.map_nil]
     apply Exists.intro
     refine ⟨?hh,?ht⟩
     case hh =>
      intro w' hw'
      have c0:=hw'.cell 0 _ rfl
      have c1:=hw'.cell 1 _ rfl
      clear hw'
      repeat still_step
      exact wpStill_nil rfl
     case ht =>
      have BD:=(RowKit.Below.refl wk.heap.size wk).drew
      have Y2:=mkHid (Y1.out.step BD)
      have hz2:=mkHid (hz1.out.step BD)
      have hy2:=mkHid (hy1.out.step BD)
      clear BD Y1 hz1 hy1
      generalize wk.drew = wd at *
      refine wpTailS_cons ?_
      obtain ⟨D,hown,hh,ha⟩:=hz2.out
      have HH:=mkHid hh
      have HA:=mkHid ha
      have HO:=mkHid hown
      clear hh ha hown
      go_wp2_with (at_mapUpdate; refine wpList_mapUpdate_own _ rfl (.tmp 22) (.tmp 24) _ 195 rfl 9 4 nmLaw Tryz.underlying195 (plainElem Tryz.prog 4) b (S ++ nmsOf (ks.take j)).length D rfl HO.out HL1.out (.string y1) (.bool true) (litN k.l) rfl rfl HKL.out (.lit (.bool true)) [] (plainElem_bool Tryz.underlying4 true) ?_; intro w6 hown6 hgrow6; have hz6:=mkHid (SetN.put k.l (nmOk_l HKO.out) HO.out HH.out HA.out hown6); have hy6:=mkHid (hy2.out.trans (only_of_grown hgrow6)); have Y6:=mkHid (Y2.out.grownBy hgrow6 (by intro e; have:=hbn.out; have:=Option.some.inj e; omega)); clear hown6 hgrow6)
      clear HO HH HA hz2 hy2 Y2
      refine postOf_normal ⟨Y6.out,?_⟩
      refine wpTailS_cons ?_
      obtain ⟨D,hown,hh,ha⟩:=hz6.out
      have HH:=mkHid hh
      have HA:=mkHid ha
      have HO:=mkHid hown
      clear hh ha hown
      go_wp2_with (at_mapUpdate; refine wpList_mapUpdate_own _ rfl (.tmp 25) (.tmp 27) _ 195 rfl 9 4 nmLaw Tryz.underlying195 (plainElem Tryz.prog 4) b (S ++ nmsOf (ks.take j) ++ [k.l]).length D rfl HO.out HL2.out (.string y2) (.bool true) (litN k.r) rfl rfl HKR2.out (.lit (.bool true)) [] (plainElem_bool Tryz.underlying4 true) ?_; intro w7 hown7 hgrow7; have hz7:=mkHid (SetN.put k.r (nmOk_r HKO.out) HO.out HH.out HA.out hown7); have hy7:=mkHid (hy6.out.trans (only_of_grown hgrow7)); have Y7:=mkHid (Y6.out.grownBy hgrow7 (by intro e; have:=hbn.out; have:=Option.some.inj e; omega)); clear hown7 hgrow7)
      clear HO HH HA hz6 hy6 Y6
      refine postOf_normal ⟨Y7.out,?_⟩
      unfold wpTailS
      have hz8:Hid (SetN w7 b (S ++ nmsOf (ks.take (j + 1)))):=mkHid (by have:=hz7.out; rwa [HTJ.out,← List.append_assoc,← List.append_assoc])
      clear hz7 Y7
      go_wp2
      go_roundw
      case rel=>exact ⟨j + 1,by go_num,by omega,hz8,hy7⟩
      case measure=>simp only [intOf]; omega
    ·have jj:¬ ((j:Int) < m):=by omega
     have hz9:Hid (SetN wr b (nmsOf ((l.take (i + 1)).flatMap atomsP))):=mkHid (by
      have:=hz.out
      rwa [HTK.out,← show ks.take j = ks from List.take_of_length_le (by rw [HM.out]; omega)])
     have hy9:=mkHid (ho3.out.trans hy.out)
     clear hz hy hq3 ho3 K3
     go_wp2
     go_roundw
     case rel=>exact ⟨i + 1,by go_num,by omega,hz9,hy9⟩
     case measure=>simp only [intOf]; omega
  ·have ii:¬ ((i:Int) < n):=by omega
   have HQE:Hid (SetN wr b (nmsOf (l.flatMap atomsP))):=mkHid (by
    have:=hq.out
    rwa [show l.take i = l from List.take_of_length_le (by rw [← HN.out]; omega)] at this)
   clear hq
   have HZE:=mkHid (keyOf_nm [] nmOk_nil)
   obtain ⟨D,hown,hh,ha⟩:=HQE.out
   have HH:=mkHid hh
   have HO:=mkHid hown
   clear hh ha hown
   go_wp2_with (at_delete; refine wpList_delete_own _ rfl _ _ 195 9 rfl 4 nmLaw Tryz.underlying195 (plainElem Tryz.prog 4) b (nmsOf (l.flatMap atomsP)).length D rfl HO.out (.string ⟨#[]⟩) (litN []) rfl HZE.out ?_; intro w6 hown6 hturn6; have HO6:=mkHid hown6; have ho6:=mkHid (ho.out.trans (only_of_grown hturn6.grown)); clear hown6 hturn6)
   have HNS:=mkHid (fun (ss:List (List UInt8)) (hp:ss.Perm (strKeys (D.del (litN []))))=>sorted_names HO6.out (nmsL (l.flatMap atomsP)) (fun s hs=>HSO.out s (List.mem_filter.1 ((nmsL_eq _ s).1 hs)).1) (nmsL_asc _) (fun z=>by
    rw [SetN.del [] HH.out HSO.out nmOk_nil z]
    constructor
    ·rintro ⟨x,hx,hl⟩; exact ⟨x,(nmsL_eq _ x).2 hx,hl⟩
    ·rintro ⟨x,hx,hl⟩; exact ⟨x,(nmsL_eq _ x).1 hx,hl⟩) ss hp)
   have HSZ:Hid (Maps.size (D.del (litN []))≤2000000):=mkHid (by
    have h1:=HO6.out.size_le
    rw [nmsOf_len] at h1
    have:=HBG.out
    omega)
   have HMX:Hid (2000000≤maxLen):=mkHid (by decide)
   have B6:=mkHid (hb ▸ HXX.out w6 ho6.out)
   clear HO HH ho
   go_wp2_with fail
   refine (callsIn_wide.1 (Tryz.maps_Keys_180 (some b) w6)).mono ?_
   rintro e w7 ⟨rfl,hw7⟩
   have HW7:=mkHid hw7
   clear hw7
   go_wp2_with fail
   have HS:=mkHid (callsIn_wide.1 (Tryz.slices_Sorted_keys_179_180 b _ _ _ w6 HO6.out (Nat.le_trans HSZ.out HMX.out) (by have:=HSZ.out; omega)))
   rw [← HW7.out] at HS
   refine HS.out.mono ?_
   rintro e w8 ⟨v,ss,rfl,hp,hrow,hnil,hb8⟩
   have h7:RowKit.Below w6.heap.size w6 w7:=by rw [HW7.out]; exact (RowKit.Below.refl _ _).alloc (Nat.le_refl _) _
   have B7:=mkHid (B6.out.trans (h7.mono B6.out.size))
   have B8:=mkHid (B7.out.trans (hb8.mono B7.out.size))
   have HE:=mkHid (HNS.out ss hp)
   have HR:Hid (∃ (ro:Option Addr) (rc:Nat),v = .slice ro (nmsL (l.flatMap atomsP)).length rc∧OwnK w8 w.heap.size 1 (nmsL (l.flatMap atomsP)).length rc ((nmsL (l.flatMap atomsP)).map strV) ro):=mkHid (by
    obtain ⟨e1,e2⟩:=HE.out
    rw [e1,e2] at hrow
    have e3:((nmsL (l.flatMap atomsP)).map byL).map encStr = (nmsL (l.flatMap atomsP)).map strV:=by rw [List.map_map]; rfl
    rw [e3] at hrow
    by_cases h0:(nmsL (l.flatMap atomsP)).length = 0
    ·have hss:ss = []:=List.eq_nil_of_length_eq_zero (by rw [e2]; exact h0)
     have hn0:=List.eq_nil_of_length_eq_zero h0
     rw [hn0]
     exact ⟨none,0,hnil.2 hss,.nil rfl rfl rfl⟩
    ·obtain ⟨g,c,hv,ho,hl,hc1,hc2⟩:=OwnK.of_row hrow (by omega)
     exact ⟨some ⟨g,0,none⟩,c,hv,(OwnK.at g 0 ho hl hc1 hc2).lower B7.out.size⟩)
   obtain ⟨ro,rc,hv,hO⟩:=HR.out
   have HOO:=mkHid hO
   clear hrow hnil hb8 h7 hp hO HR
   subst hv
   go_wp2
   go_ret
   exact ⟨ro,rc,rfl,HOO.out,B8.out⟩
end Go.Proofs.YtmkdfbelbcocpaaGreatDoor
namespace Go.Proofs.YtmkdfbelbcocpaaGreatDoor
open Go.RowKit Go.Sort Go.Maps
def StrsR (w:World) (ao:Option Addr) (l:List (List Nat)):Prop:=l = []∨∃ g off,ao = some ⟨g,off,none⟩∧g < w.heap.size∧Reads w g off (l.map strV)
theorem StrsR.below {w w':World} {ao:Option Addr} {l:List (List Nat)} (h:StrsR w ao l) (hb:RowKit.Below w.heap.size w w'):StrsR w' ao l:=by
 rcases h with h | ⟨g,off,h1,h2,h3⟩
 ·exact .inl h
 ·exact .inr ⟨g,off,h1,Nat.lt_of_lt_of_le h2 hb.size,h3.of_block (hb.block g h2)⟩
theorem OwnK.strsR {w:World} {B n cap:Nat} {ao:Option Addr} {l:List (List Nat)} (h:OwnK w B 1 n cap (l.map strV) ao) (hn:n = l.length):StrsR w ao l:=by
 cases h with
 | nil h h1 h2=>exact .inl (List.eq_nil_of_length_eq_zero (by omega))
 | «at» g off h h1 h2 h3=>exact .inr ⟨g,off,rfl,h.lt,h.cells⟩
theorem StrsR.at {w:World} {ao:Option Addr} {l:List (List Nat)} (h:StrsR w ao l) (i:Nat) (s:List Nat) (hs:l[i]? = some s):∃ g off,ao = some ⟨g,off,none⟩∧g < w.heap.size∧w.cell? ⟨g,off + i,none⟩ = some (.string (strN s)):=by
 rcases h with h | ⟨g,off,h1,h2,h3⟩
 ·rw [h] at hs; simp at hs
 ·exact ⟨g,off,h1,h2,h3 i _ (by rw [List.getElem?_map,hs]; rfl)⟩
end Go.Proofs.YtmkdfbelbcocpaaGreatDoor
namespace Go.Proofs.YtmkdfbelbcocpaaGreatDoor
mutual
def RawP:Prd→Prop
 | .mk _ l r _ ks=>(∀ y∈l,y < 256)∧(∀ y∈r,y < 256)∧RawL ks
def RawL:List Prd→Prop
 | []=>True
 | p :: ps=>RawP p∧RawL ps
end
theorem RawL_iff:∀ ks:List Prd,RawL ks ↔ ∀ q∈ks,RawP q
 | []=>by simp [RawL]
 | p :: ps=>by simp [RawL,RawL_iff ps]
mutual
theorem byt_of:∀ p,RawP p→namP p = true→BytP p
 | .mk k l r c ks,h,hn=>by
  unfold RawP at h
  unfold namP at hn
  simp only [Bool.and_eq_true,decide_eq_true_eq] at hn
  unfold BytP
  exact ⟨⟨h.1,by omega⟩,⟨h.2.1,by omega⟩,byt_ofL ks h.2.2 hn.1⟩
theorem byt_ofL:∀ ks,RawL ks→namL ks = true→BytL ks
 | [],_,_=>by unfold BytL; trivial
 | p :: ps,h,hn=>by
  unfold RawL at h
  unfold namL at hn
  rw [Bool.and_eq_true] at hn
  unfold BytL
  exact ⟨byt_of p h.1 hn.1,byt_ofL ps h.2 hn.2⟩
end
end Go.Proofs.YtmkdfbelbcocpaaGreatDoor
namespace Go.Proofs.YtmkdfbelbcocpaaGreatDoor
open Go.RowKit Go.Sort
def ascB:List (List Nat)→Bool
 | []=>true
 | [_]=>true
 | x :: y :: l=>ltL x y && ascB (y :: l)
theorem ascB_iff:∀ l,ascB l = true ↔ AscN l
 | []=>by simp [ascB,AscN]
 | [x]=>by simp [ascB,AscN]
 | x :: y :: l=>by
  have ih:=ascB_iff (y :: l)
  show (ltL x y && ascB (y :: l)) = true ↔ _
  rw [Bool.and_eq_true,ih]
  constructor
  ·rintro ⟨h1,h2⟩
   refine List.pairwise_cons.2 ⟨fun z hz=>?_,h2⟩
   rcases List.mem_cons.1 hz with rfl | hz
   ·exact h1
   ·exact ltL_trans _ _ _ h1 ((List.pairwise_cons.1 h2).1 z hz)
  ·intro h
   have h':=List.pairwise_cons.1 h
   exact ⟨h'.1 y (by simp),h'.2⟩
def givenP (ns:List (List Nat)) (most:Int):Bool:=(decide (ns.length≤16) && (decide (0≤most) && decide (most≤65535))) && (ns.all validN && ascB ns)
def goodN (ns:List (List Nat)) (i:Nat):Prop:=∀ j s,j < i→ns[j]? = some s→validN s = true∧∀ r,0 < j→ns[j - 1]? = some r→ltL r s = true
theorem goodN_all:∀ (ns:List (List Nat)),goodN ns ns.length→(ns.all validN && ascB ns) = true
 | [],_=>rfl
 | [x],h=>by
  have:=(h 0 x (by simp) rfl).1
  simp [ascB,this]
 | x :: y :: l,h=>by
  have ih:=goodN_all (y :: l) (fun j s hj hs=>by
   obtain ⟨h1,h2⟩:=h (j + 1) s (by simpa using hj) (by simpa using hs)
   refine ⟨h1,fun r h0 hr=>h2 r (by omega) ?_⟩
   rw [show j + 1 - 1 = (j - 1) + 1 by omega,List.getElem?_cons_succ]
   exact hr)
  rw [Bool.and_eq_true] at ih ⊢
  have h1:=(h 0 x (by simp) rfl).1
  have h2:=(h 1 y (by simp) rfl).2 x (by omega) rfl
  refine ⟨?_,?_⟩
  ·rw [List.all_cons,h1,ih.1]; rfl
  ·show (ltL x y && ascB (y :: l)) = true
   rw [h2,ih.2]; rfl
theorem goodN_bad {ns:List (List Nat)} {i:Nat} {s:List Nat} (hs:ns[i]? = some s) (h:validN s = false∨∃ r,0 < i∧ns[i - 1]? = some r∧ltL r s = false):(ns.all validN && ascB ns) = false:=by
 rw [Bool.eq_false_iff]
 intro ht
 rw [Bool.and_eq_true,List.all_eq_true,ascB_iff] at ht
 rcases h with h | ⟨r,h0,h1,h2⟩
 ·have:=ht.1 s (List.mem_of_getElem? hs)
  rw [h] at this; cases this
 ·have e1:=(List.getElem?_eq_some_iff.1 h1)
  have e2:=(List.getElem?_eq_some_iff.1 hs)
  have:=List.pairwise_iff_getElem.1 ht.2 (i - 1) i e1.1 e2.1 (by omega)
  rw [e1.2,e2.2,h2] at this
  cases this
theorem goodN_next {ns:List (List Nat)} {i:Nat} {s:List Nat} (h:goodN ns i) (hs:ns[i]? = some s) (hv:validN s = true) (ha:∀ r,0 < i→ns[i - 1]? = some r→ltL r s = true):goodN ns (i + 1):=by
 intro j s' hj hs'
 rcases Nat.lt_succ_iff_lt_or_eq.1 hj with h1 | rfl
 ·exact h j s' h1 hs'
 ·rw [hs] at hs'
  cases hs'
  exact ⟨hv,ha⟩
set_option maxHeartbeats 8000000 in
set_option maxRecDepth 100000 in
theorem given_any (ns:List (List Nat)) (most:Int) (ao:Option Addr) (n cap:Nat) (w:World) (B:Nat) (hT:Tab w B) (hn:n = ns.length) (hr:StrsR w ao ns) (hb:∀ s∈ns,NmB s) (hbig:n≤1000000) :
  Calls Tryz.prog 174 #[.slice ao n cap,.int .i64 most] w fun e w'=>e = .returned (.bool (givenP ns most))∧Below w.heap.size w w':=by
 have HV:Hid (givenP ns most = ((decide (n≤16) && (decide (0≤most) && decide (most≤65535))) && (ns.all validN && ascB ns))):=mkHid (by rw [hn]; rfl)
 generalize givenP ns most = V at *
 have HR:=mkHid hr
 have HB:=mkHid hb
 have HN:=mkHid hn
 have HT:=mkHid (fun W (hW:Below w.heap.size w W)=>Tab.keep hT (fun k hk=>hW.block k (Nat.lt_of_lt_of_le hk hT.size)) hW.size)
 have B0:=mkHid (Below.refl w.heap.size w)
 clear hr hb hn hT
 go_enter Tryz.func174,Tryz.ntmps174
 by_cases h16:16 < n
 ·have h1:(16:Int) < n:=by omega
  go_wp2
  go_ret
  exact ⟨ret_bool (by rw [HV.out,decide_eq_false (by omega)]; rfl),B0.out⟩
 ·have h1:¬ (16:Int) < n:=by omega
  by_cases hm0:most < 0
  ·go_wp2
   go_ret
   exact ⟨ret_bool (by rw [HV.out,decide_eq_false (by omega:¬ 0≤most)]; simp),B0.out⟩
  ·by_cases hm1:65535 < most
   ·go_wp2
    go_ret
    exact ⟨ret_bool (by rw [HV.out,decide_eq_false (by omega:¬ most≤65535)]; simp),B0.out⟩
   ·have HV2:Hid (V = (ns.all validN && ascB ns)):=mkHid (by rw [HV.out,decide_eq_true (by omega),decide_eq_true (by omega),decide_eq_true (by omega)]; rfl)
    clear HV
    go_wp2_with fail
    go_loopw [20] (fun c wr=>∃ i:Nat,c = .int .i64 i∧i≤n∧Hid (goodN ns i)∧Hid (Below w.heap.size w wr)) (fun c _=>(n - intOf c).toNat)
    case atStart=>exact ⟨0,rfl,by omega,mkHid (fun j s hj=>absurd hj (Nat.not_lt_zero _)),B0⟩
    case round =>
     clear B0
     obtain ⟨i,rfl,hi,hg,hw⟩:=hrel
     have e2:IntKind.i64.wrap ((i:Int) + 1) = ((i + 1:Nat):Int):=IntWalk.i64_in _ (by omega)
     by_cases hlt:i < n
     ·have ii:(i:Int) < n:=by omega
      obtain ⟨s,hs⟩:∃ s,ns[i]? = some s:=⟨_,List.getElem?_eq_getElem (by rw [← HN.out]; exact hlt)⟩
      have HS:=mkHid hs
      obtain ⟨g,off,hao,hgl,hc⟩:=(HR.out.below hw.out).at i s hs
      have HAO:=mkHid hao
      subst hao
      have HNM:=mkHid (HB.out s (List.mem_of_getElem? hs))
      have HVN:=mkHid (vname_any s wr B (HT.out wr hw.out) HNM.out.2 HNM.out.1)
      obtain ⟨v,hv⟩:∃ v,validN s = v:=⟨_,rfl⟩
      rw [hv] at HVN
      have HVV:=mkHid hv
      clear hv hs hgl
      cases v with
      | false =>
       generalize hy:strN s = y at *
       clear hy
       go_wp2_with fail
       refine HVN.out.mono ?_
       rintro e w2 ⟨rfl,b2⟩
       have B2:=mkHid (hw.out.trans ((below_dn b2).mono hw.out.size))
       clear b2
       go_wp2
       go_ret
       exact ⟨ret_bool (by rw [HV2.out]; exact (goodN_bad HS.out (.inl HVV.out)).symm),B2.out⟩
      | true =>
       by_cases h0:i = 0
       ·have i0:¬ (0:Int) < (i:Int):=by omega
        have HG2:=mkHid (goodN_next hg.out HS.out HVV.out (fun r hr _=>absurd hr (by omega)))
        generalize hy:strN s = y at *
        clear hy h0
        go_wp2_with fail
        refine HVN.out.mono ?_
        rintro e w2 ⟨rfl,b2⟩
        have B2:=mkHid (hw.out.trans ((below_dn b2).mono hw.out.size))
        clear b2 hw
        go_wp2_with fail
        go_roundw
        case rel=>exact ⟨i + 1,by go_num,by omega,HG2,B2⟩
        case measure=>simp only [intOf]; omega
       ·have i0:(0:Int) < (i:Int):=by omega
        obtain ⟨j,rfl⟩:∃ j,i = j + 1:=⟨i - 1,by omega⟩
        have e3:IntKind.i64.wrap (((j + 1:Nat):Int) - 1) = (j:Int):=by rw [show ((j + 1:Nat):Int) - 1 = (j:Int) by omega]; exact IntWalk.i64_in _ (by omega)
        obtain ⟨r,hr⟩:∃ r,ns[j]? = some r:=⟨_,List.getElem?_eq_getElem (by rw [← HN.out]; omega)⟩
        have HRJ:=mkHid hr
        have jj:(j:Int) < n:=by omega
        have HNR:=mkHid (HB.out r (List.mem_of_getElem? hr))
        have hl:=strN_less r s HNR.out.1 HNM.out.1
        have HLT:Hid (∀ b,ltL r s = b→Op.bytesLess (strN r).toList (strN s).toList = b):=mkHid (fun b h=>hl.trans h)
        have HCR:Hid (∀ W,Below wr.heap.size wr W→W.cell? ⟨g,off + j,none⟩ = some (.string (strN r))):=mkHid (fun W hW=>by
         obtain ⟨g',off',e',h1,h2⟩:=((HR.out.below hw.out).below hW).at j r hr
         cases e'
         exact h2)
        clear hl hr
        have HYR:Hid True:=mkHid trivial
        cases hlr:ltL r s with
        | true =>
         have HG2:=mkHid (goodN_next hg.out HS.out HVV.out (fun r' _ hr'=>by
          rw [show j + 1 - 1 = j by omega,HRJ.out] at hr'
          cases hr'
          exact hlr))
         have l1:=HLT.out true hlr
         clear hlr HLT h0
         generalize hy:strN s = y at *
         generalize hz:strN r = z at *
         clear hy hz
         go_wp2_with fail
         refine HVN.out.mono ?_
         rintro e w2 ⟨rfl,b2⟩
         have B2:=mkHid (hw.out.trans ((below_dn b2).mono hw.out.size))
         have c2:=HCR.out w2 (below_dn b2)
         clear b2 hw
         go_wp2_with fail
         go_roundw
         case rel=>exact ⟨j + 1 + 1,by go_num,by omega,HG2,B2⟩
         case measure=>simp only [intOf]; omega
        | false =>
         have l1:=HLT.out false hlr
         have HF:=mkHid (goodN_bad HS.out (.inr ⟨r,by omega,HRJ.out,hlr⟩))
         clear hlr HLT h0
         generalize hy:strN s = y at *
         generalize hz:strN r = z at *
         clear hy hz
         go_wp2_with fail
         refine HVN.out.mono ?_
         rintro e w2 ⟨rfl,b2⟩
         have B2:=mkHid (hw.out.trans ((below_dn b2).mono hw.out.size))
         have c2:=HCR.out w2 (below_dn b2)
         clear b2 hw
         go_wp2
         go_ret
         exact ⟨ret_bool (by rw [HV2.out]; exact HF.out.symm),B2.out⟩
     ·obtain rfl:i = n:=by omega
      have ii:¬ ((i:Int) < (i:Int)):=by omega
      go_wp2
      go_ret
      exact ⟨ret_bool (by rw [HV2.out]; exact (goodN_all ns (by rw [← HN.out]; exact hg.out)).symm),hw.out⟩
end Go.Proofs.YtmkdfbelbcocpaaGreatDoor
namespace Go.Proofs.YtmkdfbelbcocpaaGreatDoor
open Go.RowKit Go.Sort
set_option maxHeartbeats 2000000 in
theorem sless_any (a b:List Nat) (w:World) (ha:∀ y∈a,y < 256) (hb:∀ y∈b,y < 256) :
  Calls Tryz.prog 267 #[.string (strN a),.string (strN b)] w fun e w'=>e = .returned (.bool (ltL a b))∧w = w':=by
 have h1:=strN_less a b ha hb
 generalize ltL a b = V at *
 generalize strN a = s at *
 generalize strN b = t at *
 cases V with
 | true =>
  go_enter Tryz.func267,Tryz.ntmps267
  go_wp2
  go_ret
  exact ⟨rfl,rfl⟩
 | false =>
  go_enter Tryz.func267,Tryz.ntmps267
  go_wp2
  go_ret
  exact ⟨rfl,rfl⟩
theorem ascN_found {l:List (List Nat)} (hl:AscN l) {x:List Nat} {i:Nat} (hlo:∀ m k,m < i→l[m]? = some k→ltL k x = true) (hhi:∀ m k,i≤m→l[m]? = some k→ltL k x = false) (hx:x∈l):l[i]? = some x:=by
 obtain ⟨m,hm⟩:=List.mem_iff_getElem?.1 hx
 rcases Nat.lt_trichotomy m i with h | rfl | h
 ·have:=hlo m x h hm
  rw [ltL_irrefl] at this
  cases this
 ·exact hm
 ·have hml:=(List.getElem?_eq_some_iff.1 hm).1
  have hil:i < l.length:=by omega
  have h1:=List.pairwise_iff_getElem.1 hl i m hil hml h
  rw [(List.getElem?_eq_some_iff.1 hm).2] at h1
  have h2:=hhi i l[i] (Nat.le_refl _) (List.getElem?_eq_getElem hil)
  rw [h1] at h2
  cases h2
theorem ascN_idx {l:List (List Nat)} (hl:AscN l) {x:List Nat} {i:Nat} (h:l[i]? = some x):l.idxOf x = i:=by
 have hx:=List.mem_of_getElem? h
 have hlt:=List.idxOf_lt_length_iff.2 hx
 have h1:=List.getElem_idxOf hlt
 obtain ⟨hil,hie⟩:=List.getElem?_eq_some_iff.1 h
 rcases Nat.lt_trichotomy (l.idxOf x) i with h2 | h2 | h2
 ·have:=List.pairwise_iff_getElem.1 hl _ _ hlt hil h2
  rw [h1,hie,ltL_irrefl] at this; cases this
 ·exact h2
 ·have:=List.pairwise_iff_getElem.1 hl _ _ hil hlt h2
  rw [h1,hie,ltL_irrefl] at this; cases this
set_option maxHeartbeats 8000000 in
set_option maxRecDepth 100000 in
theorem sbin_any (w:World) (ao:Option Addr) (n cp:Nat) (l:List (List Nat)) (x:List Nat) (hn:n = l.length) (h:StrsR w ao l) (hb:∀ k∈l,NmB k) (hx:NmB x) (hl:AscN l) (hbig:n≤1000000) :
  Calls Tryz.prog 233 #[.slice ao n cp,.string (strN x)] w fun e w'=>(∃ i:Nat,i≤n∧e = .returned (.tuple #[.int .i64 (i:Int),.bool (l.contains x)])∧(x∈l→l.idxOf x = i))∧w = w':=by
 have H:=mkHid h
 have HN:=mkHid hn
 have HB:=mkHid hb
 have HL:=mkHid hl
 have HX:=mkHid hx
 have HLS:=mkHid (fun k (hk:k∈l) w=>sless_any k x w (hb k hk).1 hx.1)
 have HEQ:=mkHid (fun k (hk:k∈l)=>strN_eqL k x (hb k hk).1 hx.1)
 obtain ⟨D,hD⟩:∃ D,l.contains x = D:=⟨_,rfl⟩
 have HD:=mkHid hD
 rw [hD]
 clear h hn hb hl hx hD
 generalize strN x = x1 at *
 go_enter Tryz.func233,Tryz.ntmps233
 go_wp2_with fail
 go_loopw [7,8] (fun ii jj wr=>∃ (i j:Nat),ii = .int .i64 i∧jj = .int .i64 j∧i≤j∧j≤n∧Hid (∀ m k,m < i→l[m]? = some k→ltL k x = true)∧Hid (∀ m k,j≤m→l[m]? = some k→ltL k x = false)∧w = wr) (fun i j _=>(intOf j - intOf i).toNat)
 case atStart=>exact ⟨0,n,rfl,rfl,by omega,by omega,mkHid (fun m k hm=>absurd hm (Nat.not_lt_zero m)),mkHid (fun m k hm hk=>by
  have:=(List.getElem?_eq_some_iff.1 hk).1
  rw [← HN.out] at this; omega),rfl⟩
 case round =>
  obtain ⟨i,j,rfl,rfl,hij,hj,hlo,hhi,rfl⟩:=hrel
  by_cases hlt:i < j
  ·have ij:(i:Int) < j:=by omega
   have e1:IntKind.i64.wrap ((i:Int) + j) = ((i + j:Nat):Int):=IntWalk.i64_in _ (by omega)
   go_upto_region 5 with (fail)
   obtain ⟨m,hm⟩:∃ m:Nat,((i:Int) + j) / 2 = (m:Int):=⟨(i + j) / 2,by omega⟩
   rw [hm]
   have him:i≤m:=by omega
   have hmj:m < j:=by omega
   have mn:(m:Int) < n:=by omega
   clear hm e1
   obtain ⟨k,hk⟩:∃ k,l[m]? = some k:=⟨_,List.getElem?_eq_getElem (by rw [← HN.out]; omega)⟩
   have HKI:=mkHid hk
   obtain ⟨g,off,hao,hg,hc⟩:=H.out.at m k hk
   have HAO:=mkHid hao
   subst hao
   have HCK:=mkHid (HLS.out k (List.mem_of_getElem? hk))
   obtain ⟨b,hbk⟩:∃ b,ltL k x = b:=⟨_,rfl⟩
   rw [hbk] at HCK
   have HBK:=mkHid hbk
   have e2:IntKind.i64.wrap ((m:Int) + 1) = ((m + 1:Nat):Int):=IntWalk.i64_in _ (by omega)
   clear hk hg hbk
   generalize strN k = k1 at *
   go_wp2_with fail
   refine (HCK.out w).mono ?_
   rintro e w2 ⟨rfl,rfl⟩
   cases b with
   | true =>
    go_wp2_with fail
    go_roundw
    case rel=>exact ⟨m + 1,j,by go_num,rfl,by omega,by omega,mkHid (fun m' k' hm' hk'=>by
      rcases Nat.lt_or_ge m' m with h | h
      ·have h1:=List.pairwise_iff_getElem.1 HL.out m' m (List.getElem?_eq_some_iff.1 hk').1 (List.getElem?_eq_some_iff.1 HKI.out).1 h
       rw [(List.getElem?_eq_some_iff.1 hk').2,(List.getElem?_eq_some_iff.1 HKI.out).2] at h1
       exact ltL_trans _ _ _ h1 HBK.out
      ·obtain rfl:m' = m:=by omega
       rw [HKI.out] at hk'
       obtain rfl:=Option.some.inj hk'
       exact HBK.out),hhi,by trivial⟩
    case measure=>simp only [intOf]; omega
   | false =>
    go_wp2_with fail
    go_roundw
    case rel=>exact ⟨i,m,rfl,rfl,by omega,by omega,hlo,mkHid (fun m' k' hm' hk'=>by
      rcases Nat.lt_or_ge m m' with h | h
      ·have h1:=List.pairwise_iff_getElem.1 HL.out m m' (List.getElem?_eq_some_iff.1 HKI.out).1 (List.getElem?_eq_some_iff.1 hk').1 h
       rw [(List.getElem?_eq_some_iff.1 HKI.out).2,(List.getElem?_eq_some_iff.1 hk').2] at h1
       rw [Bool.eq_false_iff]
       intro h2
       have:=ltL_trans _ _ _ h1 h2
       rw [HBK.out] at this
       cases this
      ·obtain rfl:m' = m:=by omega
       rw [HKI.out] at hk'
       obtain rfl:=Option.some.inj hk'
       exact HBK.out),by trivial⟩
    case measure=>simp only [intOf]; omega
  ·obtain rfl:i = j:=by omega
   have ij:¬ ((i:Int) < (i:Int)):=by omega
   by_cases hin:i < n
   ·have bi:(i:Int) < n:=by omega
    have bib:decide ((i:Int) < n) = true:=decide_eq_true bi
    have bic:decide (i < n) = true:=decide_eq_true hin
    obtain ⟨k,hk⟩:∃ k,l[i]? = some k:=⟨_,List.getElem?_eq_getElem (by rw [← HN.out]; omega)⟩
    have HKI:=mkHid hk
    obtain ⟨g,off,hao,hg,hc⟩:=H.out.at i k hk
    have HAO:=mkHid hao
    subst hao
    have heq:=HEQ.out k (List.mem_of_getElem? hk)
    by_cases hkx:k = x
    ·have hb1:(k == x) = true:=beq_iff_eq.2 hkx
     have HF:Hid (D = true):=mkHid (by rw [← HD.out,← hkx]; simpa using List.mem_of_getElem? HKI.out)
     have HI:Hid (l.idxOf x = i):=mkHid (ascN_idx HL.out (by rw [← hkx]; exact HKI.out))
     rw [hb1] at heq
     clear hkx hb1 hk hg
     generalize strN k = k1 at *
     go_wp2
     go_ret2
     exact ⟨⟨i,by omega,by rw [HF.out]; rfl,fun _=>HI.out⟩,rfl⟩
    ·have hb1:(k == x) = false:=beq_eq_false_iff_ne.2 hkx
     have HF0:Hid (x ∉ l):=mkHid (fun hm=>by
      have:=ascN_found HL.out hlo.out hhi.out hm
      rw [HKI.out] at this
      exact hkx (Option.some.inj this))
     have HF:Hid (D = false):=mkHid (by rw [← HD.out,Bool.eq_false_iff]; intro h; exact HF0.out (by simpa using h))
     rw [hb1] at heq
     clear hkx hb1 hk hg
     generalize strN k = k1 at *
     go_wp2
     go_ret2
     exact ⟨⟨i,by omega,by rw [HF.out]; rfl,fun h=>absurd h HF0.out⟩,rfl⟩
   ·have bi:¬ ((i:Int) < n):=by omega
    have bib:decide ((i:Int) < n) = false:=decide_eq_false bi
    have bic:decide (i < n) = false:=decide_eq_false hin
    have HF0:Hid (x ∉ l):=mkHid (fun hm=>by
      have:=ascN_found HL.out hlo.out hhi.out hm
      have:=(List.getElem?_eq_some_iff.1 this).1
      rw [← HN.out] at this
      omega)
    have HF:Hid (D = false):=mkHid (by rw [← HD.out,Bool.eq_false_iff]; intro h; exact HF0.out (by simpa using h))
    go_wp2
    go_ret2
    exact ⟨⟨i,by omega,by rw [HF.out]; rfl,fun h=>absurd h HF0.out⟩,rfl⟩
def idxS (ns:List (List Nat)) (s:List Nat):Int:=if knwN ns s = true then (idxN ns s:Int) else -1
theorem idxS_neg {ns:List (List Nat)} {s:List Nat}:idxS ns s < 0 ↔ knwN ns s = false:=by
 unfold idxS
 by_cases h:knwN ns s = true
 ·rw [if_pos h,h]; simp
 ·rw [if_neg h]; simpa using h
theorem inf_spc (v0 v1:Value):(Tryz.prog.info? 139).map (·.size) = some #[v0,v1].size:=by
 show _ = some 2
 kernel_rfl
set_option maxHeartbeats 8000000 in
set_option maxRecDepth 100000 in
theorem index_any (w:World) (ao:Option Addr) (n cp:Nat) (most:Int) (l:List (List Nat)) (x:List Nat) (hn:n = l.length) (h:StrsR w ao l) (hb:∀ k∈l,NmB k) (hx:NmB x) (hl:AscN l) (hbig:n≤1000000) :
  Calls Tryz.prog 175 #[.agg #[.slice ao n cp,.int .i64 most],.string (strN x)] w fun e w'=>e = .returned (.int .i64 (idxS l x))∧Below w.heap.size w w':=by
 have HX:=mkHid hx
 have bx:=(Below.refl w.heap.size w).alloc (Nat.le_refl _) (.cells #[.slice ao n cp,.int .i64 most] 139)
 have B1:=mkHid bx
 have X1:Hid (HasV (w.alloc (.cells #[.slice ao n cp,.int .i64 most] 139)) w.heap.size 139 [.slice ao n cp,.int .i64 most]):=mkHid (heap_alloc_new w _)
 have HBS:=mkHid (sbin_any (w.alloc (.cells #[.slice ao n cp,.int .i64 most] 139)) ao n cp l x hn (h.below bx) hb hx hl hbig)
 have HIN:Hid (∀ i:Nat,i≤n→(x∈l→l.idxOf x = i)→x ≠ []→idxS l x = if l.contains x = true then ((i:Int) + 1) else -1):=mkHid (fun i _ hi hx0=>by
  unfold idxS knwN idxN
  rw [show (x == []) = false by rw [beq_eq_false_iff_ne]; exact hx0,Bool.false_or,if_neg hx0]
  by_cases hm:l.contains x = true
  ·rw [if_pos hm,if_pos hm,hi (by simpa using hm)]; omega
  ·rw [if_neg hm,if_neg hm])
 clear bx hb hl h hn
 by_cases h0:x = []
 ·have he:=strN_isE0
  have HV:Hid (idxS l x = 0):=mkHid (by unfold idxS knwN idxN; rw [h0]; rfl)
  rw [HV.out]
  subst h0
  clear HBS HIN HX hx
  generalize strN [] = s at *
  go_enter Tryz.func175,Tryz.ntmps175
  go_wp2
  go_ret
  exact ⟨rfl,B1.out⟩
 ·have he:=strN_isE x (fun h=>h0 (List.eq_nil_of_length_eq_zero h))
  have HI:=mkHid (fun i h1 h2=>HIN.out i h1 h2 h0)
  generalize idxS l x = V at *
  generalize l.contains x = D at *
  clear h0 HIN hx HX
  generalize strN x = s at *
  go_enter Tryz.func175,Tryz.ntmps175
  go_upto_region 3 with (fail)
  generalize w.alloc (.cells #[.slice ao n cp,.int .i64 most] 139) = w1 at *
  have x0:=X1.out.cell 0 _ rfl
  go_wp2_with fail
  refine HBS.out.mono ?_
  rintro e w2 ⟨⟨i,hi,rfl,hix⟩,rfl⟩
  have HVV:=mkHid (HI.out i hi hix)
  clear hix x0
  have e2:IntKind.i64.wrap ((i:Int) + 1) = (i:Int) + 1:=IntWalk.i64_in _ (by omega)
  cases D with
  | true =>
   go_wp2
   go_ret
   exact ⟨ret_int (by rw [HVV.out]; rfl),B1.out⟩
  | false =>
   go_wp2
   go_ret
   exact ⟨ret_int (by rw [HVV.out]; rfl),B1.out⟩
end Go.Proofs.YtmkdfbelbcocpaaGreatDoor
namespace Go.Proofs.YtmkdfbelbcocpaaGreatDoor
open Go.RowKit Go.Sort
def FlatR {α:Type} (f:α→List Value) (w:World) (ao:Option Addr) (l:List α):Prop:=l = []∨∃ g off,ao = some ⟨g,off,none⟩∧g < w.heap.size∧Reads w g off (l.flatMap f)
theorem FlatR.below {α:Type} {f:α→List Value} {w w':World} {ao:Option Addr} {l:List α} (h:FlatR f w ao l) (hb:Below w.heap.size w w'):FlatR f w' ao l:=by
 rcases h with h | ⟨g,off,h1,h2,h3⟩
 ·exact .inl h
 ·exact .inr ⟨g,off,h1,Nat.lt_of_lt_of_le h2 hb.size,h3.of_block (hb.block g h2)⟩
theorem FlatR.at {α:Type} {f:α→List Value} {k:Nat} (hf:∀ x,(f x).length = k) {w:World} {ao:Option Addr} {l:List α} (h:FlatR f w ao l) (i:Nat) (x:α) (hx:l[i]? = some x) :
  ∃ g off,ao = some ⟨g,off,none⟩∧g < w.heap.size∧∀ j u,(f x)[j]? = some u→w.cell? ⟨g,off + i * k + j,none⟩ = some u:=by
 rcases h with h | ⟨g,off,h1,h2,h3⟩
 ·rw [h] at hx; simp at hx
 ·refine ⟨g,off,h1,h2,fun j u hj=>?_⟩
  have hl:j < k:=by rw [← hf x]; exact (List.getElem?_eq_some_iff.1 hj).1
  have:=h3 (i * k + j) u (by rw [flatK_at f k hf l i j x hx hl]; exact hj)
  rwa [show off + (i * k + j) = off + i * k + j by omega] at this
theorem OwnK.flatR {α:Type} {f:α→List Value} {w:World} {B k n cap:Nat} {ao:Option Addr} {l:List α} (h:OwnK w B k n cap (l.flatMap f) ao) (hk:∀ x,(f x).length = k) (hn:n = l.length):FlatR f w ao l:=by
 cases h with
 | nil h h1 h2=>exact .inl (List.eq_nil_of_length_eq_zero (by omega))
 | «at» g off h h1 h2 h3=>exact .inr ⟨g,off,rfl,h.lt,h.cells⟩
def conC (c:Con):List Value:=[.int .i64 (c.l:Int),.int .i64 (c.r:Int),.int .i64 c.c]
theorem conC_len (c:Con):(conC c).length = 3:=rfl
def conZ:Value:=.agg #[.int .i64 0,.int .i64 0,.int .i64 0]
theorem info_con:(Tryz.prog.info? 147).map (fun i=>(i.zero,i.size,i.bytes)) = some (some conZ,3,24):=by kernel_rfl
theorem inf_con (vs:Array Value) (h:vs.size = 3):(Tryz.prog.info? 147).map (·.size) = some vs.size:=by
 rw [h]
 kernel_rfl
def con0:List Value:=[.int .i64 0,.int .i64 0,.int .i64 0]
set_option maxHeartbeats 8000000 in
set_option maxRecDepth 100000 in
theorem of_any (w:World) (ao:Option Addr) (n cp:Nat) (most:Int) (l:List (List Nat)) (k:Ky) (hn:n = l.length) (h:StrsR w ao l) (hb:∀ s∈l,NmB s) (hl:AscN l) (hbig:n≤1000000) (hkl:NmB k.l) (hkr:NmB k.r) :
  Calls Tryz.prog 185 #[.agg #[.slice ao n cp,.int .i64 most],.agg (kyC k).toArray] w fun e w'=>e = .returned (.agg #[.int .i64 (idxS l k.l),.int .i64 (idxS l k.r),.int .i64 k.c])∧Below w.heap.size w w':=by
 have HI1:=mkHid (fun W (hW:Below w.heap.size w W)=>index_any W ao n cp most l k.l hn (h.below hW) hb hkl hl hbig)
 have HI2:=mkHid (fun W (hW:Below w.heap.size w W)=>index_any W ao n cp most l k.r hn (h.below hW) hb hkr hl hbig)
 have HKX:Hid (kyC k = [.string (strN k.l),.string (strN k.r),.int .i64 k.c]):=mkHid rfl
 rw [HKX.out]
 clear HKX h hb hl hn hkl hkr
 generalize strN k.l = y1 at *
 generalize strN k.r = y2 at *
 generalize k.c = y3 at *
 generalize idxS l k.l = i1 at *
 generalize idxS l k.r = i2 at *
 have b0:=(((Below.refl w.heap.size w).alloc (Nat.le_refl _) (.cells #[.slice ao n cp,.int .i64 most] 139)).alloc (by simp) (.cells #[.string y1,.string y2,.int .i64 y3] 123)).alloc (by simp; omega) (.cells #[.int .i64 0,.int .i64 0,.int .i64 0] 147)
 have B1:=mkHid b0
 have X1:Hid (HasV (((w.alloc (.cells #[.slice ao n cp,.int .i64 most] 139)).alloc (.cells #[.string y1,.string y2,.int .i64 y3] 123)).alloc (.cells #[.int .i64 0,.int .i64 0,.int .i64 0] 147)) w.heap.size 139 [.slice ao n cp,.int .i64 most]):=mkHid (heap_alloc3_old _ _ _ _)
 have Y1:Hid (HasV (((w.alloc (.cells #[.slice ao n cp,.int .i64 most] 139)).alloc (.cells #[.string y1,.string y2,.int .i64 y3] 123)).alloc (.cells #[.int .i64 0,.int .i64 0,.int .i64 0] 147)) (w.heap.size + 1) 123 [.string y1,.string y2,.int .i64 y3]):=mkHid (heap_alloc3_mid _ _ _ _)
 have Z1:Hid (HasV (((w.alloc (.cells #[.slice ao n cp,.int .i64 most] 139)).alloc (.cells #[.string y1,.string y2,.int .i64 y3] 123)).alloc (.cells #[.int .i64 0,.int .i64 0,.int .i64 0] 147)) (w.heap.size + 1 + 1) 147 con0):=mkHid (heap_alloc3_new _ _ _ _)
 clear b0
 go_enter Tryz.func185,Tryz.ntmps185
 go_upto_region 1 with (fail)
 generalize ((w.alloc (.cells #[.slice ao n cp,.int .i64 most] 139)).alloc (.cells #[.string y1,.string y2,.int .i64 y3] 123)).alloc (.cells #[.int .i64 0,.int .i64 0,.int .i64 0] 147) = w1 at *
 have HA:Hid (w.heap.size + 1 < w1.heap.size):=mkHid Y1.out.lt
 have HS:Hid (∀ W,Below w1.heap.size w1 W→HasV W w.heap.size 139 [.slice ao n cp,.int .i64 most]∧HasV W (w.heap.size + 1) 123 [.string y1,.string y2,.int .i64 y3]):=mkHid (fun W hW=>⟨X1.out.step hW,Y1.out.step hW⟩)
 obtain ⟨A,hA⟩:∃ A,w.heap.size + 1 + 1 = A:=⟨_,rfl⟩
 obtain ⟨A',hA'⟩:∃ A',w.heap.size + 1 = A':=⟨_,rfl⟩
 rw [hA'] at hA HS HA ⊢
 rw [hA',hA] at Z1
 rw [hA]
 have HAA:Hid (A = A' + 1∧A' = w.heap.size + 1):=mkHid ⟨hA.symm,hA'.symm⟩
 clear hA hA' X1 Y1
 refine wp_region_pick [0,1,2,4,5,6,8,9] [3,7,10,11] (fun w'=>HasV w' w.heap.size 139 [.slice ao n cp,.int .i64 most]∧HasV w' A' 123 [.string y1,.string y2,.int .i64 y3]) (by kernel_rfl) (by kernel_rfl) (by kernel_rfl) (fun _ _ d _ _ h=>by cases d <;> exact h) (HS.out _ (Below.refl _ _).drew) ?_
 simp only [pickI,List.filterMap_cons,List.filterMap_nil,List.getElem?_cons_zero,List.getElem?_cons_succ,Option.map_some,List.map_cons,List.map_nil]
 apply Exists.intro
 refine ⟨?hh,?ht⟩
 case hh =>
  intro w' hw'
  have c0:=hw'.1.cell 0 _ rfl
  have c1:=hw'.1.cell 1 _ rfl
  have d0:=hw'.2.cell 0 _ rfl
  have d1:=hw'.2.cell 1 _ rfl
  have d2:=hw'.2.cell 2 _ rfl
  clear hw'
  repeat still_step
  exact wpStill_nil rfl
 case ht =>
  have BD:=mkHid (Below.refl w1.heap.size w1).drew
  have Z2:=mkHid (Z1.out.step BD.out)
  generalize wdq:w1.drew = wd at *
  clear wdq
  refine wpTailT_cons ?_
  go_wp2_with fail
  refine (HI1.out wd (B1.out.trans (BD.out.mono B1.out.size))).mono ?_
  rintro e w2 ⟨rfl,b2⟩
  have B2:=mkHid (BD.out.trans (b2.mono BD.out.size))
  have Z3:=mkHid (Z2.out.step b2)
  clear b2 BD Z2 Z1 HI1
  go_wp2_with fail
  refine postOf_normal ⟨HS.out _ B2.out,?_⟩
  refine wpTailT_cons ?_
  go_wp2_with fail
  refine (HI2.out w2 (B1.out.trans (B2.out.mono B1.out.size))).mono ?_
  rintro e w3 ⟨rfl,b3⟩
  have B3:=mkHid (B2.out.trans (b3.mono B2.out.size))
  have Z4:=mkHid (Z3.out.step b3)
  clear b3 B2 Z3 HI2
  go_wp2_with fail
  refine postOf_normal ⟨HS.out _ B3.out,?_⟩
  refine wpTailT_cons ?_
  go_wp2_with fail
  refine postOf_normal ⟨HS.out _ B3.out,?_⟩
  refine wpTailT_one ?_
  go_wp2_with (refine wpList_store_abs rfl 147 (.tmp 4) (.tmp 15) rfl A #[.int .i64 i1,.int .i64 i2,.int .i64 y3] ?s1 ?s2 147 _ Z4.out (inf_con _ rfl) rfl (by simp [Value.oneCell']) ?_; (case s1=>rfl); (case s2=>rfl); intro w9 s9 u9; have S9:=mkHid s9; have U9:=mkHid u9; clear s9 u9)
  exact bodyPost_ret (results_cell_row (p:=4) (by kernel_rfl) _ _ A 147 #[.int .i64 i1,.int .i64 i2,.int .i64 y3] (0,0) _ rfl S9.out Tryz.underlying147 rfl (inf_con _ rfl)) rfl ⟨rfl,U9.out.below (B1.out.trans (B3.out.mono B1.out.size)) (by have:=HAA.out; omega)⟩
end Go.Proofs.YtmkdfbelbcocpaaGreatDoor
