import Derived.Test.YtmkdfbelbcocpaaGreatDoorBS28
import Derived.Test.YtmkdfbelbcocpaaGreatDoorBS27
set_option linter.unusedVariables false
set_option linter.unusedSimpArgs false
namespace Go.Proofs.YtmkdfbelbcocpaaGreatDoor
open Go.RowKit Go.Sort Go.Maps
set_option maxHeartbeats 16000000 in
set_option maxRecDepth 100000 in
theorem rpick_any (w:World) (aa:List Ky) (ao:Option Addr) (n cap x:Nat) (hn:n = aa.length) (hbig:n≤8) (hx:x < 256) (hk:KidR w (fun _=>True) (aa.map atomK) ao) :
  Calls Tryz.prog 231 #[.slice ao n cap,.int .i64 (x:Int)] w fun e w'=>∃ (ro:Option Addr) (rn rc:Nat),e = .returned (.slice ro rn rc)∧AtO w' w.heap.size rn rc (pickU aa x n) ro∧RowKit.Below w.heap.size w w':=by
 have HK:=mkHid (fun W (hW:RowKit.Below w.heap.size w W)=>hk.below hW)
 have HN:=mkHid hn
 have bx:=(RowKit.Below.refl w.heap.size w).alloc (Nat.le_refl _) (.cells #[] 25)
 have B0:=mkHid bx
 have O0:Hid (AtO (w.alloc (.cells #[] 25)) w.heap.size 0 0 (pickU aa x 0) (some ⟨w.heap.size,0,none⟩)):=mkHid ⟨by simp [pickU],[],by simp [pickU],fun j k vs hj _=>by simp [pickU] at hj,OwnK.made w _ 5⟩
 clear hk hn bx
 go_enter Tryz.func231,Tryz.ntmps231
 go_upto_region 2 with (fail)
 generalize w.alloc (.cells #[] 25) = w1 at *
 go_wp2_with fail
 go_loopw [6,5] (fun cc ov wr=>∃ (i k:Nat) (a5:Option Addr) (c5:Nat),cc = .int .i64 i∧ov = .slice a5 k c5∧i≤n∧k≤i∧Hid (RowKit.Below w.heap.size w wr)∧Hid (AtO wr w.heap.size k c5 (pickU aa x i) a5)) (fun c _ _=>(n - intOf c).toNat)
 case atStart=>exact ⟨0,0,_,0,rfl,rfl,by omega,by omega,B0,O0⟩
 case round =>
  clear O0 B0
  obtain ⟨i,k,a5,c5,rfl,rfl,hi,hki,hw,ho⟩:=hrel
  have e2:IntKind.i64.wrap ((i:Int) + 1) = ((i + 1:Nat):Int):=IntWalk.i64_in _ (by omega)
  by_cases hlt:i < n
  ·have ii:(i:Int) < n:=by omega
   have HQ:Hid (∃ a,aa[i]? = some a):=mkHid (by
    have hl:i < aa.length:=by rw [← HN.out]; exact hlt
    exact ⟨aa[i],List.getElem?_eq_getElem hl⟩)
   obtain ⟨a,hai⟩:=HQ.out
   have HTK:Hid (pickU aa x (i + 1) = pickU aa x i ++ (if x.testBit i = true then [a] else [])):=mkHid (by rw [pickU,hai])
   have hbt:=bit_at (s:=x) (i:=i) hx (by omega)
   have i64:(i:Int) < 64:=by omega
   have i0:(0:Int)≤i:=by omega
   by_cases hix:x.testBit i = false
   ·rw [hix] at hbt
    rw [if_neg (by rw [hix]; simp),List.append_nil] at HTK
    clear hix hai HQ
    go_wp2
    go_roundw
    case rel=>exact ⟨i + 1,k,a5,c5,by go_num,rfl,by omega,by omega,hw,mkHid (by rw [HTK.out]; exact ho.out)⟩
    case measure=>simp only [intOf]; omega
   ·rw [Bool.not_eq_false] at hix
    rw [hix] at hbt
    rw [if_pos hix] at HTK
    obtain ⟨q,hqi,g,off,hao,hg,us,hpc,hrd⟩:=(HK.out wr hw.out).get (i:=i) (by rw [List.length_map,← HN.out]; exact hlt)
    obtain rfl:q = atomK a:=by rw [List.getElem?_map,hai] at hqi; exact (Option.some.inj hqi).symm
    have HPC:=mkHid hpc
    obtain ⟨xa,xn,xc,rfl,-⟩:=hpc.form
    have s0:wr.cell? ⟨g,off + i * 5,none⟩ = some (.int .i64 0):=hrd 0 _ rfl
    have s1:wr.cell? ⟨g,off + i * 5 + 1,none⟩ = some (.string (strN a.l)):=hrd 1 _ rfl
    have s2:wr.cell? ⟨g,off + i * 5 + 2,none⟩ = some (.string (strN a.r)):=hrd 2 _ rfl
    have s3:wr.cell? ⟨g,off + i * 5 + 3,none⟩ = some (.int .i64 a.c):=hrd 3 _ rfl
    have s4:wr.cell? ⟨g,off + i * 5 + 4,none⟩ = some (.slice xa xn xc):=hrd 4 _ rfl
    have HVF:Hid ([Value.int .i64 (atomK a).k,.string (strN (atomK a).l),.string (strN (atomK a).r),.int .i64 (atomK a).c,.slice xa xn xc] = [.int .i64 0,.string (strN a.l),.string (strN a.r),.int .i64 a.c,.slice xa xn xc]):=mkHid rfl
    rw [HVF.out] at HPC
    have HAO:=mkHid hao
    clear hrd hpc hqi hai HQ HVF hix
    subst hao
    generalize strN a.l = y1 at *
    generalize strN a.r = y2 at *
    generalize a.c = y3 at *
    obtain ⟨hnk,vss,hv1,hv2,hO⟩:=ho.out
    have HO:=mkHid hO
    have HPUT:=mkHid (fun (w':World) (c':Nat) (a':Option Addr) (h:OwnK w' w.heap.size 5 (k + 1) c' (vss.flatten ++ [.int .i64 0,.string y1,.string y2,.int .i64 y3,.slice xa xn xc]) a')=>AtO.put (cap:=c5) (ao:=a5) hnk hv1 hv2 (PredC.atom rfl HPC.out) h)
    have W2s:=mkHid hw.out.size
    clear hnk hv1 hv2 hO ho
    go_wp2_with (at_builtin; refine app_k 23 25 predZ 5 72 Tryz.underlying23 info_pred rfl (by omega) (by omega) wr w.heap.size rfl (.tmp 19) (.tmp 24) rfl a5 c5 k vss.flatten ?u1 HO.out ?u5 1 1 #[.int .i64 0,.string y1,.string y2,.int .i64 y3,.slice xa xn xc] 25 ?u2 rfl (by omega) ?u3 ?u4 ?_; (case u1=>rfl); (case u5=>exact W2s.out); (case u2=>rfl); (case u3=>exact one_agg _ _ _ _ _ _ _ rfl rfl rfl rfl); (case u4=>omega); intro g7 off7 c7 wa o9 gr9 b9 or9; have O9:=mkHid o9; have W9:=mkHid (hw.out.trans b9); clear o9 gr9 b9 or9 s0 s1 s2 s3 s4)
    go_roundw
    case rel=>exact ⟨i + 1,k + 1,some ⟨g7,off7,none⟩,c7,by go_num,rfl,by omega,by omega,W9,mkHid (by rw [HTK.out]; exact HPUT.out _ _ _ O9.out)⟩
    case measure=>simp only [intOf]; omega
  ·have ii:¬ ((i:Int) < n):=by omega
   obtain rfl:i = n:=by omega
   go_wp2
   go_ret
   exact ⟨a5,k,c5,rfl,ho.out,hw.out⟩
def earP:List Ky→List Ky→Bool
 | [],[]=>false
 | [],_ :: _=>true
 | _ :: _,[]=>false
 | x :: xs,y :: ys=>if (x == y) = true then earP xs ys else ltK x y
theorem earP_cmp:∀ a b:List Ky,earP a b = decide (cmpKL a b < 0)
 | [],[]=>by simp [earP,cmpKL]
 | [],_ :: _=>by simp [earP,cmpKL]
 | _ :: _,[]=>by simp [earP,cmpKL]
 | x :: xs,y :: ys=>by
  rw [earP,cmpKL]
  by_cases h:x = y
  ·subst h
   rw [if_pos (by simp),if_neg (by rw [(cmpK_zero x x).2 rfl]; simp),earP_cmp xs ys]
  ·rw [if_neg (by simpa using h),if_pos (fun e=>h ((cmpK_zero x y).1 e))]
   rfl
theorem earP_drop (a b:List Ky) (i:Nat) (x y:Ky) (hx:a[i]? = some x) (hy:b[i]? = some y):earP (a.drop i) (b.drop i) = if (x == y) = true then earP (a.drop (i + 1)) (b.drop (i + 1)) else ltK x y:=by
 rw [drop_cons_get a i x hx,drop_cons_get b i y hy,earP]
theorem earP_end (a b:List Ky) (i:Nat) (hi:i≤a.length) (hj:i≤b.length) (h:¬ (i < a.length∧i < b.length)):earP (a.drop i) (b.drop i) = decide (a.length < b.length):=by
 rcases Nat.lt_or_ge i b.length with hb | hb
 ·have ha:a.length = i:=by omega
  rw [show a.drop i = [] from List.drop_eq_nil_of_le (by omega),drop_cons_get b i _ (List.getElem?_eq_getElem hb),earP,decide_eq_true (by omega)]
 ·have hb':b.length = i:=by omega
  rw [show b.drop i = [] from List.drop_eq_nil_of_le (by omega),decide_eq_false (by omega)]
  cases a.drop i with
  | nil=>rfl
  | cons x xs=>rfl
set_option maxHeartbeats 16000000 in
set_option maxRecDepth 100000 in
theorem rearlier_any (w:World) (aa bb:List Ky) (ao bo:Option Addr) (n m cap cap':Nat) (hn:n = aa.length) (hm:m = bb.length) (hnb:n≤1000000) (hmb:m≤1000000) (ha:∀ k∈aa,KyB k) (hb:∀ k∈bb,KyB k) (hka:KidR w (fun _=>True) (aa.map atomK) ao) (hkb:KidR w (fun _=>True) (bb.map atomK) bo) :
  Calls Tryz.prog 232 #[.slice ao n cap,.slice bo m cap'] w fun e w'=>e = .returned (.bool (earP aa bb))∧RowKit.Below w.heap.size w w':=by
 have HKA:=mkHid (fun W (hW:RowKit.Below w.heap.size w W)=>hka.below hW)
 have HKB:=mkHid (fun W (hW:RowKit.Below w.heap.size w W)=>hkb.below hW)
 have HN:=mkHid hn
 have HM:=mkHid hm
 have HSA:=mkHid (fun (x y:Ky) (hx:x∈aa) (hy:y∈bb) (u v:Value) (hu:u.oneCell' = true) (hv:v.oneCell' = true) W=>satom_any 0 0 x.l x.r y.l y.r x.c y.c u v hu hv W (ha x hx).1 (ha x hx).2 (hb y hy).1 (hb y hy).2)
 have HBF:=mkHid (fun (x y:Ky) (hx:x∈aa) (hy:y∈bb) (u v:Value) (hu:u.oneCell' = true) (hv:v.oneCell' = true) W=>before_any 0 0 x.l x.r y.l y.r x.c y.c u v hu hv W (ha x hx).1 (ha x hx).2 (hb y hy).1 (hb y hy).2)
 have HE1:Hid (∀ q:Ky,(⟨q.l,q.r,q.c⟩:Ky) = q):=mkHid (fun _=>rfl)
 simp only [HE1.out] at HSA HBF
 have S0:Hid (earP aa bb = earP (aa.drop 0) (bb.drop 0)):=mkHid rfl
 have HEND:=mkHid (earP_end aa bb)
 obtain ⟨V,hV⟩:∃ V,earP aa bb = V:=⟨_,rfl⟩
 rw [hV] at S0 ⊢
 have B0:=mkHid (RowKit.Below.refl w.heap.size w)
 clear hka hkb hn hm ha hb hV
 go_enter Tryz.func232,Tryz.ntmps232
 go_wp2_with fail
 go_loopw [5] (fun cc wr=>∃ (i:Nat),cc = .int .i64 i∧i≤n∧i≤m∧Hid (RowKit.Below w.heap.size w wr)∧Hid (V = earP (aa.drop i) (bb.drop i))) (fun c _=>(n - intOf c).toNat)
 case atStart=>exact ⟨0,rfl,by omega,by omega,B0,S0⟩
 case round =>
  clear S0 B0
  obtain ⟨i,rfl,hi,hj,hw,hv⟩:=hrel
  have e2:IntKind.i64.wrap ((i:Int) + 1) = ((i + 1:Nat):Int):=IntWalk.i64_in _ (by omega)
  by_cases hlt:i < n
  ·have ii:(i:Int) < n:=by omega
   by_cases hjl:i < m
   ·have jj:(i:Int) < m:=by omega
    have HQ:Hid ((∃ x,aa[i]? = some x)∧∃ y,bb[i]? = some y):=mkHid ⟨⟨_,List.getElem?_eq_getElem (by rw [← HN.out]; exact hlt)⟩,⟨_,List.getElem?_eq_getElem (by rw [← HM.out]; exact hjl)⟩⟩
    obtain ⟨⟨x,hxi⟩,y,hyi⟩:=HQ.out
    obtain ⟨q,hqi,g,off,hao,hg,us,hpc,hrd⟩:=(HKA.out wr hw.out).get (i:=i) (by rw [List.length_map,← HN.out]; exact hlt)
    obtain ⟨p,hpi,g',off',hbo,hg',vs,hpd,hrd'⟩:=(HKB.out wr hw.out).get (i:=i) (by rw [List.length_map,← HM.out]; exact hjl)
    obtain rfl:q = atomK x:=by rw [List.getElem?_map,hxi] at hqi; exact (Option.some.inj hqi).symm
    obtain rfl:p = atomK y:=by rw [List.getElem?_map,hyi] at hpi; exact (Option.some.inj hpi).symm
    obtain ⟨xa,xn,xc,rfl,-⟩:=hpc.form
    obtain ⟨ya,yn,yc,rfl,-⟩:=hpd.form
    have HST:=mkHid (hv.out.trans (earP_drop aa bb i x y hxi hyi))
    have HS1:=mkHid (fun W=>HSA.out x y (List.mem_of_getElem? hxi) (List.mem_of_getElem? hyi) (.slice xa xn xc) (.slice ya yn yc) rfl rfl W)
    have HS2:=mkHid (fun W=>HBF.out x y (List.mem_of_getElem? hxi) (List.mem_of_getElem? hyi) (.slice xa xn xc) (.slice ya yn yc) rfl rfl W)
    have HRX:Hid (Reads wr g (off + i * 5) [.int .i64 0,.string (strN x.l),.string (strN x.r),.int .i64 x.c,.slice xa xn xc]):=mkHid hrd
    have HRY:Hid (Reads wr g' (off' + i * 5) [.int .i64 0,.string (strN y.l),.string (strN y.r),.int .i64 y.c,.slice ya yn yc]):=mkHid hrd'
    have HG1:=mkHid hg
    have HG2:=mkHid hg'
    have HAO:=mkHid hao
    have HBO:=mkHid hbo
    clear hrd hrd' hpc hpd hqi hpi hxi hyi HQ hv hg hg'
    subst hao hbo
    generalize (x == y) = sq at *
    generalize ltK x y = lt1 at *
    generalize strN x.l = x1 at *
    generalize strN x.r = x2 at *
    generalize x.c = x3 at *
    generalize strN y.l = y1 at *
    generalize strN y.r = y2 at *
    generalize y.c = y3 at *
    have s0:=HRX.out 0 _ rfl
    have s1:=HRX.out 1 _ rfl
    have s2:=HRX.out 2 _ rfl
    have s3:=HRX.out 3 _ rfl
    have s4:=HRX.out 4 _ rfl
    have t0:=HRY.out 0 _ rfl
    have t1:=HRY.out 1 _ rfl
    have t2:=HRY.out 2 _ rfl
    have t3:=HRY.out 3 _ rfl
    have t4:=HRY.out 4 _ rfl
    rw [Nat.add_zero] at s0 t0
    go_upto_region 4 with (fail)
    have r1:=regr wr (fun W hW=>HS1.out W)
    have a0':=cell_regrown s0
    have a1':=cell_regrown s1
    have a2':=cell_regrown s2
    have a3':=cell_regrown s3
    have a4':=cell_regrown s4
    have b0':=cell_regrown t0
    have b1':=cell_regrown t1
    have b2':=cell_regrown t2
    have b3':=cell_regrown t3
    have b4':=cell_regrown t4
    clear s0 s1 s2 s3 s4 t0 t1 t2 t3 t4
    refine wp_region_quiet_below (by kernel_rfl) (by kernel_rfl) ?_
    repeat (quiet_step (with_reducible (exact r1 _ _)))
    refine wpQuiet_nil ?_
    intro _ hw'
    obtain ⟨⟨dq,osq⟩,hw''⟩:=hw'
    subst hw''
    have BB:=below_regrown wr dq osq
    have W2:=mkHid (hw.out.trans (BB.mono hw.out.size))
    have RX2:=mkHid (HRX.out.of_block (BB.block g HG1.out))
    have RY2:=mkHid (HRY.out.of_block (BB.block g' HG2.out))
    clear r1 a0' a1' a2' a3' a4' b0' b1' b2' b3' b4' BB hw HS1 HRX HRY HG1 HG2
    generalize grow (redrawn wr dq) osq = wy at *
    cases sq with
    | true =>
     have HX:Hid (V = earP (aa.drop (i + 1)) (bb.drop (i + 1))):=mkHid (by rw [HST.out,if_pos rfl])
     go_wp2
     go_roundw
     case rel=>exact ⟨i + 1,by go_num,by omega,by omega,W2,HX⟩
     case measure=>simp only [intOf]; omega
    | false =>
     have HX:Hid (V = lt1):=mkHid (by rw [HST.out,if_neg (by simp)])
     have s0:=RX2.out 0 _ rfl
     have s1:=RX2.out 1 _ rfl
     have s2:=RX2.out 2 _ rfl
     have s3:=RX2.out 3 _ rfl
     have s4:=RX2.out 4 _ rfl
     have t0:=RY2.out 0 _ rfl
     have t1:=RY2.out 1 _ rfl
     have t2:=RY2.out 2 _ rfl
     have t3:=RY2.out 3 _ rfl
     have t4:=RY2.out 4 _ rfl
     rw [Nat.add_zero] at s0 t0
     go_upto_region 5 with (fail)
     have r1:=regr wy (fun W hW=>HS2.out W)
     have a0':=cell_regrown s0
     have a1':=cell_regrown s1
     have a2':=cell_regrown s2
     have a3':=cell_regrown s3
     have a4':=cell_regrown s4
     have b0':=cell_regrown t0
     have b1':=cell_regrown t1
     have b2':=cell_regrown t2
     have b3':=cell_regrown t3
     have b4':=cell_regrown t4
     clear s0 s1 s2 s3 s4 t0 t1 t2 t3 t4
     refine wp_region_quiet_below (by kernel_rfl) (by kernel_rfl) ?_
     repeat (quiet_step (with_reducible (exact r1 _ _)))
     refine wpQuiet_nil ?_
     intro _ hw'
     obtain ⟨⟨dq,osq⟩,hw''⟩:=hw'
     subst hw''
     have BB:=below_regrown wy dq osq
     have W3:=mkHid (W2.out.trans (BB.mono W2.out.size))
     clear r1 a0' a1' a2' a3' a4' b0' b1' b2' b3' b4' BB W2
     generalize grow (redrawn wy dq) osq = wz at *
     go_wp2
     go_ret
     exact ⟨ret_bool HX.out.symm,W3.out⟩
   ·have jj:¬ ((i:Int) < m):=by omega
    have HX:Hid (V = decide ((n:Int) < (m:Int))):=mkHid (by rw [hv.out,HEND.out i (by rw [← HN.out]; exact hi) (by rw [← HM.out]; exact hj) (by rw [← HN.out,← HM.out]; omega),← HN.out,← HM.out,decide_eq_decide]; omega)
    go_wp2
    go_ret
    exact ⟨ret_bool (by rw [HX.out]; try simp),hw.out⟩
  ·have ii:¬ ((i:Int) < n):=by omega
   have HX:Hid (V = decide ((n:Int) < (m:Int))):=mkHid (by rw [hv.out,HEND.out i (by rw [← HN.out]; exact hi) (by rw [← HM.out]; exact hj) (by rw [← HN.out,← HM.out]; omega),← HN.out,← HM.out,decide_eq_decide]; omega)
   go_wp2
   go_ret
   exact ⟨ret_bool (by rw [HX.out]; try simp),hw.out⟩
def ChP (w:World) (b lim:Nat) (cs:List Chc) (L:List (Value × Value)):Prop :=
 L.length = cs.length∧∀ (i:Nat) (c:Chc),cs[i]? = some c→∃ xo xc,L[i]? = some (Value.int .i64 c.need,Value.slice xo c.atoms.length xc)∧KidR w (fun g=>b≤g∧g < lim) c.atoms xo
theorem KidR.lim {w w':World} {b lim:Nat} {ks:List Prd} {ao:Option Addr} (h:KidR w (fun g=>b≤g∧g < lim) ks ao) (hb:RowKit.Below lim w w'):KidR w' (fun g=>b≤g∧g < lim) ks ao:=by
 rcases h with h | ⟨g,off,h1,h2,h3,h4⟩
 ·exact .inl h
 ·exact .inr ⟨g,off,h1,h2,Nat.lt_of_lt_of_le h3 hb.size,KidsC.keep (fun x hx _=>hb.block x hx.2) hb.size (fun _ hx _=>hx) ks g off h2 h3 h4⟩
theorem ChP.below {w w':World} {b lim:Nat} {cs:List Chc} {L:List (Value × Value)} (h:ChP w b lim cs L) (hb:RowKit.Below lim w w'):ChP w' b lim cs L:=by
 refine ⟨h.1,fun i c hc=>?_⟩
 obtain ⟨xo,xc,h1,h2⟩:=h.2 i c hc
 exact ⟨xo,xc,h1,h2.lim hb⟩
def ChsB (b:Nat) (w:World) (cs:List Chc) (ao:Option Addr):Prop:=cs = []∨∃ g off,ao = some ⟨g,off,none⟩∧g < w.heap.size∧∀ (i:Nat) (c:Chc),cs[i]? = some c→∃ xo xc,Reads w g (off + i * 2) [.int .i64 c.need,.slice xo c.atoms.length xc]∧KidR w (fun g=>b≤g∧g < w.heap.size) c.atoms xo
theorem KidR.grow {w w':World} {b:Nat} {ks:List Prd} {ao:Option Addr} (h:KidR w (fun g=>b≤g∧g < w.heap.size) ks ao) (hb:RowKit.Below w.heap.size w w'):KidR w' (fun g=>b≤g∧g < w'.heap.size) ks ao:=by
 rcases h with h | ⟨g,off,h1,h2,h3,h4⟩
 ·exact .inl h
 ·exact .inr ⟨g,off,h1,⟨h2.1,Nat.lt_of_lt_of_le h3 hb.size⟩,Nat.lt_of_lt_of_le h3 hb.size,KidsC.keep (fun x _ hx=>hb.block x hx) hb.size (fun x hx hl=>⟨hx.1,Nat.lt_of_lt_of_le hl hb.size⟩) ks g off h2 h3 h4⟩
theorem ChsB.below {b:Nat} {w w':World} {cs:List Chc} {ao:Option Addr} (h:ChsB b w cs ao) (hb:RowKit.Below w.heap.size w w'):ChsB b w' cs ao:=by
 rcases h with h | ⟨g,off,h1,h2,h3⟩
 ·exact .inl h
 ·refine .inr ⟨g,off,h1,Nat.lt_of_lt_of_le h2 hb.size,fun i c hc=>?_⟩
  obtain ⟨xo,xc,h4,h5⟩:=h3 i c hc
  exact ⟨xo,xc,h4.of_block (hb.block g h2),h5.grow hb⟩
theorem ChsB.get {b:Nat} {w:World} {cs:List Chc} {ao:Option Addr} (h:ChsB b w cs ao) {i:Nat} (hi:i < cs.length):∃ c,cs[i]? = some c∧∃ g off,ao = some ⟨g,off,none⟩∧g < w.heap.size∧∃ xo xc,Reads w g (off + i * 2) [.int .i64 c.need,.slice xo c.atoms.length xc]∧KidR w (fun g=>b≤g∧g < w.heap.size) c.atoms xo:=by
 rcases h with h | ⟨g,off,h1,h2,h3⟩
 ·rw [h] at hi; exact absurd hi (Nat.not_lt_zero _)
 ·obtain ⟨xo,xc,h4,h5⟩:=h3 i _ (List.getElem?_eq_getElem hi)
  exact ⟨cs[i],List.getElem?_eq_getElem hi,g,off,h1,h2,xo,xc,h4,h5⟩
def ChO (w:World) (b lim n cap:Nat) (cs:List Chc) (ao:Option Addr):Prop:=n = cs.length∧∃ L,ChP w b lim cs L∧OwnK w lim 2 n cap (L.flatMap pairC) ao
theorem ChO.chsB {w:World} {b lim n cap:Nat} {cs:List Chc} {ao:Option Addr} (h:ChO w b lim n cap cs ao):ChsB b w cs ao:=by
 obtain ⟨hn,L,hL,hO⟩:=h
 cases hO with
 | nil h1 h2 h3=>exact .inl (List.eq_nil_of_length_eq_zero (by omega))
 | «at» g off h1 h2 h3 h4 =>
  refine .inr ⟨g,off,rfl,h1.lt,fun i c hc=>?_⟩
  obtain ⟨xo,xc,e1,e2⟩:=hL.2 i c hc
  refine ⟨xo,xc,fun j u hj=>?_,?_⟩
  ·have hj2:j < 2:=(List.getElem?_eq_some_iff.1 hj).1
   have:=h1.cells (i * 2 + j) u (by rw [flatK_at pairC 2 pairC_len L i j _ e1 hj2]; exact hj)
   rwa [← Nat.add_assoc] at this
  ·rcases e2 with e2 | ⟨g2,off2,f1,f2,f3,f4⟩
   ·exact .inl e2
   ·exact .inr ⟨g2,off2,f1,⟨f2.1,f3⟩,f3,KidsC.keep (fun x _ _=>rfl) (Nat.le_refl _) (fun x hx hl=>⟨hx.1,hl⟩) c.atoms g2 off2 f2 f3 f4⟩
theorem ChO.put {w w':World} {b lim n cap cap':Nat} {cs:List Chc} {ao ao':Option Addr} {L:List (Value × Value)} {c:Chc} {xo:Option Addr} {xc:Nat} (hn:n = cs.length) (hL:ChP w b lim cs L) (hc:KidR w (fun g=>b≤g∧g < lim) c.atoms xo) (hb:RowKit.Below lim w w')
  (h:OwnK w' lim 2 (n + 1) cap' (L.flatMap pairC ++ [.int .i64 c.need,.slice xo c.atoms.length xc]) ao'):ChO w' b lim (n + 1) cap' (cs ++ [c]) ao':=by
 refine ⟨by simp [hn],L ++ [(Value.int .i64 c.need,Value.slice xo c.atoms.length xc)],⟨by simp [hL.1],fun i d hd=>?_⟩,by rw [List.flatMap_append]; simpa [pairC] using h⟩
 rcases Nat.lt_or_ge i cs.length with hlt | hge
 ·rw [List.getElem?_append_left hlt] at hd
  obtain ⟨yo,yc,e1,e2⟩:=hL.2 i d hd
  exact ⟨yo,yc,by rw [List.getElem?_append_left (by rw [hL.1]; exact hlt)]; exact e1,KidR.lim e2 hb⟩
 ·rw [List.getElem?_append_right hge] at hd
  have h0:i - cs.length = 0:=by
   have:=(List.getElem?_eq_some_iff.1 hd).1
   simp at this
   omega
  rw [h0] at hd
  have e:c = d:=by simpa using hd
  subst e
  exact ⟨xo,xc,by rw [List.getElem?_append_right (by rw [hL.1]; exact hge),hL.1,h0]; rfl,KidR.lim hc hb⟩
theorem ChO.below {w w':World} {b lim n cap:Nat} {cs:List Chc} {ao:Option Addr} (h:ChO w b lim n cap cs ao) (hb:RowKit.Below w.heap.size w w'):ChO w' b lim n cap cs ao:=by
 obtain ⟨hn,L,hL,hO⟩:=h
 exact ⟨hn,L,⟨hL.1,fun i c hc=>by
  obtain ⟨xo,xc,e1,e2⟩:=hL.2 i c hc
  exact ⟨xo,xc,e1,KidR.below e2 hb⟩⟩,hO.below hb⟩
theorem flat_pairs:∀ L:List (Value × Value),(L.map pairC).flatten = L.flatMap pairC
 | []=>rfl
 | x :: L=>by rw [List.map_cons,List.flatten_cons,List.flatMap_cons,flat_pairs L]
theorem ChO.row {w:World} {b lim n cap:Nat} {cs:List Chc} {ao:Option Addr} (h:ChO w b lim n cap cs ao) (hl:b≤lim):∃ vss,RowM ChE 2 b w b (fun _=>False) ao n cap cs vss:=by
 obtain ⟨hn,L,hL,hO⟩:=h
 refine ⟨L.map pairC,⟨by rw [flat_pairs]; exact hO.lower hl,by rw [List.length_map,hL.1],hn,fun vs hv=>?_,fun i c vs hc hv=>?_⟩⟩
 ·obtain ⟨x,-,rfl⟩:=List.mem_map.1 hv
  rfl
 ·obtain ⟨xo,xc,e1,e2⟩:=hL.2 i c hc
  rw [List.getElem?_map,e1] at hv
  have hv':vs = [Value.int .i64 c.need,Value.slice xo c.atoms.length xc]:=(Option.some.inj hv).symm
  refine ⟨xo,xc,hv',?_⟩
  have hrow:∀ g,g < lim→blk ao ≠ some g:=fun g hg e=>by
   have:=(hO.blk_lt e).1
   omega
  rcases e2 with e2 | ⟨g2,off2,f1,f2,f3,f4⟩
  ·exact .inl e2
  ·exact .inr ⟨g2,off2,f1,⟨f2.1,fun h=>h,hrow g2 f2.2⟩,f3,KidsC.keep (fun x _ _=>rfl) (Nat.le_refl _) (fun x hx _=>⟨hx.1,fun h=>h,hrow x hx.2⟩) c.atoms g2 off2 f2 f3 f4⟩
theorem AtO.kidG {w:World} {b B n cap:Nat} {l:List Ky} {ao:Option Addr} (h:AtO w B n cap l ao) (hb:b≤B):KidR w (fun g=>b≤g∧g < w.heap.size) (l.map atomK) ao:=by
 obtain ⟨hn,vss,h1,h2,h3⟩:=h
 cases h3 with
 | nil e1 e2 e3 =>
  refine .inl ?_
  rw [List.eq_nil_of_length_eq_zero (show l.length = 0 by omega)]
  rfl
 | «at» g off h4 h5 h6 h7 =>
  refine .inr ⟨g,off,rfl,⟨Nat.le_trans hb h4.own,h4.lt⟩,h4.lt,KidsC.of _ vss g off (by rw [List.length_map,h1]) (fun i q vs hq hv=>?_) h4.cells⟩
  rw [List.getElem?_map] at hq
  obtain ⟨k,hk,rfl⟩:=Option.map_eq_some_iff.1 hq
  exact PredC.atom rfl (h2 i k vs hk hv)
def insC (x:List Ky):List (List Ky)→List (List Ky)
 | []=>[x]
 | y :: ys=>if earP x y = true then x :: y :: ys else y :: insC x ys
theorem insC_in (x y:List Ky):∀ pre:List (List Ky),pre.any (earP x) = true→insC x (pre ++ [y]) = insC x pre ++ [y]
 | [],h=>by cases h
 | z :: zs,h=>by
  rw [List.cons_append,insC,insC]
  by_cases hl:earP x z = true
  ·rw [if_pos hl,if_pos hl]; rfl
  ·rw [if_neg hl,if_neg hl,insC_in x y zs (by
    rw [List.any_cons,Bool.or_eq_true] at h
    exact h.resolve_left hl)]
   rfl
theorem insC_past (x:List Ky) (ys:List (List Ky)):∀ pre:List (List Ky),pre.any (earP x) = false→insC x (pre ++ ys) = pre ++ insC x ys
 | [],_=>rfl
 | z :: zs,h=>by
  rw [List.any_cons,Bool.or_eq_false_iff] at h
  rw [List.cons_append,insC,if_neg (by rw [h.1]; simp),insC_past x ys zs h.2]
  rfl
def outC (x:List Ky) (pre:List (List Ky)):List (List Ky):=if pre.any (earP x) = true then insC x pre else pre
theorem outC_step (x y:List Ky) (pre:List (List Ky)):outC x (pre ++ [y]) = if pre.any (earP x) = true then outC x pre ++ [y] else if earP x y = true then outC x pre ++ [x] ++ [y] else outC x pre ++ [y]:=by
 unfold outC
 rw [List.any_append]
 cases hp:pre.any (earP x) with
 | true=>simp [insC_in x y pre hp]
 | false =>
  by_cases hy:earP x y = true
  ·have h1:insC x (pre ++ [y]) = pre ++ insC x [y]:=insC_past x [y] pre hp
   have h2:insC x [y] = [x,y]:=by rw [insC,if_pos hy]
   simp [hy,h1,h2]
  ·simp [hy]
theorem outC_end (x:List Ky) (l:List (List Ky)):insC x l = if l.any (earP x) = true then outC x l else outC x l ++ [x]:=by
 unfold outC
 cases hp:l.any (earP x) with
 | true=>simp
 | false =>
  have:=insC_past x [] l hp
  rw [List.append_nil] at this
  simp [this,insC]
theorem insC_perm (x:List Ky):∀ l:List (List Ky),(insC x l).Perm (x :: l)
 | []=>List.Perm.refl _
 | y :: ys=>by
  rw [insC]
  split
  ·exact List.Perm.refl _
  ·exact ((insC_perm x ys).cons y).trans (List.Perm.swap x y ys)
theorem insC_sorted (x:List Ky):∀ l:List (List Ky),l.Pairwise (fun a b=>leC a b = true)→(insC x l).Pairwise (fun a b=>leC a b = true)
 | [],_=>by simp [insC]
 | y :: ys,h=>by
  obtain ⟨h1,h2⟩:=List.pairwise_cons.1 h
  rw [insC]
  by_cases hy:earP x y = true
  ·rw [if_pos hy]
   have hxy:leC x y = true:=by
    rw [earP_cmp,decide_eq_true_eq] at hy
    unfold leC
    rw [decide_eq_true_eq]; omega
   refine List.pairwise_cons.2 ⟨fun z hz=>?_,h⟩
   rcases List.mem_cons.1 hz with rfl | hz
   ·exact hxy
   ·exact leC_trans _ _ _ hxy (h1 z hz)
  ·rw [if_neg hy]
   refine List.pairwise_cons.2 ⟨fun z hz=>?_,insC_sorted x ys h2⟩
   rcases List.mem_cons.1 ((insC_perm x ys).mem_iff.1 hz) with rfl | hz
   ·have ht:=leC_total y z
    rw [Bool.or_eq_true] at ht
    rcases ht with ht | ht
    ·exact ht
    ·unfold leC at ht
     rw [decide_eq_true_eq] at ht
     rcases Int.lt_or_eq_of_le ht with h | h
     ·exact absurd (by rw [earP_cmp,decide_eq_true_eq]; exact h) hy
     ·have:=(cmpKL_zero z y).1 h
      subst this
      unfold leC
      rw [decide_eq_true_eq,(cmpKL_zero z z).2 rfl]
      exact Int.le_refl 0
   ·exact h1 z hz
end Go.Proofs.YtmkdfbelbcocpaaGreatDoor
namespace Go.Proofs.YtmkdfbelbcocpaaGreatDoor
open Go.RowKit Go.Sort Go.Maps
def outI (t:Nat→Bool) (l:List Ky):Nat→List (List Ky)
 | 0=>[]
 | s + 1=>if (!t (2 ^ l.length - 1 - s) && primeU t s (2 ^ l.length - 1 - s) l.length) = true then insC (pickU l s l.length) (outI t l s) else outI t l s
theorem outI_perm (t:Nat→Bool) (l:List Ky):∀ s,(outI t l s).Perm (outU t l s)
 | 0=>List.Perm.refl _
 | s + 1=>by
  rw [outI,outU]
  split
  ·exact ((insC_perm _ _).trans ((outI_perm t l s).cons _)).trans (List.perm_append_singleton _ _).symm
  ·rw [List.append_nil]; exact outI_perm t l s
theorem outI_sorted (t:Nat→Bool) (l:List Ky):∀ s,(outI t l s).Pairwise (fun a b=>leC a b = true)
 | 0=>.nil
 | s + 1=>by
  rw [outI]
  split
  ·exact insC_sorted _ _ (outI_sorted t l s)
  ·exact outI_sorted t l s
theorem outI_len (t:Nat→Bool) (l:List Ky) (s:Nat):(outI t l s).length≤s:=by
 rw [(outI_perm t l s).length_eq]
 exact outU_len t l s
theorem outI_eq (p:Prd):outI (fun set=>truthP (inSet (properP p) set) p) (properP p) (2 ^ (properP p).length) = clausesP p:=by
 unfold clausesP
 exact sorted_clauses (outI_perm _ _ _) (outI_sorted _ _ _)
theorem outI_mem (t:Nat→Bool) (l:List Ky) (s:Nat) (c:List Ky) (h:c∈outI t l s):(∀ k∈c,k∈l)∧c.length≤l.length:=by
 have h2:=(outI_perm t l s).mem_iff.1 h
 have:∀ s,c∈outU t l s→∃ s',c = pickU l s' l.length:=by
  intro s
  induction s with
  | zero=>intro h; simp [outU] at h
  | succ s ih =>
   intro h
   rw [outU,List.mem_append] at h
   rcases h with h | h
   ·exact ih h
   ·split at h
    ·rw [List.mem_singleton] at h; exact ⟨s,h⟩
    ·cases h
 obtain ⟨s',rfl⟩:=this s h2
 exact ⟨fun k hk=>pickU_in l s' k _ hk,pickU_len l s' _⟩
theorem one_pair (a:Int) (x:Option Addr) (n m:Nat):∀ u∈(#[.int .i64 a,.slice x n m]:Array Value).toList,u.oneCell' = true:=by
 intro u hu
 simp at hu
 rcases hu with rfl | rfl <;> rfl
theorem kidR_true {w:World} {P:Nat→Prop} {ks:List Prd} {ao:Option Addr} (h:KidR w P ks ao):KidR w (fun _=>True) ks ao:=by
 rcases h with h | ⟨g,off,h1,h2,h3,h4⟩
 ·exact .inl h
 ·exact .inr ⟨g,off,h1,trivial,h3,KidsC.keep (fun x _ _=>rfl) (Nat.le_refl _) (fun _ _ _=>trivial) ks g off h2 h3 h4⟩
set_option maxHeartbeats 32000000 in
set_option maxRecDepth 100000 in
theorem rclauses_any (p:Prd) (w:World) (P:Nat→Prop) (vs:List Value) (hN:cntP p≤1000000) (hf:formP p = true) (hb:BytP p) (h8:(properP p).length≤8) (h:PredC w P p vs) :
  Calls Tryz.prog 169 #[.agg vs.toArray] w (ChoR w ((clausesP p).map clC)):=by
 obtain ⟨xa,xn,xc,rfl,-⟩:=h.form
 have bx:=(RowKit.Below.refl w.heap.size w).alloc (Nat.le_refl _) (.cells #[.int .i64 p.k,.string (strN p.l),.string (strN p.r),.int .i64 p.c,.slice xa xn xc] 25)
 have B1:=mkHid bx
 have X1:Hid (HasV (w.alloc (.cells #[.int .i64 p.k,.string (strN p.l),.string (strN p.r),.int .i64 p.c,.slice xa xn xc] 25)) w.heap.size 25 [.int .i64 p.k,.string (strN p.l),.string (strN p.r),.int .i64 p.c,.slice xa xn xc]):=mkHid (heap_alloc_new w _)
 have HCO:=mkHid (fun W (hW:RowKit.Below w.heap.size w W)=>rcollect_any (cntP p) p W P _ [] none 0 (Nat.le_refl _) (by simpa using hN) hf .nil (fun k hk=>by cases hk) (h.below hW) (.inl rfl))
 have HAT:Hid ((keysP p).foldl addK [] = atomsP p):=mkHid rfl
 rw [HAT.out] at HCO
 have HAL:Hid ((atomsP p).length≤1000000):=mkHid (by
  refine Nat.le_trans (nodup_len_le _ (keysP p) (asc_nodup (atomsP_asc p)) (fun x hx=>(atomsP_mem p x).1 hx)) ?_
  exact Nat.le_trans (keysP_len p) hN)
 have HAB:Hid (∀ k∈atomsP p,KyB k):=mkHid (fun k hk=>(form_keys p hf k ((atomsP_mem p k).1 hk)).bytes)
 have HPP:Hid ((atomsP p).filter (fun k=>!conK k) = properP p):=mkHid rfl
 have HPB:Hid (∀ k∈properP p,KyB k):=mkHid (fun k hk=>(form_keys p hf k ((properP_mem p k).1 hk).1).bytes)
 have HIN:Hid (∀ k∈keysP p,conK k = false ↔ k∈properP p):=mkHid (fun k hk=>by rw [properP_mem]; exact ⟨fun h=>⟨hk,h⟩,fun h=>h.2⟩)
 have HPR:=mkHid (fun (ao:Option Addr) (na ac S:Nat) (hna:na = (properP p).length) (hS:S < 2 ^ na) W (hW:RowKit.Below w.heap.size w W) (hka:KidR W (fun _=>True) ((properP p).map atomK) ao)=>rprime_any p W P _ (properP p) ao na ac S hN hna (by omega) hS (properP_asc p) HPB.out hb HIN.out (h.below hW) hka)
 have HCL:=mkHid (outI_eq p)
 have H8:=mkHid h8
 clear bx h hN hf hb h8 HAT HIN
 generalize p.k = q0 at *
 generalize strN p.l = q1 at *
 generalize strN p.r = q2 at *
 generalize p.c = q3 at *
 go_enter Tryz.func169,Tryz.ntmps169
 go_upto_region 1 with (fail)
 generalize w.alloc (.cells #[.int .i64 q0,.string q1,.string q2,.int .i64 q3,.slice xa xn xc] 25) = w1 at *
 go_wp2_with (refine wpList_load_row rfl 25 (.tmp 1) rfl w.heap.size ?a1 25 #[.int .i64 q0,.string q1,.string q2,.int .i64 q3,.slice xa xn xc] (0,0) _ X1.out Tryz.underlying25 rfl (inf_pred _ rfl) ?_; (case a1=>rfl))
 refine (HCO.out w1 B1.out).mono ?_
 rintro e w2 ⟨co,cc,rfl,hk2,b2⟩
 have HPO:=mkHid (rproper_any w2 (atomsP p) co _ cc rfl HAL.out HAB.out hk2)
 rw [HPP.out] at HPO
 have B2:=mkHid (B1.out.trans (b2.mono B1.out.size))
 have X2:=mkHid (X1.out.step b2)
 clear b2 hk2 B1 X1 HCO HAL HAB HPP
 generalize (atomsP p).length = an at *
 go_wp2_with fail
 refine HPO.out.mono ?_
 rintro e w3 ⟨ro,rn,rc,rfl,ha3,b3⟩
 have A3:=mkHid ha3.kidR
 have HRN:=mkHid ha3.1
 have B3:=mkHid (B2.out.trans (b3.mono B2.out.size))
 have X3:=mkHid (X2.out.step b3)
 have HB3:=mkHid (B2.out.trans (b3.mono B2.out.size)).size
 clear b3 ha3 HPO B2 X2
 have bx:=(RowKit.Below.refl w3.heap.size w3).alloc (Nat.le_refl _) (.cells #[] 47)
 have B4:=mkHid (B3.out.trans (bx.mono B3.out.size))
 have X4:=mkHid (X3.out.step bx)
 have A4:=mkHid (A3.out.below bx)
 have rn8:rn≤8:=by have:=HRN.out; have:=H8.out; omega
 obtain ⟨l,hl⟩:∃ l,properP p = l:=⟨_,rfl⟩
 rw [hl] at HRN A4 HPB HPR HCL
 obtain ⟨tt,htt⟩:∃ tt:Nat→Bool,(fun set=>truthP (inSet l set) p) = tt:=⟨_,rfl⟩
 have H25:Hid (∀ set,truthP (inSet l set) p = tt set):=mkHid (fun set=>by rw [← htt])
 rw [htt] at HCL
 simp only [H25.out] at HPR
 obtain ⟨N,hN⟩:∃ N,2 ^ rn = N:=⟨_,rfl⟩
 have HNE:=mkHid hN
 have HNL:Hid (N = 2 ^ l.length):=mkHid (by rw [← hN,HRN.out])
 rw [← HNL.out] at HCL
 have eS:wrap64 ((2:Int) ^ rn) = (N:Int):=by rw [← hN]; exact shl_at rn8
 have N256:N≤256:=by rw [← hN]; exact Nat.le_trans (Nat.pow_le_pow_right (by omega) rn8) (by decide)
 have r64:(rn:Int) < 64:=by omega
 have r0:(0:Int)≤rn:=by omega
 clear bx hl htt hN B3 X3 A3 H25 H8
 have HC0:Hid (∃ lim,w.heap.size≤lim∧ChO (w3.alloc (.cells #[] 47)) w.heap.size lim 0 0 ((outI tt l 0).map clC) (some ⟨w3.heap.size,0,none⟩)):=mkHid ⟨w3.heap.size,HB3.out,rfl,[],⟨rfl,fun i c hc=>by simp [outI] at hc⟩,OwnK.made w3 _ 2⟩
 go_upto_region 3 with (fail)
 generalize w3.alloc (.cells #[] 47) = w4 at *
 have C0:Hid (∃ lim,w.heap.size≤lim∧ChO w4 w.heap.size lim 0 0 ((outI tt l 0).map clC) (some ⟨w3.heap.size,0,none⟩)):=HC0
 have L0:Hid (0 = (outI tt l 0).length):=mkHid rfl
 have Z4:=mkHid (RowKit.Below.refl w4.heap.size w4)
 go_wp2_with fail
 go_loopw [5,4] (fun cc ov wr=>∃ (s k:Nat) (oo:Option Addr) (oc:Nat),cc = .int .i64 s∧ov = .slice oo k oc∧s≤N∧k≤s∧Hid (k = (outI tt l s).length)∧Hid (∃ lim,w.heap.size≤lim∧ChO wr w.heap.size lim k oc ((outI tt l s).map clC) oo)∧Hid (RowKit.Below w4.heap.size w4 wr)) (fun c _ _=>(N - intOf c).toNat)
 case atStart=>exact ⟨0,0,_,0,rfl,rfl,by omega,by omega,L0,C0,Z4⟩
 case round =>
  clear C0 L0 Z4
  obtain ⟨s,k,oo,oc,rfl,rfl,hs,hks,hkl,hcs,hw⟩:=hrel
  have e2:IntKind.i64.wrap ((s:Int) + 1) = ((s + 1:Nat):Int):=IntWalk.i64_in _ (by omega)
  by_cases hlt:s < N
  ·have ss:(s:Int) < N:=by omega
   have W1:=mkHid (B4.out.trans (hw.out.mono B4.out.size))
   have XR:=mkHid (X4.out.step hw.out)
   have AR:=mkHid (A4.out.below hw.out)
   have HPX:=mkHid (HPR.out ro rn rc s HRN.out (by rw [HNE.out]; exact hlt) wr W1.out AR.out)
   have HOI:Hid (outI tt l (s + 1) = if (!tt (2 ^ l.length - 1 - s) && primeU tt s (2 ^ l.length - 1 - s) l.length) = true then insC (pickU l s l.length) (outI tt l s) else outI tt l s):=mkHid (by rw [outI])
   rw [← HRN.out] at HOI
   have HMEM:=mkHid (outI_mem tt l s)
   obtain ⟨pb,hpb⟩:∃ pb,(!tt (2 ^ rn - 1 - s) && primeU tt s (2 ^ rn - 1 - s) rn) = pb:=⟨_,rfl⟩
   have HPB2:Hid ((fun s=>tt s) = tt):=mkHid rfl
   rw [HPB2.out] at HPX
   rw [hpb] at HPX HOI
   clear hpb HPB2
   obtain ⟨outs,houts⟩:∃ outs,outI tt l s = outs:=⟨_,rfl⟩
   rw [houts] at HOI HMEM hkl hcs
   clear houts
   go_upto_region 6 with (fail)
   go_wp2_with (refine wpList_load_row rfl 25 (.tmp 1) rfl w.heap.size ?a2 25 #[.int .i64 q0,.string q1,.string q2,.int .i64 q3,.slice xa xn xc] (0,0) _ XR.out Tryz.underlying25 rfl (inf_pred _ rfl) ?_; (case a2=>rfl))
   refine HPX.out.mono ?_
   rintro e w5 ⟨rfl,b5⟩
   have W5:=mkHid (hw.out.trans (b5.mono hw.out.size))
   have CH5:Hid (∃ lim,w.heap.size≤lim∧ChO w5 w.heap.size lim k oc (outs.map clC) oo):=mkHid (by
    obtain ⟨lim,h1,h2⟩:=hcs.out
    exact ⟨lim,h1,h2.below b5⟩)
   have CS5:Hid (ChsB w.heap.size w5 (outs.map clC) oo):=mkHid (by
    obtain ⟨lim,h1,h2⟩:=CH5.out
    exact h2.chsB)
   have HB5:=mkHid (W1.out.trans (b5.mono W1.out.size)).size
   have A5:=mkHid (AR.out.below b5)
   clear b5 hw hcs AR XR W1 HPX
   cases pb with
   | false =>
    rw [if_neg (by simp)] at HOI
    go_wp2
    go_roundw
    case rel=>exact ⟨s + 1,k,oo,oc,by go_num,rfl,by omega,by omega,mkHid (by rw [HOI.out]; exact hkl.out),mkHid (by rw [HOI.out]; exact CH5.out),W5⟩
    case measure=>simp only [intOf]; omega
   | true =>
    rw [if_pos rfl] at HOI
    have HPK:=mkHid (rpick_any w5 l ro rn rc s HRN.out rn8 (by omega) A5.out)
    have HXM:Hid (∀ z∈pickU l s rn,KyB z):=mkHid (fun z hz=>HPB.out z (pickU_in l s z _ hz))
    have HXL:=mkHid (pickU_len l s rn)
    obtain ⟨x,hx⟩:∃ x,pickU l s rn = x:=⟨_,rfl⟩
    rw [hx] at HOI HPK HXM HXL
    clear hx
    go_wp2_with fail
    refine HPK.out.mono ?_
    rintro e w6 ⟨xo,xl,xd,rfl,ha6,b6⟩
    have HXN:=mkHid ha6.1
    have CS6:=mkHid (CS5.out.below b6)
    have W6:=mkHid (W5.out.trans (b6.mono W5.out.size))
    have KX6:=mkHid (ha6.kidG HB5.out)
    clear b6 ha6 CS5 W5 HPK A5 CH5
    have bx:=(RowKit.Below.refl w6.heap.size w6).alloc (Nat.le_refl _) (.cells #[.int .i64 1,.slice xo xl xd] 47)
    have BX7:Hid (HasV (w6.alloc (.cells #[.int .i64 1,.slice xo xl xd] 47)) w6.heap.size 47 [.int .i64 1,.slice xo xl xd]):=mkHid (heap_alloc_new _ _)
    have CS7:=mkHid (CS6.out.below bx)
    have W7:=mkHid (W6.out.trans (bx.mono W6.out.size))
    have KX7:=mkHid (KidR.grow KX6.out bx)
    have HB7:=mkHid (Nat.le_trans B4.out.size W7.out.size)
    clear bx CS6 W6 KX6
    go_upto_region 8 with (fail)
    generalize w6.heap.size = bxn at *
    generalize w6.alloc (.cells #[.int .i64 1,.slice xo xl xd] 47) = w7 at *
    have by1:=(RowKit.Below.refl w7.heap.size w7).alloc (Nat.le_refl _) (.cells #[] 47)
    have Z8:=mkHid by1
    have O8:Hid (ChO (w7.alloc (.cells #[] 47)) w.heap.size w7.heap.size 0 0 ((outC x (outs.take 0)).map clC) (some ⟨w7.heap.size,0,none⟩)):=mkHid ⟨rfl,[],⟨rfl,fun i c hc=>by simp [outC] at hc⟩,OwnK.made w7 _ 2⟩
    clear by1
    go_upto_region 9 with (fail)
    generalize w7.alloc (.cells #[] 47) = w8 at *
    have BXL:Hid (bxn < w7.heap.size):=mkHid BX7.out.lt
    have k256:k≤256:=by omega
    go_wp2_with fail
    go_loopw [9,8,7] (fun cc dd nv wr=>∃ (i m:Nat) (d:Bool) (no:Option Addr) (nc:Nat),cc = .int .i64 i∧dd = .bool d∧nv = .slice no m nc∧i≤k∧m≤i + 1∧Hid (d = (outs.take i).any (earP x))∧Hid (ChO wr w.heap.size w7.heap.size m nc ((outC x (outs.take i)).map clC) no)∧Hid (RowKit.Below w7.heap.size w7 wr)) (fun c _ _ _=>(k - intOf c).toNat)
    case atStart=>exact ⟨0,0,false,_,0,rfl,rfl,rfl,by omega,by omega,mkHid (by simp),O8,Z8⟩
    case round =>
     clear O8 Z8
     obtain ⟨i,m,d,no,nc,rfl,rfl,rfl,hi,hmi,hd,ho,hq⟩:=hrel
     have e3:IntKind.i64.wrap ((i:Int) + 1) = ((i + 1:Nat):Int):=IntWalk.i64_in _ (by omega)
     have BXR:=mkHid (BX7.out.step hq.out)
     by_cases hil:i < k
     ·have ii:(i:Int) < k:=by omega
      have HY:Hid (∃ y,outs[i]? = some y):=mkHid ⟨_,List.getElem?_eq_getElem (by rw [← hkl.out]; exact hil)⟩
      obtain ⟨y,hyi⟩:=HY.out
      obtain ⟨c,hci,g,off,hoo,hg,yo,yc,hrd,hkr⟩:=CS7.out.get (i:=i) (by rw [List.length_map,← hkl.out]; exact hil)
      obtain rfl:c = clC y:=by rw [List.getElem?_map,hyi] at hci; exact (Option.some.inj hci).symm
      have HVF:Hid ([Value.int .i64 (clC y).need,.slice yo (clC y).atoms.length yc] = [.int .i64 1,.slice yo y.length yc]):=mkHid (by show [Value.int .i64 1,.slice yo (y.map atomK).length yc] = _; rw [List.length_map])
      rw [HVF.out] at hrd
      have HTK:Hid (outs.take (i + 1) = outs.take i ++ [y]):=mkHid (by rw [List.take_add_one,hyi]; rfl)
      have HST:=mkHid (outC_step x y (outs.take i))
      rw [← HTK.out,← hd.out] at HST
      have HAN:Hid ((outs.take (i + 1)).any (earP x) = ((outs.take i).any (earP x) || earP x y)):=mkHid (by rw [HTK.out,List.any_append,List.any_cons,List.any_nil,Bool.or_false])
      rw [← hd.out] at HAN
      have HYM:=mkHid (HMEM.out y (List.mem_of_getElem? hyi))
      have HKY:=mkHid hkr
      have HGL:=mkHid hg
      have HRD:=mkHid hrd
      have HOO:=mkHid hoo
      clear hrd hkr hci hyi HY HTK HVF hg
      subst hoo
      obtain ⟨ly,hly⟩:∃ ly,y.length = ly:=⟨_,rfl⟩
      have HLY:=mkHid hly
      rw [hly] at HRD
      clear hly
      have HPUTy:=mkHid (fun (wq:World) (hwq:RowKit.Below w7.heap.size w7 wq) (m nc:Nat) (cs:List Chc) (L:List (Value × Value)) (no:Option Addr) (hm:m = cs.length) (hL:ChP wq w.heap.size w7.heap.size cs L) (wa:World) (hwa:RowKit.Below w7.heap.size wq wa) (c5:Nat) (a5:Option Addr) (h:OwnK wa w7.heap.size 2 (m + 1) c5 (L.flatMap pairC ++ [.int .i64 1,.slice yo ly yc]) a5)=>ChO.put (cap:=nc) (ao:=no) (c:=clC y) hm hL (KidR.lim HKY.out hwq) hwa (by
       show OwnK wa w7.heap.size 2 (m + 1) c5 (L.flatMap pairC ++ [.int .i64 1,.slice yo (y.map atomK).length yc]) a5
       rw [List.length_map,HLY.out]; exact h))
      have HPUTx:=mkHid (fun (wq:World) (hwq:RowKit.Below w7.heap.size w7 wq) (m nc:Nat) (cs:List Chc) (L:List (Value × Value)) (no:Option Addr) (hm:m = cs.length) (hL:ChP wq w.heap.size w7.heap.size cs L) (wa:World) (hwa:RowKit.Below w7.heap.size wq wa) (c5:Nat) (a5:Option Addr) (h:OwnK wa w7.heap.size 2 (m + 1) c5 (L.flatMap pairC ++ [.int .i64 1,.slice xo xl xd]) a5)=>ChO.put (cap:=nc) (ao:=no) (c:=clC x) hm hL (KidR.lim KX7.out hwq) hwa (by
       show OwnK wa w7.heap.size 2 (m + 1) c5 (L.flatMap pairC ++ [.int .i64 1,.slice xo (x.map atomK).length xd]) a5
       rw [List.length_map,← HXN.out]; exact h))
      have HEA:=mkHid (fun W (hW:RowKit.Below w7.heap.size w7 W)=>rearlier_any W x y xo yo xl ly xd yc HXN.out HLY.out.symm (by have:=HXN.out; have:=HXL.out; omega) (by have:=HYM.out.2; have:=HLY.out; have:=HRN.out; omega) HXM.out (fun z hz=>HPB.out z (HYM.out.1 z hz)) (kidR_true (KidR.below KX7.out hW)) (kidR_true (KidR.below HKY.out hW)))
      have r0:=(HRD.out.of_block (hq.out.block g HGL.out)) 0 _ rfl
      have r1:=(HRD.out.of_block (hq.out.block g HGL.out)) 1 _ rfl
      rw [Nat.add_zero] at r0
      have c0:=BXR.out.cell 0 _ rfl
      have c1:=BXR.out.cell 1 _ rfl
      generalize hea:earP x y = ea at *
      clear hea
      cases d with
      | true =>
       rw [if_pos rfl] at HST
       rw [Bool.true_or] at HAN
       go_upto_region 13 with (fail)
       go_quiet (fail)
       have BD:=below_drewN (RowKit.Below.refl wr.heap.size wr) nq
       have Q2:=mkHid (hq.out.trans (BD.mono hq.out.size))
       have O2:Hid (ChO (wr.drewN nq) w.heap.size w7.heap.size m nc ((outC x (outs.take i)).map clC) no):=mkHid (ho.out.below BD)
       have u0:=cell_later BD r0
       have u1:=cell_later BD r1
       clear BD hq ho r0 r1 c0 c1
       generalize wr.drewN nq = wd at *
       obtain ⟨hmk,L,hL,hO⟩:=O2.out
       have HO:=mkHid hO
       have HP:=mkHid (HPUTy.out wd Q2.out m nc _ L no hmk hL)
       have Q2s:=mkHid Q2.out.size
       clear hmk hL hO O2
       go_wp2_with (at_builtin; refine app_k 41 47 (.agg #[.int .i64 0,.slice none 0 0]) 2 32 Tryz.underlying41 info_chc rfl (by omega) (by omega) wd w7.heap.size rfl (.tmp 53) (.tmp 58) rfl no nc m (L.flatMap pairC) ?y1 HO.out ?y2 1 1 #[.int .i64 1,.slice yo ly yc] 47 ?y3 rfl (by omega) ?y4 ?y5 ?_; (case y1=>rfl); (case y2=>exact Q2s.out); (case y3=>rfl); (case y4=>exact one_pair _ _ _ _); (case y5=>omega); intro g7 off7 c7 wa o9 gr9 b9 or9; have O9:=mkHid o9; have B9:=mkHid b9; have Q9:=mkHid (Q2.out.trans b9); clear o9 gr9 b9 or9 u0 u1)
       go_roundw
       case rel=>exact ⟨i + 1,m + 1,true,some ⟨g7,off7,none⟩,c7,by go_num,rfl,rfl,by omega,by omega,mkHid HAN.out.symm,mkHid (by rw [HST.out,List.map_append]; exact HP.out wa B9.out _ _ O9.out),Q9⟩
       case measure=>simp only [intOf]; omega
      | false =>
       rw [if_neg (by simp)] at HST
       rw [Bool.false_or] at HAN
       have HKI:Hid (m≤i):=mkHid (by
        have h1:=ho.out.1
        rw [List.length_map] at h1
        unfold outC at h1
        rw [if_neg (by rw [← hd.out]; simp)] at h1
        rw [h1,List.length_take]; omega)
       have hmi2:=HKI.out
       have HA1:=mkHid (fun W (hW:RowKit.Below wr.heap.size wr W)=>HEA.out W (hq.out.trans (hW.mono hq.out.size)))
       go_upto_region 13 with (fail)
       have r1':=regr wr (fun W hW=>HA1.out W hW)
       have a0':=cell_regrown r0
       have a1':=cell_regrown r1
       have b0':=cell_regrown c0
       have b1':=cell_regrown c1
       clear r0 r1 c0 c1
       refine wp_region_quiet_below (by kernel_rfl) (by kernel_rfl) ?_
       repeat (quiet_step (with_reducible (exact r1' _ _)))
       refine wpQuiet_nil ?_
       intro _ hw'
       obtain ⟨⟨dq,osq⟩,hw''⟩:=hw'
       subst hw''
       have BB:=below_regrown wr dq osq
       have Q2:=mkHid (hq.out.trans (BB.mono hq.out.size))
       have O2:=mkHid (ho.out.below BB)
       have BX2:=mkHid (BXR.out.step BB)
       clear r1' a0' a1' b0' b1' BB hq ho BXR HA1 HEA
       generalize grow (redrawn wr dq) osq = wd at *
       have u0:=(HRD.out.of_block (Q2.out.block g HGL.out)) 0 _ rfl
       have u1:=(HRD.out.of_block (Q2.out.block g HGL.out)) 1 _ rfl
       rw [Nat.add_zero] at u0
       obtain ⟨hmk,L,hL,hO⟩:=O2.out
       have HO:=mkHid hO
       have Q2s:=mkHid Q2.out.size
       cases ea with
       | false =>
        rw [if_neg (by simp)] at HST
        have HP:=mkHid (HPUTy.out wd Q2.out m nc _ L no hmk hL)
        clear hmk hL hO O2
        go_wp2_with (at_builtin; refine app_k 41 47 (.agg #[.int .i64 0,.slice none 0 0]) 2 32 Tryz.underlying41 info_chc rfl (by omega) (by omega) wd w7.heap.size rfl (.tmp 53) (.tmp 58) rfl no nc m (L.flatMap pairC) ?y1 HO.out ?y2 1 1 #[.int .i64 1,.slice yo ly yc] 47 ?y3 rfl (by omega) ?y4 ?y5 ?_; (case y1=>rfl); (case y2=>exact Q2s.out); (case y3=>rfl); (case y4=>exact one_pair _ _ _ _); (case y5=>omega); intro g7 off7 c7 wa o9 gr9 b9 or9; have O9:=mkHid o9; have B9:=mkHid b9; have Q9:=mkHid (Q2.out.trans b9); clear o9 gr9 b9 or9 u0 u1)
        go_roundw
        case rel=>exact ⟨i + 1,m + 1,false,some ⟨g7,off7,none⟩,c7,by go_num,rfl,rfl,by omega,by omega,mkHid HAN.out.symm,mkHid (by rw [HST.out,List.map_append]; exact HP.out wa B9.out _ _ O9.out),Q9⟩
        case measure=>simp only [intOf]; omega
       | true =>
        rw [if_pos rfl] at HST
        have HP:=mkHid (HPUTx.out wd Q2.out m nc _ L no hmk hL)
        clear hmk hL hO O2 u0 u1
        go_upto_region 15 with (first | (refine wpList_load_row rfl 47 (.tmp 6) rfl bxn ?d1 47 #[.int .i64 1,.slice xo xl xd] (0,0) _ BX2.out Tryz.underlying47 rfl (inf_chc _ rfl) ?_; (case d1=>rfl)) | (at_builtin; refine app_k 41 47 (.agg #[.int .i64 0,.slice none 0 0]) 2 32 Tryz.underlying41 info_chc rfl (by omega) (by omega) wd w7.heap.size rfl (.tmp 49) (.tmp 51) rfl no nc m (L.flatMap pairC) ?y1 HO.out ?y2 1 1 #[.int .i64 1,.slice xo xl xd] 47 ?y3 rfl (by omega) ?y4 ?y5 ?_; (case y1=>rfl); (case y2=>exact Q2s.out); (case y3=>rfl); (case y4=>exact one_pair _ _ _ _); (case y5=>omega); intro g6 off6 c6 wb o9 gr9 b9 or9; have O8b:=mkHid o9; have B8:=mkHid b9; have Q8:=mkHid (Q2.out.trans b9); clear o9 gr9 b9 or9))
        have AT:=mkHid (HP.out wb B8.out _ _ O8b.out)
        clear HP O8b HO
        obtain ⟨hmk,L2,hL,hO⟩:=AT.out
        have HO:=mkHid hO
        have HP:=mkHid (HPUTy.out wb Q8.out (m + 1) c6 _ L2 (some ⟨g6,off6,none⟩) hmk hL)
        have Q8s:=mkHid Q8.out.size
        have u0:=(HRD.out.of_block (Q8.out.block g HGL.out)) 0 _ rfl
        have u1:=(HRD.out.of_block (Q8.out.block g HGL.out)) 1 _ rfl
        rw [Nat.add_zero] at u0
        clear hmk hL hO AT
        go_wp2_with (at_builtin; refine app_k 41 47 (.agg #[.int .i64 0,.slice none 0 0]) 2 32 Tryz.underlying41 info_chc rfl (by omega) (by omega) wb w7.heap.size rfl (.tmp 53) (.tmp 58) rfl (some ⟨g6,off6,none⟩) c6 (m + 1) (L2.flatMap pairC) ?z1 HO.out ?z2 1 1 #[.int .i64 1,.slice yo ly yc] 47 ?z3 rfl (by omega) ?z4 ?z5 ?_; (case z1=>rfl); (case z2=>exact Q8s.out); (case z3=>rfl); (case z4=>exact one_pair _ _ _ _); (case z5=>omega); intro g7 off7 c7 wa o9 gr9 b9 or9; have O9:=mkHid o9; have B9:=mkHid b9; have Q9:=mkHid (Q8.out.trans b9); clear o9 gr9 b9 or9 u0 u1)
        go_roundw
        case rel=>exact ⟨i + 1,m + 1 + 1,true,some ⟨g7,off7,none⟩,c7,by go_num,rfl,rfl,by omega,by omega,mkHid HAN.out.symm,mkHid (by rw [HST.out,List.map_append,List.map_append]; exact HP.out wa B9.out _ _ O9.out),Q9⟩
        case measure=>simp only [intOf]; omega
     ·have ii:¬ ((i:Int) < k):=by omega
      have HTC:Hid (outs.take i = outs):=mkHid (List.take_of_length_le (by rw [← hkl.out]; omega))
      rw [HTC.out] at hd ho
      have HEN:=mkHid (outC_end x outs)
      rw [← hd.out] at HEN
      have HOL:=mkHid (outI_len tt l (s + 1))
      rw [HOI.out] at HOL
      cases d with
      | true =>
       rw [if_pos rfl] at HEN
       have HKL:Hid (m = (outI tt l (s + 1)).length):=mkHid (by rw [HOI.out,HEN.out]; have:=ho.out.1; rwa [List.length_map] at this)
       have HML:Hid (m≤s + 1):=mkHid (by rw [HKL.out,HOI.out]; exact HOL.out)
       have hml:=HML.out
       have W9:=mkHid (W7.out.trans (hq.out.mono W7.out.size))
       go_wp2
       go_roundw
       case rel=>exact ⟨s + 1,m,no,nc,by go_num,rfl,by omega,by omega,HKL,mkHid ⟨w7.heap.size,HB7.out,by rw [HOI.out,HEN.out]; exact ho.out⟩,W9⟩
       case measure=>simp only [intOf]; omega
      | false =>
       rw [if_neg (by simp)] at HEN
       have HPUTx:=mkHid (fun (wq:World) (hwq:RowKit.Below w7.heap.size w7 wq) (m nc:Nat) (cs:List Chc) (L:List (Value × Value)) (no:Option Addr) (hm:m = cs.length) (hL:ChP wq w.heap.size w7.heap.size cs L) (wa:World) (hwa:RowKit.Below w7.heap.size wq wa) (c5:Nat) (a5:Option Addr) (h:OwnK wa w7.heap.size 2 (m + 1) c5 (L.flatMap pairC ++ [.int .i64 1,.slice xo xl xd]) a5)=>ChO.put (cap:=nc) (ao:=no) (c:=clC x) hm hL (KidR.lim KX7.out hwq) hwa (by
        show OwnK wa w7.heap.size 2 (m + 1) c5 (L.flatMap pairC ++ [.int .i64 1,.slice xo (x.map atomK).length xd]) a5
        rw [List.length_map,← HXN.out]; exact h))
       obtain ⟨hmk,L,hL,hO⟩:=ho.out
       have HO:=mkHid hO
       have HP:=mkHid (HPUTx.out wr hq.out m nc _ L no hmk hL)
       have Q2s:=mkHid hq.out.size
       clear hmk hL hO ho
       go_upto_region 19 with (first | (refine wpList_load_row rfl 47 (.tmp 6) rfl bxn ?d2 47 #[.int .i64 1,.slice xo xl xd] (0,0) _ BXR.out Tryz.underlying47 rfl (inf_chc _ rfl) ?_; (case d2=>rfl)) | (at_builtin; refine app_k 41 47 (.agg #[.int .i64 0,.slice none 0 0]) 2 32 Tryz.underlying41 info_chc rfl (by omega) (by omega) wr w7.heap.size rfl (.tmp 62) (.tmp 64) rfl no nc m (L.flatMap pairC) ?y1 HO.out ?y2 1 1 #[.int .i64 1,.slice xo xl xd] 47 ?y3 rfl (by omega) ?y4 ?y5 ?_; (case y1=>rfl); (case y2=>exact Q2s.out); (case y3=>rfl); (case y4=>exact one_pair _ _ _ _); (case y5=>omega); intro g7 off7 c7 wa o9 gr9 b9 or9; have O9:=mkHid o9; have B9:=mkHid b9; have Q9:=mkHid (hq.out.trans b9); clear o9 gr9 b9 or9))
       have AT:=mkHid (HP.out wa B9.out _ _ O9.out)
       have HKL:Hid (m + 1 = (outI tt l (s + 1)).length):=mkHid (by rw [HOI.out,HEN.out]; have:=AT.out.1; rw [this]; simp)
       have HML:Hid (m + 1≤s + 1):=mkHid (by rw [HKL.out,HOI.out]; exact HOL.out)
       have hml:=HML.out
       have W9:=mkHid (W7.out.trans (Q9.out.mono W7.out.size))
       go_wp2
       go_roundw
       case rel=>exact ⟨s + 1,m + 1,some ⟨g7,off7,none⟩,c7,by go_num,rfl,by omega,by omega,HKL,mkHid ⟨w7.heap.size,HB7.out,by rw [HOI.out,HEN.out]; have:=AT.out; simpa using this⟩,W9⟩
       case measure=>simp only [intOf]; omega
  ·have ii:¬ ((s:Int) < N):=by omega
   obtain rfl:s = N:=by omega
   have BF:=mkHid (B4.out.trans (hw.out.mono B4.out.size))
   have HQC:Hid (∃ vss,RowM ChE 2 w.heap.size wr w.heap.size (fun _=>False) oo k oc ((clausesP p).map clC) vss):=mkHid (by
    obtain ⟨lim,h1,h2⟩:=hcs.out
    rw [HCL.out] at h2
    exact h2.row h1)
   have HKK:Hid (k = ((clausesP p).map clC).length):=mkHid (by rw [List.length_map,← HCL.out]; exact hkl.out)
   clear hcs hkl hw
   go_wp2
   go_ret
   obtain ⟨vss,hv⟩:=HQC.out
   exact ⟨oo,oc,vss,by rw [← HKK.out]; rfl,by rw [← HKK.out]; exact hv,BF.out⟩
end Go.Proofs.YtmkdfbelbcocpaaGreatDoor
namespace Go.Proofs.YtmkdfbelbcocpaaGreatDoor
open Go.RowKit Go.Sort Go.Maps
mutual
def CapC (w:World):Prd→List Value→Prop
 | .mk k l r c ks,vs=>∃ ao cap,vs = [.int .i64 k,.string (strN l),.string (strN r),.int .i64 c,.slice ao ks.length cap]∧ks.length≤cap∧(ks = []∨∃ g off,ao = some ⟨g,off,none⟩∧g < w.heap.size∧CapL w ks g off)
def CapL (w:World):List Prd→Nat→Nat→Prop
 | [],_,_=>True
 | p :: ps,g,off=>(∃ vs,CapC w p vs∧Reads w g off vs)∧CapL w ps g (off + 5)
end
mutual
theorem CapC.below {w w':World} (hb:RowKit.Below w.heap.size w w'):∀ (p:Prd) (vs:List Value),CapC w p vs→CapC w' p vs
 | .mk k l r c ks,vs,h=>by
  unfold CapC at h ⊢
  obtain ⟨ao,cap,hv,hc,hk⟩:=h
  refine ⟨ao,cap,hv,hc,?_⟩
  rcases hk with hk | ⟨g,off,ha,hl,hk⟩
  ·exact .inl hk
  ·exact .inr ⟨g,off,ha,Nat.lt_of_lt_of_le hl hb.size,CapL.below hb ks g off hl hk⟩
theorem CapL.below {w w':World} (hb:RowKit.Below w.heap.size w w'):∀ (ks:List Prd) (g off:Nat),g < w.heap.size→CapL w ks g off→CapL w' ks g off
 | [],_,_,_,_=>by unfold CapL; trivial
 | p :: ps,g,off,hg,h=>by
  unfold CapL at h ⊢
  obtain ⟨⟨vs,h1,h2⟩,h3⟩:=h
  exact ⟨⟨vs,CapC.below hb p vs h1,h2.of_block (hb.block g hg)⟩,CapL.below hb ps g (off + 5) hg h3⟩
end
mutual
theorem CapC.pred {w:World}:∀ (p:Prd) (vs:List Value),CapC w p vs→PredC w (fun g=>g < w.heap.size) p vs
 | .mk k l r c ks,vs,h=>by
  unfold CapC at h
  unfold PredC
  obtain ⟨ao,cap,hv,hc,hk⟩:=h
  refine ⟨ao,cap,hv,?_⟩
  rcases hk with hk | ⟨g,off,ha,hl,hk⟩
  ·exact .inl hk
  ·exact .inr ⟨g,off,ha,hl,hl,CapL.kids ks g off hk⟩
theorem CapL.kids {w:World}:∀ (ks:List Prd) (g off:Nat),CapL w ks g off→KidsC w (fun g=>g < w.heap.size) ks g off
 | [],_,_,_=>by unfold KidsC; trivial
 | p :: ps,g,off,h=>by
  unfold CapL at h
  unfold KidsC
  obtain ⟨⟨vs,h1,h2⟩,h3⟩:=h
  exact ⟨⟨vs,CapC.pred p vs h1,h2⟩,CapL.kids ps g (off + 5) h3⟩
end
def CapR (w:World) (ks:List Prd) (ao:Option Addr):Prop:=ks = []∨∃ g off,ao = some ⟨g,off,none⟩∧g < w.heap.size∧CapL w ks g off
theorem CapR.below {w w':World} {ks:List Prd} {ao:Option Addr} (h:CapR w ks ao) (hb:RowKit.Below w.heap.size w w'):CapR w' ks ao:=by
 rcases h with h | ⟨g,off,h1,h2,h3⟩
 ·exact .inl h
 ·exact .inr ⟨g,off,h1,Nat.lt_of_lt_of_le h2 hb.size,CapL.below hb ks g off h2 h3⟩
theorem CapL.at {w:World}:∀ (ks:List Prd) (g off i:Nat) (p:Prd),ks[i]? = some p→CapL w ks g off→∃ vs,CapC w p vs∧Reads w g (off + i * 5) vs
 | [],_,_,_,_,h,_=>by simp at h
 | q :: ps,g,off,0,p,h,hk=>by
  obtain rfl:q = p:=by simpa using h
  unfold CapL at hk
  obtain ⟨⟨vs,h1,h2⟩,-⟩:=hk
  exact ⟨vs,h1,by simpa using h2⟩
 | q :: ps,g,off,i + 1,p,h,hk=>by
  unfold CapL at hk
  have:=CapL.at ps g (off + 5) i p (by simpa using h) hk.2
  rwa [show off + (i + 1) * 5 = off + 5 + i * 5 by omega]
theorem CapR.get {w:World} {ks:List Prd} {ao:Option Addr} (h:CapR w ks ao) {i:Nat} (hi:i < ks.length):∃ q,ks[i]? = some q∧∃ g off,ao = some ⟨g,off,none⟩∧g < w.heap.size∧∃ vs,CapC w q vs∧Reads w g (off + i * 5) vs:=by
 rcases h with h | ⟨g,off,h1,h2,h3⟩
 ·rw [h] at hi; exact absurd hi (Nat.not_lt_zero _)
 ·obtain ⟨vs,hv1,hv2⟩:=CapL.at ks g off i _ (List.getElem?_eq_getElem hi) h3
  exact ⟨ks[i],List.getElem?_eq_getElem hi,g,off,h1,h2,vs,hv1,hv2⟩
theorem CapR.kidR {w:World} {ks:List Prd} {ao:Option Addr} (h:CapR w ks ao):KidR w (fun g=>g < w.heap.size) ks ao:=by
 rcases h with h | ⟨g,off,h1,h2,h3⟩
 ·exact .inl h
 ·exact .inr ⟨g,off,h1,h2,h2,CapL.kids ks g off h3⟩
theorem KidsC.take {w:World} {P:Nat→Prop}:∀ (ks:List Prd) (g off i:Nat),KidsC w P ks g off→KidsC w P (ks.take i) g off
 | ks,g,off,0,_=>by simp only [List.take_zero]; unfold KidsC; trivial
 | [],g,off,i + 1,_=>by simp only [List.take_nil]; unfold KidsC; trivial
 | p :: ps,g,off,i + 1,h=>by
  rw [List.take_succ_cons]
  unfold KidsC at h ⊢
  exact ⟨h.1,KidsC.take ps g (off + 5) i h.2⟩
theorem KidR.takeI {w:World} {P:Nat→Prop} {ks:List Prd} {ao:Option Addr} (h:KidR w P ks ao) (i:Nat):KidR w P (ks.take i) ao:=by
 rcases h with h | ⟨g,off,h1,h2,h3,h4⟩
 ·exact .inl (by rw [h]; simp)
 ·exact .inr ⟨g,off,h1,h2,h3,KidsC.take ks g off i h4⟩
theorem CapC.form {w:World} {p:Prd} {vs:List Value} (h:CapC w p vs):∃ a c,vs = [.int .i64 p.k,.string (strN p.l),.string (strN p.r),.int .i64 p.c,.slice a p.ks.length c]∧p.ks.length≤c∧CapR w p.ks a:=by
 obtain ⟨k,l,r,c,ks⟩:=p
 unfold CapC at h
 obtain ⟨ao,cap,hv,hc,hk⟩:=h
 exact ⟨ao,cap,hv,hc,hk⟩
theorem fndG_ge (k:Ky):∀ (ks:List Prd) (i:Nat),0≤fndG k i ks ↔ k∈ks.map kyOf
 | [],i=>by simp [fndG]
 | q :: qs,i=>by
  rw [fndG]
  by_cases h:(kyOf q == k) = true
  ·rw [if_pos h]
   have:kyOf q = k:=by simpa using h
   simp [this]
  ·rw [if_neg h,fndG_ge k qs (i + 1)]
   have h2:¬ kyOf q = k:=by simpa using h
   simp [List.mem_cons,Ne.symm (show kyOf q ≠ k from h2)]
theorem fnd_ge (ks:List Prd) (k:Ky):decide (0≤fndP ks k) = decide (k∈ks.map kyOf):=by
 rw [decide_eq_decide]
 exact fndG_ge k ks 0
set_option maxHeartbeats 16000000 in
set_option maxRecDepth 100000 in
theorem rplain_any (w:World) (κ:Int) (l r:List Nat) (c:Int) (ks:List Prd) (ao:Option Addr) (n cap:Nat) (hn:n = ks.length) (hbig:n≤1000000) (hc:n≤cap) (hb:∀ q∈ks,NmY q) (hk:CapR w ks ao) :
  Calls Tryz.prog 168 #[.agg #[.int .i64 κ,.string (strN l),.string (strN r),.int .i64 c,.slice ao n cap]] w fun e w'=>e = .returned (.bool (plainP (.mk κ l r c ks)))∧RowKit.Below w.heap.size w w':=by
 have HV:Hid (plainP (.mk κ l r c ks) = (plnG [] ks && κ == 3)):=mkHid rfl
 obtain ⟨V,hV⟩:∃ V,plainP (.mk κ l r c ks) = V:=⟨_,rfl⟩
 rw [hV] at HV ⊢
 obtain ⟨U,hU⟩:∃ U,plnG [] ks = U:=⟨_,rfl⟩
 have S0:Hid (U = plnG ((ks.take 0).map kyOf) (ks.drop 0)):=mkHid (by rw [← hU]; rfl)
 rw [hU] at HV
 have bx:=(RowKit.Below.refl w.heap.size w).alloc (Nat.le_refl _) (.cells #[.int .i64 κ,.string (strN l),.string (strN r),.int .i64 c,.slice ao n cap] 25)
 have B1:=mkHid bx
 have X1:Hid (HasV (w.alloc (.cells #[.int .i64 κ,.string (strN l),.string (strN r),.int .i64 c,.slice ao n cap] 25)) w.heap.size 25 [.int .i64 κ,.string (strN l),.string (strN r),.int .i64 c,.slice ao n cap]):=mkHid (heap_alloc_new w _)
 have HK:=mkHid (fun W (hW:RowKit.Below w.heap.size w W)=>hk.below hW)
 have HN:=mkHid hn
 have HB:=mkHid hb
 have HPS:=mkHid (plnG_step ks)
 have HFI:=mkHid (fun (i:Nat) (hi:i≤n) (q:Prd) (us:List Value) (hq:NmY q) W (hW:RowKit.Below w.heap.size w W) (hp:PredC W (fun g=>g < W.heap.size) q us)=>find_any W _ _ (ks.take i) ao i cap q us (by rw [List.length_take]; omega) (by omega) (fun z hz=>hb z (List.mem_of_mem_take hz)) hq ((hk.below hW).kidR.takeI i) hp)
 clear bx hk hn hb hV hU
 generalize strN l = y at *
 generalize strN r = z at *
 go_enter Tryz.func168,Tryz.ntmps168
 go_upto_region 1 with (fail)
 generalize w.alloc (.cells #[.int .i64 κ,.string y,.string z,.int .i64 c,.slice ao n cap] 25) = w1 at *
 go_wp2_with fail
 go_loopw [3] (fun cc wr=>∃ (i:Nat),cc = .int .i64 i∧i≤n∧Hid (RowKit.Below w.heap.size w wr)∧Hid (HasV wr w.heap.size 25 [.int .i64 κ,.string y,.string z,.int .i64 c,.slice ao n cap])∧Hid (U = plnG ((ks.take i).map kyOf) (ks.drop i))) (fun c _=>(n - intOf c).toNat)
 case atStart=>exact ⟨0,rfl,by omega,B1,X1,S0⟩
 case round =>
  clear S0 B1 X1
  obtain ⟨i,rfl,hi,hw,hx,hu⟩:=hrel
  have e2:IntKind.i64.wrap ((i:Int) + 1) = ((i + 1:Nat):Int):=IntWalk.i64_in _ (by omega)
  have x4:=hx.out.cell 4 _ rfl
  by_cases hlt:i < n
  ·have ii:(i:Int) < n:=by omega
   have ic:(i:Int)≤cap:=by omega
   have i0:(0:Int)≤i:=by omega
   obtain ⟨q,hqi,g,off,hao,hg,us,hcc,hrd⟩:=(HK.out wr hw.out).get (i:=i) (by rw [← HN.out]; exact hlt)
   have HST:=mkHid (HPS.out i q hqi U hu.out)
   have HNQ:=mkHid (HB.out q (List.mem_of_getElem? hqi))
   have HFQ:=mkHid (fun W (hW:RowKit.Below wr.heap.size wr W)=>HFI.out i (by omega) q us HNQ.out W (hw.out.trans (hW.mono hw.out.size)) (CapC.pred q us (CapC.below hW q us hcc)))
   have HGE:=mkHid (fnd_ge (ks.take i) (kyOf q))
   obtain ⟨xa,xc,rfl,-,-⟩:=hcc.form
   have HCT:=mkHid (fun W=>rconst_any q.k q.l q.r q.c (.slice xa q.ks.length xc) rfl W HNQ.out.1 HNQ.out.2)
   have hkq:(⟨q.l,q.r,q.c⟩:Ky) = kyOf q:=rfl
   rw [hkq] at HCT
   have s0:=hrd 0 _ rfl
   have s1:=hrd 1 _ rfl
   have s2:=hrd 2 _ rfl
   have s3:=hrd 3 _ rfl
   have s4:=hrd 4 _ rfl
   rw [Nat.add_zero] at s0
   have HAO:=mkHid hao
   clear hrd hcc hqi hkq hu HNQ
   subst hao
   obtain ⟨mb,hmb⟩:∃ mb,decide (kyOf q∈(ks.take i).map kyOf) = mb:=⟨_,rfl⟩
   rw [hmb] at HST HGE
   generalize fndP (ks.take i) (kyOf q) = fi at *
   generalize conK (kyOf q) = cb at *
   generalize q.ks.length = qn at *
   generalize q.k = q0 at *
   generalize strN q.l = q1 at *
   generalize strN q.r = q2 at *
   generalize q.c = q3 at *
   clear hmb
   by_cases k0:q0 = 0
   ·have k0b:(q0 == 0) = true:=beq_iff_eq.mpr k0
    rw [k0b,Bool.true_and] at HST
    subst k0
    cases cb with
    | true =>
     have HX:Hid (U = false):=mkHid (by rw [HST.out]; rfl)
     go_upto_region 4 with (fail)
     have r1:=regr wr (fun W hW=>HCT.out W)
     have a0':=cell_regrown s0
     have a1':=cell_regrown s1
     have a2':=cell_regrown s2
     have a3':=cell_regrown s3
     have a4':=cell_regrown s4
     have b4':=cell_regrown x4
     clear s0 s1 s2 s3 s4 x4
     refine wp_region_quiet_below (by kernel_rfl) (by kernel_rfl) ?_
     repeat (go_big_quiet_step (with_reducible (exact r1 _ _)))
     refine wpQuiet_nil ?_
     intro _ hw'
     obtain ⟨⟨dq,osq⟩,hw''⟩:=hw'
     subst hw''
     have BB:=below_regrown wr dq osq
     have W2:=mkHid (hw.out.trans (BB.mono hw.out.size))
     clear r1 a0' a1' a2' a3' a4' b4' BB hw hx
     generalize grow (redrawn wr dq) osq = wy at *
     go_wp2
     go_ret
     exact ⟨ret_bool (by rw [HV.out,HX.out]; rfl),W2.out⟩
    | false =>
     have HST2:Hid (U = (!mb && plnG ((ks.take (i + 1)).map kyOf) (ks.drop (i + 1)))):=mkHid (by rw [HST.out]; rfl)
     go_upto_region 4 with (fail)
     have r1:=regr wr (fun W hW=>HCT.out W)
     have r2:=regr wr (fun W hW=>HFQ.out W hW)
     have a0':=cell_regrown s0
     have a1':=cell_regrown s1
     have a2':=cell_regrown s2
     have a3':=cell_regrown s3
     have a4':=cell_regrown s4
     have b4':=cell_regrown x4
     clear s0 s1 s2 s3 s4 x4
     refine wp_region_quiet_below (by kernel_rfl) (by kernel_rfl) ?_
     repeat (go_big_quiet_step (with_reducible (first | exact r1 _ _ | exact r2 _ _)))
     refine wpQuiet_nil ?_
     intro _ hw'
     obtain ⟨⟨dq,osq⟩,hw''⟩:=hw'
     subst hw''
     have BB:=below_regrown wr dq osq
     have W2:=mkHid (hw.out.trans (BB.mono hw.out.size))
     have X2:=mkHid (hx.out.step BB)
     clear r1 r2 a0' a1' a2' a3' a4' b4' BB hw hx
     generalize grow (redrawn wr dq) osq = wy at *
     cases mb with
     | true =>
      have HX:Hid (U = false):=mkHid (by rw [HST2.out]; rfl)
      have f0:(0:Int)≤fi:=of_decide_eq_true HGE.out
      go_wp2
      go_ret
      exact ⟨ret_bool (by rw [HV.out,HX.out]; rfl),W2.out⟩
     | false =>
      have HX:Hid (U = plnG ((ks.take (i + 1)).map kyOf) (ks.drop (i + 1))):=mkHid (by rw [HST2.out]; rfl)
      have f0:¬ ((0:Int)≤fi):=of_decide_eq_false HGE.out
      go_wp2
      go_roundw
      case rel=>exact ⟨i + 1,by go_num,by omega,W2,X2,HX⟩
      case measure=>simp only [intOf]; omega
   ·have k0b:(q0 == 0) = false:=beq_eq_false_iff_ne.mpr k0
    have k0c:(q0 != 0) = true:=by rw [bne,k0b]; rfl
    have HX:Hid (U = false):=mkHid (by rw [HST.out,k0b]; rfl)
    go_upto_region 4 with (fail)
    go_quiet (fail)
    have W2:=mkHid (below_drewN hw.out nq)
    clear hw hx s0 s1 s2 s3 s4 x4
    generalize wr.drewN nq = wd at *
    go_wp2
    go_ret
    exact ⟨ret_bool (by rw [HV.out,HX.out]; rfl),W2.out⟩
  ·have ii:¬ ((i:Int) < n):=by omega
   have HX:Hid (U = true):=mkHid (by rw [hu.out,List.drop_eq_nil_of_le (by rw [← HN.out]; omega),plnG])
   have x0:=hx.out.cell 0 _ rfl
   by_cases k3:κ = 3
   ·subst k3
    go_wp2
    go_ret
    exact ⟨ret_bool (by rw [HV.out,HX.out]; rfl),hw.out⟩
   ·have k3b:(κ == 3) = false:=beq_eq_false_iff_ne.mpr k3
    have HF:Hid (V = false):=mkHid (by rw [HV.out,k3b,Bool.and_false])
    clear k3 HV
    go_wp2
    go_ret
    exact ⟨ret_bool HF.out.symm,hw.out⟩
end Go.Proofs.YtmkdfbelbcocpaaGreatDoor
namespace Go.Proofs.YtmkdfbelbcocpaaGreatDoor
open Go.RowKit Go.Sort Go.Maps
theorem grown_belowX {w w':World} {b:Nat} (h:w.grownBy w' (some b)) (base:World) (hb:base.heap.size≤b) (h0:RowKit.Below base.heap.size base w):RowKit.Below base.heap.size base w' :=
 ⟨h.os.trans h0.os,h.tape.trans h0.tape,h.output.trans h0.output,Nat.le_trans h0.size h.size,fun k hk=>(h.block k (Nat.lt_of_lt_of_le hk h0.size) (fun e=>by have e':k = b:=Option.some.inj e; omega)).trans (h0.block k hk)⟩
set_option maxHeartbeats 8000000 in
set_option maxRecDepth 100000 in
theorem rcho_some (w:World) (κ:Int) (l r:List Nat) (c:Int) (ao:Option Addr) (n cap:Nat) (hκ:κ ≠ 1) (cs:List Chc)
  (hpl:∀ W,RowKit.Below w.heap.size w W→Calls Tryz.prog 168 #[.agg #[.int .i64 κ,.string (strN l),.string (strN r),.int .i64 c,.slice ao n cap]] W fun e w'=>e = .returned (.bool false)∧RowKit.Below W.heap.size W w')
  (hcl:∀ W,RowKit.Below w.heap.size w W→Calls Tryz.prog 169 #[.agg #[.int .i64 κ,.string (strN l),.string (strN r),.int .i64 c,.slice ao n cap]] W (ChoR W cs)) :
  Calls Tryz.prog 98 #[.agg #[.int .i64 κ,.string (strN l),.string (strN r),.int .i64 c,.slice ao n cap]] w (ChoR w cs):=by
 have bx:=(RowKit.Below.refl w.heap.size w).alloc (Nat.le_refl _) (.cells #[.int .i64 κ,.string (strN l),.string (strN r),.int .i64 c,.slice ao n cap] 25)
 have B1:=mkHid bx
 have X1:Hid (HasV (w.alloc (.cells #[.int .i64 κ,.string (strN l),.string (strN r),.int .i64 c,.slice ao n cap] 25)) w.heap.size 25 [.int .i64 κ,.string (strN l),.string (strN r),.int .i64 c,.slice ao n cap]):=mkHid (heap_alloc_new w _)
 have HPL:=mkHid hpl
 have HCL:=mkHid hcl
 have k1b:(κ == 1) = false:=beq_eq_false_iff_ne.mpr hκ
 clear bx hpl hcl hκ
 generalize strN l = y at *
 generalize strN r = z at *
 go_enter Tryz.func98,Tryz.ntmps98
 go_upto_region 1 with (fail)
 generalize w.alloc (.cells #[.int .i64 κ,.string y,.string z,.int .i64 c,.slice ao n cap] 25) = w1 at *
 go_wp2_with (refine wpList_load_row rfl 25 (.tmp 1) rfl w.heap.size ?x1 25 #[.int .i64 κ,.string y,.string z,.int .i64 c,.slice ao n cap] (0,0) _ X1.out Tryz.underlying25 rfl (inf_pred _ rfl) ?_; (case x1=>rfl))
 refine (HPL.out w1 B1.out).mono ?_
 rintro e w2 ⟨rfl,b2⟩
 have B2:=mkHid (B1.out.trans (b2.mono B1.out.size))
 have X2:=mkHid (X1.out.step b2)
 clear b2 B1 X1 HPL
 have x0:=X2.out.cell 0 _ rfl
 go_wp2_with (refine wpList_load_row rfl 25 (.tmp 1) rfl w.heap.size ?x2 25 #[.int .i64 κ,.string y,.string z,.int .i64 c,.slice ao n cap] (0,0) _ X2.out Tryz.underlying25 rfl (inf_pred _ rfl) ?_; (case x2=>rfl))
 refine (HCL.out w2 B2.out).mono ?_
 rintro e w3 h3
 have H3:=mkHid (h3.after B2.out)
 obtain ⟨a3,c3,v3,rfl,-,-⟩:=h3
 clear x0 X2
 go_wp2
 go_ret
 exact H3.out
set_option maxHeartbeats 8000000 in
set_option maxRecDepth 100000 in
theorem rcho_plain (w:World) (P:Nat→Prop) (κ:Int) (l r:List Nat) (c:Int) (ks:List Prd) (ao:Option Addr) (n cap:Nat) (hn:n = ks.length) (hn0:0 < n) (hbig:n≤1000000)
  (hk:KidR w P ks ao) (hks:∀ q∈ks,q.ks = [])
  (hpl:∀ W,RowKit.Below w.heap.size w W→Calls Tryz.prog 168 #[.agg #[.int .i64 κ,.string (strN l),.string (strN r),.int .i64 c,.slice ao n cap]] W fun e w'=>e = .returned (.bool true)∧RowKit.Below W.heap.size W w') :
  Calls Tryz.prog 98 #[.agg #[.int .i64 κ,.string (strN l),.string (strN r),.int .i64 c,.slice ao n cap]] w (ChoR w [⟨c,ks⟩]):=by
 have bx:=(RowKit.Below.refl w.heap.size w).alloc (Nat.le_refl _) (.cells #[.int .i64 κ,.string (strN l),.string (strN r),.int .i64 c,.slice ao n cap] 25)
 have B1:=mkHid bx
 have X1:Hid (HasV (w.alloc (.cells #[.int .i64 κ,.string (strN l),.string (strN r),.int .i64 c,.slice ao n cap] 25)) w.heap.size 25 [.int .i64 κ,.string (strN l),.string (strN r),.int .i64 c,.slice ao n cap]):=mkHid (heap_alloc_new w _)
 have HPL:=mkHid hpl
 have hk':∃ g off,ao = some ⟨g,off,none⟩∧P g∧g < w.heap.size∧KidsC w P ks g off:=by
  rcases hk with h | h
  ·rw [h] at hn; simp at hn; omega
  ·exact h
 obtain ⟨gk,off,hao,hP,hg,hkc⟩:=hk'
 obtain ⟨vss,hv1,hv2,hv3,hv4,hv5⟩:=KidsC.cells ks gk off hkc
 have HV1:=mkHid hv1
 have HV2:=mkHid hv2
 have HV3:=mkHid hv3
 have HV4:Hid (vss.flatten.length = n * 5):=mkHid (by rw [hn]; exact hv4)
 have HV5:=mkHid hv5
 have HGK:=mkHid hg
 have HKS:=mkHid hks
 have HNN:=mkHid hn
 subst hao
 clear bx hpl hkc hv1 hv2 hv3 hv4 hv5 hks hn hk
 generalize strN l = y at *
 generalize strN r = z at *
 go_enter Tryz.func98,Tryz.ntmps98
 go_upto_region 1 with (fail)
 generalize w.alloc (.cells #[.int .i64 κ,.string y,.string z,.int .i64 c,.slice (some ⟨gk,off,none⟩) n cap] 25) = w1 at *
 go_wp2_with (refine wpList_load_row rfl 25 (.tmp 1) rfl w.heap.size ?x1 25 #[.int .i64 κ,.string y,.string z,.int .i64 c,.slice (some ⟨gk,off,none⟩) n cap] (0,0) _ X1.out Tryz.underlying25 rfl (inf_pred _ rfl) ?_; (case x1=>rfl))
 refine (HPL.out w1 B1.out).mono ?_
 rintro e w2 ⟨rfl,b2⟩
 have B2:=mkHid (B1.out.trans (b2.mono B1.out.size))
 have X2:=mkHid (X1.out.step b2)
 clear b2 B1 X1 HPL
 go_upto_region 2 with (fail)
 have c3:=X2.out.cell 3 _ rfl
 have c4:=X2.out.cell 4 _ rfl
 refine wp_region_pick [0,1,3,4] [2,5,6,7,8] (fun w'=>w'.cell? ⟨w.heap.size,3,none⟩ = some (.int .i64 c)∧w'.cell? ⟨w.heap.size,4,none⟩ = some (.slice (some ⟨gk,off,none⟩) n cap)) (by kernel_rfl) (by kernel_rfl) (by kernel_rfl) (fun _ _ d _ _ h=>by cases d <;> exact h) ⟨c3,c4⟩ ?_
 simp only [pickI,List.filterMap_cons,List.filterMap_nil,List.getElem?_cons_zero,List.getElem?_cons_succ,Option.map_some,List.map_cons,List.map_nil]
 apply Exists.intro
 refine ⟨?hh,?ht⟩
 case hh =>
  intro w' hw'
  obtain ⟨c3,c4⟩:=hw'
  repeat still_step
  exact wpStill_nil rfl
 case ht =>
  have BD:RowKit.Below w2.heap.size w2 w2.drew:=(RowKit.Below.refl w2.heap.size w2).drew
  have B3:=mkHid (B2.out.trans (BD.mono B2.out.size))
  have X3:=mkHid (X2.out.step BD)
  clear BD B2 X2 c3 c4
  generalize w2.drew = w3 at *
  have bx:=(RowKit.Below.refl w3.heap.size w3).alloc (Nat.le_refl _) (.cells #[] 25)
  have B4:=mkHid (B3.out.trans (bx.mono B3.out.size))
  have X4:=mkHid (X3.out.step bx)
  have BX:=mkHid bx
  have HO:=mkHid (OwnK.made w3 25 5)
  have HR2:=mkHid (HV3.out.of_block (B4.out.block gk HGK.out))
  have c3:=X4.out.cell 3 _ rfl
  have c4:=X4.out.cell 4 _ rfl
  clear bx
  refine wpTailT_cons ?_
  go_wp2_with fail
  refine postOf_normal ⟨⟨c3,c4⟩,?_⟩
  refine wpTailT_cons ?_
  go_wp2_with (at_builtin; refine app_s 23 25 predZ 5 72 Tryz.underlying23 info_pred rfl (by omega) (by omega) (w3.alloc (.cells #[] 25)) w3.heap.size rfl (.tmp 9) (.tmp 11) rfl (some ⟨w3.heap.size,0,none⟩) 0 0 [] ?q1 HO.out ?q5 gk off n cap vss.flatten ?q2 HV4.out hn0 HR2.out HV5.out ?q4 ?_; (case q1=>rfl); (case q5=>exact BX.out.size); (case q2=>rfl); (case q4=>omega); intro g5 off5 c5 wa o8 gr8 or8; have O8:=mkHid o8; have G8:=mkHid (grown_belowX gr8 w3 (Nat.le_refl _) BX.out); clear o8 gr8 or8 c3 c4)
  have X5:=mkHid (X3.out.step G8.out)
  have c3:=X5.out.cell 3 _ rfl
  have c4:=X5.out.cell 4 _ rfl
  refine postOf_normal ⟨⟨c3,c4⟩,?_⟩
  have B5:=mkHid (B3.out.trans (G8.out.mono B3.out.size))
  have O5:=mkHid (O8.out.lower (B':=w.heap.size) B3.out.size)
  rw [Nat.zero_add,List.nil_append] at O5
  try simp only [Nat.zero_add]
  refine wpTailT_cons ?_
  go_wp2_with fail
  refine postOf_normal ⟨⟨c3,c4⟩,?_⟩
  have HR:Hid (ChoR w [⟨c,ks⟩] (.returned (.slice (some ⟨wa.heap.size,0,none⟩) 1 1)) (wa.alloc (.cells #[.int .i64 c,.slice (some ⟨g5,off5,none⟩) n c5] 47))):=mkHid (by
   have o:=O5.out
   rw [HNN.out] at o ⊢
   exact one_choice B5.out o HV1.out HKS.out HV2.out)
  have hA:RowKit.Below wa.heap.size wa (wa.alloc (.cells #[.int .i64 c,.slice (some ⟨g5,off5,none⟩) n c5] 47)):=(RowKit.Below.refl _ _).alloc (Nat.le_refl _) _
  have X6:=mkHid (X5.out.step hA)
  clear hA X5 O8 O5 B5 c3 c4
  have c3:=X6.out.cell 3 _ rfl
  have c4:=X6.out.cell 4 _ rfl
  refine wpTailT_cons ?_
  go_wp2_with fail
  refine postOf_normal ⟨⟨c3,c4⟩,?_⟩
  refine wpTailT_one ?_
  go_wp2_with fail
  go_wp2
  go_ret
  exact HR.out
set_option maxHeartbeats 8000000 in
set_option maxRecDepth 100000 in
theorem rcho_all (w:World) (l r:List Nat) (c:Int) (ks:List Prd) (ao:Option Addr) (n cap:Nat) (hn:n = ks.length) (hbig:n≤1000000) (hlen:(choL ks).length≤500000000)
  (hk:CapR w ks ao)
  (hpl:∀ W,RowKit.Below w.heap.size w W→Calls Tryz.prog 168 #[.agg #[.int .i64 1,.string (strN l),.string (strN r),.int .i64 c,.slice ao n cap]] W fun e w'=>e = .returned (.bool false)∧RowKit.Below W.heap.size W w')
  (ih:∀ (q:Prd) (W:World) (vs:List Value),q∈ks→w.heap.size≤W.heap.size→CapC W q vs→Calls Tryz.prog 98 #[.agg vs.toArray] W (ChoR W (choP q))) :
  Calls Tryz.prog 98 #[.agg #[.int .i64 1,.string (strN l),.string (strN r),.int .i64 c,.slice ao n cap]] w (ChoR w (choL ks)):=by
 have bx:=(RowKit.Below.refl w.heap.size w).alloc (Nat.le_refl _) (.cells #[.int .i64 1,.string (strN l),.string (strN r),.int .i64 c,.slice ao n cap] 25)
 have B1:=mkHid bx
 have X1:Hid (HasV (w.alloc (.cells #[.int .i64 1,.string (strN l),.string (strN r),.int .i64 c,.slice ao n cap] 25)) w.heap.size 25 [.int .i64 1,.string (strN l),.string (strN r),.int .i64 c,.slice ao n cap]):=mkHid (heap_alloc_new w _)
 have HPL:=mkHid hpl
 have IH:=mkHid ih
 have HK:=mkHid (fun W (hW:RowKit.Below w.heap.size w W)=>hk.below hW)
 have HN:=mkHid hn
 have HLEN:=mkHid hlen
 clear bx hpl ih hk hn hlen
 generalize strN l = y at *
 generalize strN r = z at *
 go_enter Tryz.func98,Tryz.ntmps98
 go_upto_region 1 with (fail)
 generalize w.alloc (.cells #[.int .i64 1,.string y,.string z,.int .i64 c,.slice ao n cap] 25) = w1 at *
 go_wp2_with (refine wpList_load_row rfl 25 (.tmp 1) rfl w.heap.size ?x1 25 #[.int .i64 1,.string y,.string z,.int .i64 c,.slice ao n cap] (0,0) _ X1.out Tryz.underlying25 rfl (inf_pred _ rfl) ?_; (case x1=>rfl))
 refine (HPL.out w1 B1.out).mono ?_
 rintro e w2 ⟨rfl,b2⟩
 have B2:=mkHid (B1.out.trans (b2.mono B1.out.size))
 have X2:=mkHid (X1.out.step b2)
 clear b2 B1 X1 HPL
 have x0:=X2.out.cell 0 _ rfl
 have bx:=(RowKit.Below.refl w2.heap.size w2).alloc (Nat.le_refl _) (.cells #[] 47)
 have B3:=mkHid (B2.out.trans (bx.mono B2.out.size))
 have X3:=mkHid (X2.out.step bx)
 have R0:Hid (RowM ChE 2 w.heap.size (w2.alloc (.cells #[] 47)) (w.heap.size + 1) (fun _=>False) (some ⟨w2.heap.size,0,none⟩) 0 0 (choL (ks.take 0)) []):=mkHid ⟨(OwnK.made w2 _ 2).lower (show w.heap.size + 1≤w2.heap.size from X2.out.lt),rfl,rfl,fun vs h=>absurd h List.not_mem_nil,fun i x vs h=>by simp [choL] at h⟩
 go_upto_region 6 with (fail)
 clear bx x0 X2 B2
 generalize w2.alloc (.cells #[] 47) = w3 at *
 go_wp2_with fail
 go_loopw [4,3] (fun c2 c1 wr=>∃ (i m:Nat) (a3:Option Addr) (cp:Nat) (vss:List (List Value)),c2 = .int .i64 i∧c1 = .slice a3 m cp∧i≤n∧m≤500000000∧m≤cp∧Hid (RowM ChE 2 w.heap.size wr (w.heap.size + 1) (fun _=>False) a3 m cp (choL (ks.take i)) vss)∧Hid (RowKit.Below w.heap.size w wr)∧Hid (HasV wr w.heap.size 25 [.int .i64 1,.string y,.string z,.int .i64 c,.slice ao n cap])) (fun c2 _ _=>(n - intOf c2).toNat)
 case atStart=>exact ⟨0,0,_,0,[],rfl,rfl,by omega,by omega,by omega,R0,B3,X3⟩
 case round =>
  clear R0 B3 X3
  obtain ⟨i,m,a3,cp,vss,rfl,rfl,hi,hm,hmc,hr,hw,hx⟩:=hrel
  have e2:IntKind.i64.wrap ((i:Int) + 1) = ((i + 1:Nat):Int):=IntWalk.i64_in _ (by omega)
  have x4:=hx.out.cell 4 _ rfl
  by_cases hlt:i < n
  ·have ii:(i:Int) < n:=by omega
   obtain ⟨q,hqi,g,off,hao,hg,us,hcc,hrd⟩:=(HK.out wr hw.out).get (i:=i) (by rw [← HN.out]; exact hlt)
   have HQI:=mkHid hqi
   have HIQ:=mkHid (IH.out q wr us (List.mem_of_getElem? hqi) hw.out.size hcc)
   obtain ⟨xa,xc,rfl,-,-⟩:=hcc.form
   have s0:=hrd 0 _ rfl
   have s1:=hrd 1 _ rfl
   have s2:=hrd 2 _ rfl
   have s3:=hrd 3 _ rfl
   have s4:=hrd 4 _ rfl
   clear hrd hcc hqi
   rw [Nat.add_zero] at s0
   have HAO:=mkHid hao
   subst hao
   generalize q.ks.length = qn at *
   generalize q.k = q0 at *
   generalize strN q.l = q1 at *
   generalize strN q.r = q2 at *
   generalize q.c = q3 at *
   go_wp2_with fail
   refine HIQ.out.mono ?_
   rintro e w3 ⟨a4,cp4,v4,rfl,r4,b4⟩
   have HTK:Hid (choL (ks.take (i + 1)) = choL (ks.take i) ++ choP q):=mkHid (by
    rw [List.take_add_one,HQI.out,choL_append]
    show _ ++ choL [q] = _
    rw [show choL [q] = choP q by simp [choL]])
   have HLT:Hid ((choL (ks.take i)).length + (choP q).length≤500000000):=mkHid (by
    have h1:choL ks = choL (ks.take (i + 1)) ++ choL (ks.drop (i + 1)):=by rw [← choL_append,List.take_append_drop]
    have:=HLEN.out
    rw [h1,HTK.out] at this
    simp only [List.length_append] at this
    omega)
   have HM:Hid (m = (choL (ks.take i)).length):=mkHid hr.out.cnt
   have R3:=mkHid (hr.out.step ChE.keeps b4)
   have Q3:=mkHid r4
   have W3:=mkHid (hw.out.trans (b4.mono hw.out.size))
   have X4:=mkHid (hx.out.step b4)
   have HAL:Hid (∀ g,blk a3 = some g→g < wr.heap.size):=mkHid (fun g e=>(hr.out.blk_lt g e).2)
   have HA0:Hid (∀ g,blk a3 = some g→w.heap.size + 1≤g):=mkHid (fun g e=>(hr.out.blk_lt g e).1)
   have HXN:Hid (∀ g,blk a3 = some g→g ≠ w.heap.size):=mkHid (fun g e h=>by have:=(hr.out.blk_lt g e).1; omega)
   have WS:=mkHid hw.out.size
   clear r4 b4 hr hw hx s0 s1 s2 s3 s4 x4 HIQ
   obtain ⟨d,hd⟩:∃ d,(choP q).length = d:=⟨_,rfl⟩
   have HD:=mkHid hd
   have hmd:m + d≤500000000:=by rw [HM.out,← hd]; exact HLT.out
   rw [hd]
   rw [hd] at Q3
   clear hd
   rcases Nat.eq_zero_or_pos d with rfl | hpos
   ·go_wp2_with (at_builtin; refine app_nil w3 rfl (.tmp 28) (.tmp 34) rfl a3 cp m ?r1 hmc a4 cp4 ?r2 ?_; (case r1=>rfl); (case r2=>rfl))
    have HE:Hid (choL (ks.take (i + 1)) = choL (ks.take i)):=mkHid (by rw [HTK.out,List.eq_nil_of_length_eq_zero HD.out,List.append_nil])
    go_roundw
    case rel=>exact ⟨i + 1,m,a3,cp,vss,by go_num,rfl,by omega,hm,hmc,mkHid (by rw [HE.out]; exact R3.out),W3,X4⟩
    case measure=>simp only [intOf]; omega
   ·obtain ⟨g6,off6,rfl,hrd6,hln6⟩:=Q3.out.cells hpos
    have RD6:=mkHid hrd6
    have LN6:=mkHid hln6
    have H16:Hid (∀ u∈v4.flatten,u.oneCell' = true):=mkHid (ChE.ones Q3.out)
    clear hrd6 hln6
    go_wp2_with (at_builtin; refine app_s 41 47 (.agg #[.int .i64 0,.slice none 0 0]) 2 32 Tryz.underlying41 info_chc rfl (by omega) (by omega) w3 (w.heap.size + 1) rfl (.tmp 28) (.tmp 34) rfl a3 cp m vss.flatten ?q1 R3.out.own ?q5 g6 off6 d cp4 v4.flatten ?q2 LN6.out hpos RD6.out H16.out ?q4 ?_; (case q1=>rfl); (case q5=>exact X4.out.lt); (case q2=>rfl); (case q4=>omega); intro g5 off5 c5 wa o8 gr8 or8; have JR:=mkHid (RowM.join (w0:=wr) ChE.keeps R3.out HAL.out WS.out (fun g hg=>hg.elim) Q3.out o8 gr8 or8); have GW:=mkHid gr8; clear o8 gr8 or8)
    have W5:=mkHid (show RowKit.Below w.heap.size w _ from W3.out.trans ⟨GW.out.os,GW.out.tape,GW.out.output,GW.out.size,fun k hk=>GW.out.block k (Nat.lt_of_lt_of_le hk W3.out.size) (fun e=>by have:=HA0.out k e.symm; omega)⟩)
    have HXB:Hid (∀ g,blk a3 = some g→g ≠ w.heap.size):=HXN
    have X5:=mkHid ((GW.out.block w.heap.size X4.out.lt (fun e=>HXB.out _ e.symm rfl)).trans X4.out)
    go_roundw
    case rel=>exact ⟨i + 1,m + d,some ⟨g5,off5,none⟩,c5,vss ++ v4,by go_num,rfl,by omega,hmd,(by have:=JR.out.own.len_le; exact this.1),mkHid (by rw [HTK.out]; exact JR.out),W5,X5⟩
    case measure=>simp only [intOf]; omega
  ·have ii:¬ ((i:Int) < n):=by omega
   have HT:Hid (ks.take i = ks):=mkHid (by rw [show i = ks.length by rw [← HN.out]; omega,List.take_length])
   have HM:Hid (m = (choL ks).length):=mkHid (by have:=hr.out.cnt; rw [HT.out] at this; exact this)
   go_wp2
   go_ret
   refine ⟨a3,cp,vss,(show _ = Ending.returned (.slice a3 m cp) from rfl).trans (by rw [HM.out]),?_,hw.out⟩
   have:=hr.out.lower ChE.keeps (Nat.le_refl _) (Nat.le_succ _)
   rw [HT.out,HM.out] at this
   exact this
theorem rchoices_any:∀ (N:Nat) (p:Prd) (w:World) (vs:List Value),cntP p≤N→N≤1000000→formP p = true→(properP p).length≤8→BytP p→CapC w p vs →
  Calls Tryz.prog 98 #[.agg vs.toArray] w (ChoR w (choP p))
 | 0,p,w,vs,hN,_,_,_,_,_=>by have:=cnt_pos p; omega
 | N + 1,.mk κ l r c ks,w,vs,hN,hM,hf,h8,hb,h=>by
  have hc2:cntL ks≤N:=by unfold cntP at hN; omega
  have hl:=len_le_cntL ks
  have hcc:=h
  have hff:=hf
  rw [formP_eq] at hff
  unfold CapC at h
  obtain ⟨ao,cap,rfl,hcap,hk⟩:=h
  have hkR:CapR w ks ao:=hk
  have hbb:=hb
  unfold BytP at hbb
  have hbk:∀ q∈ks,BytP q:=(BytL_iff ks).1 hbb.2.2
  have hplA:∀ W,RowKit.Below w.heap.size w W→Calls Tryz.prog 168 #[.agg #[.int .i64 κ,.string (strN l),.string (strN r),.int .i64 c,.slice ao ks.length cap]] W fun e w'=>e = .returned (.bool (plainP (.mk κ l r c ks)))∧RowKit.Below W.heap.size W w':=fun W hW=>rplain_any W κ l r c ks ao _ cap rfl (by omega) hcap (fun q hq=>nmY_of (hbk q hq)) (hkR.below hW)
  by_cases hp:plainP (.mk κ l r c ks) = true
  ·rw [choP,if_pos hp]
   rw [hp] at hplA
   have hp2:(plnG [] ks && κ == 3) = true:=hp
   rw [Bool.and_eq_true] at hp2
   have hk3:κ = 3:=by simpa using hp2.2
   subst hk3
   rw [if_neg (by decide)] at hff
   simp only [Bool.and_eq_true] at hff
   have hn0:0 < ks.length:=by
    have h1:=hff.1
    unfold listB at h1
    simp at h1
    omega
   have hfk:∀ q∈ks,formP q = true:=fun q hq=>by
    have:=hff.2.2.2
    rw [Bool.not_eq_true',List.any_eq_false] at this
    simpa using this q hq
   exact rcho_plain w _ 3 l r c ks ao ks.length cap rfl hn0 (by omega) hkR.kidR (fun q hq=>atom_kids (plnG_atoms [] ks hp2.1 q hq) (hfk q hq)) hplA
  ·have hpf:plainP (.mk κ l r c ks) = false:=by simpa using hp
   rw [hpf] at hplA
   by_cases h1:κ = 1
   ·subst h1
    rw [choP,if_neg hp,if_pos rfl]
    rw [if_neg (by decide)] at hff
    simp only [Bool.and_eq_true] at hff
    have hfk:∀ q∈ks,formP q = true:=fun q hq=>by
     have:=hff.2.2.2
     rw [Bool.not_eq_true',List.any_eq_false] at this
     simpa using this q hq
    have h8k:∀ q∈ks,(properP q).length≤8:=fun q hq=>Nat.le_trans (proper_kid hq) h8
    refine rcho_all w l r c ks ao ks.length cap rfl (by omega) ?_ hkR hplA (fun q W us hq _ hqc=>?_)
    ·have:=choL_len ks h8k
     omega
    ·exact rchoices_any N q W us (by
      obtain ⟨i,hi⟩:=List.mem_iff_getElem?.1 hq
      have:=cnt_kid ks i q hi
      omega) (by omega) (hfk q hq) (h8k q hq) (hbk q hq) hqc
   ·rw [choP,if_neg hp,if_neg h1]
    exact rcho_some w κ l r c ao ks.length cap h1 _ hplA (fun W hW=>rclauses_any (.mk κ l r c ks) W _ _ (by omega) hf hb h8 (CapC.pred _ _ (CapC.below hW _ _ hcc)))
set_option maxHeartbeats 8000000 in
set_option maxRecDepth 100000 in
theorem rnormal_any (p:Prd) (w:World) (vs:List Value) (hN:cntP p≤999999) (hb:BytP p) (hlen:LenP p) (h:CapC w p vs) :
  Calls Tryz.prog 38 #[.agg vs.toArray] w (NormR w (normP p)):=by
 obtain ⟨xa,xc,rfl,-,-⟩:=h.form
 have bx:=(RowKit.Below.refl w.heap.size w).alloc (Nat.le_refl _) (.cells #[.int .i64 p.k,.string (strN p.l),.string (strN p.r),.int .i64 p.c,.slice xa p.ks.length xc] 25)
 have B1:=mkHid bx
 have X1:Hid (HasV (w.alloc (.cells #[.int .i64 p.k,.string (strN p.l),.string (strN p.r),.int .i64 p.c,.slice xa p.ks.length xc] 25)) w.heap.size 25 [.int .i64 p.k,.string (strN p.l),.string (strN p.r),.int .i64 p.c,.slice xa p.ks.length xc]):=mkHid (heap_alloc_new w _)
 have HVP:=mkHid (fun W (hW:RowKit.Below w.heap.size w W)=>rvpred_any p W _ _ (by omega) hb hlen (CapC.pred _ _ (CapC.below hW _ _ h)))
 have HCO:=mkHid (fun (hv:validP p = true) W (hW:RowKit.Below w.heap.size w W)=>rcollect_any (cntP p) p W _ _ [] none 0 (Nat.le_refl _) (by simp; omega) (valid_form2 hv) .nil (fun k hk=>by cases hk) (CapC.pred _ _ (CapC.below hW _ _ h)) (.inl rfl))
 have HAT:Hid ((keysP p).foldl addK [] = atomsP p):=mkHid rfl
 rw [HAT.out] at HCO
 have HAL:Hid ((atomsP p).length≤1000000):=mkHid (by
  refine Nat.le_trans (nodup_len_le _ (keysP p) (asc_nodup (atomsP_asc p)) (fun x hx=>(atomsP_mem p x).1 hx)) ?_
  exact Nat.le_trans (keysP_len p) (by omega))
 have HAB:Hid (validP p = true→∀ k∈atomsP p,KyB k):=mkHid (fun hv k hk=>(form_keys p (valid_form2 hv) k ((atomsP_mem p k).1 hk)).bytes)
 have HPP:Hid ((atomsP p).filter (fun k=>!conK k) = properP p):=mkHid rfl
 have HCH:=mkHid (fun (hv:validP p = true) (h8:(properP p).length≤8) W (hW:RowKit.Below w.heap.size w W)=>rchoices_any (cntP p) p W _ (Nat.le_refl _) (by omega) (valid_form2 hv) h8 hb (CapC.below hW _ _ h))
 have HV:Hid (normP p = if validP p = false then .error 1 else if 8 < (properP p).length then .error 6 else if 100 < (choP p).length then .error 6 else .ok (choP p)):=mkHid rfl
 obtain ⟨V,hV⟩:∃ V,normP p = V:=⟨_,rfl⟩
 rw [hV] at HV ⊢
 clear bx h hN hb hlen hV HAT
 generalize validP p = v at *
 generalize p.ks.length = xn at *
 generalize p.k = q0 at *
 generalize strN p.l = q1 at *
 generalize strN p.r = q2 at *
 generalize p.c = q3 at *
 go_enter Tryz.func38,Tryz.ntmps38
 go_upto_region 1 with (fail)
 generalize w.alloc (.cells #[.int .i64 q0,.string q1,.string q2,.int .i64 q3,.slice xa xn xc] 25) = w1 at *
 go_wp2_with (refine wpList_load_row rfl 25 (.tmp 1) rfl w.heap.size ?a1 25 #[.int .i64 q0,.string q1,.string q2,.int .i64 q3,.slice xa xn xc] (0,0) _ X1.out Tryz.underlying25 rfl (inf_pred _ rfl) ?_; (case a1=>rfl))
 refine (HVP.out w1 B1.out).mono ?_
 rintro e w2 ⟨rfl,b2⟩
 have B2:=mkHid (B1.out.trans (b2.mono B1.out.size))
 have X2:=mkHid (X1.out.step b2)
 clear b2 B1 X1 HVP
 cases v with
 | false =>
  have HX:Hid (V = .error 1):=mkHid (by rw [HV.out,if_pos rfl])
  go_wp2
  go_ret2
  exact ⟨B2.out,by rw [HX.out]; rfl⟩
 | true =>
  rw [if_neg (by simp)] at HV
  go_upto_region 3 with (fail)
  go_wp2_with (refine wpList_load_row rfl 25 (.tmp 1) rfl w.heap.size ?a2 25 #[.int .i64 q0,.string q1,.string q2,.int .i64 q3,.slice xa xn xc] (0,0) _ X2.out Tryz.underlying25 rfl (inf_pred _ rfl) ?_; (case a2=>rfl))
  refine (HCO.out (by trivial) w2 B2.out).mono ?_
  rintro e w3 ⟨co,cc,rfl,hk3,b3⟩
  have HPO:=mkHid (rproper_any w3 (atomsP p) co _ cc rfl HAL.out (HAB.out (by trivial)) hk3)
  rw [HPP.out] at HPO
  have B3:=mkHid (B2.out.trans (b3.mono B2.out.size))
  have X3:=mkHid (X2.out.step b3)
  clear b3 hk3 B2 X2 HCO HAL HAB HPP
  generalize (atomsP p).length = an at *
  go_wp2_with fail
  refine HPO.out.mono ?_
  rintro e w4 ⟨ro,rn,rc,rfl,ha4,b4⟩
  have HRN:=mkHid ha4.1
  have B4:=mkHid (B3.out.trans (b4.mono B3.out.size))
  have X4:=mkHid (X3.out.step b4)
  clear b4 ha4 HPO B3 X3
  rw [← HRN.out] at HV HCH
  clear HRN
  by_cases h8:8 < rn
  ·have h8i:(8:Int) < rn:=by omega
   have HX:Hid (V = .error 6):=mkHid (by rw [HV.out,if_pos h8])
   clear h8 HV
   go_wp2
   go_ret2
   exact ⟨B4.out,by rw [HX.out]; rfl⟩
  ·have h8i:¬ ((8:Int) < rn):=by omega
   have HCW:=mkHid (HCH.out (by trivial) (by omega))
   rw [if_neg h8] at HV
   clear h8 HCH
   go_upto_region 5 with (fail)
   go_wp2_with (refine wpList_load_row rfl 25 (.tmp 1) rfl w.heap.size ?a3 25 #[.int .i64 q0,.string q1,.string q2,.int .i64 q3,.slice xa xn xc] (0,0) _ X4.out Tryz.underlying25 rfl (inf_pred _ rfl) ?_; (case a3=>rfl))
   refine (HCW.out w4 B4.out).mono ?_
   rintro e w5 h5
   obtain ⟨a5,c5,v5,rfl,hr5,b5⟩:=h5.after B4.out
   have R5:=mkHid hr5
   have B5:=mkHid b5
   clear hr5 b5 h5 B4 X4 HCW
   obtain ⟨cs,hcs⟩:∃ cs,choP p = cs:=⟨_,rfl⟩
   rw [hcs] at HV R5 ⊢
   clear hcs
   obtain ⟨m,hm⟩:∃ m,cs.length = m:=⟨_,rfl⟩
   have HM:=mkHid hm
   rw [hm] at HV R5 ⊢
   clear hm
   by_cases h1:100 < m
   ·have h1i:(100:Int) < m:=by omega
    have HX:Hid (V = .error 6):=mkHid (by rw [HV.out,if_pos h1])
    clear h1 HV
    go_wp2
    go_ret2
    exact ⟨B5.out,by rw [HX.out]; rfl⟩
   ·have h1i:¬ ((100:Int) < m):=by omega
    have HX:Hid (V = .ok cs):=mkHid (by rw [HV.out,if_neg h1])
    clear h1 HV
    go_wp2
    go_ret2
    exact ⟨B5.out,by rw [HX.out]; exact ⟨a5,c5,v5,by rw [HM.out]; rfl,by rw [HM.out]; exact R5.out⟩⟩
end Go.Proofs.YtmkdfbelbcocpaaGreatDoor
namespace Go.Proofs.YtmkdfbelbcocpaaGreatDoor
open Go.RowKit Go.Sort Go.Maps
def okA (q:Prd):Bool:=decide (q.ks.length = 0) && namP q
def okCh (c:Chc):Bool:=decide (c.atoms.length≤10) && c.atoms.all okA
def fcP (l:List Chc):Bool:=(l.take 13).all okCh && decide (l.length≤12)
set_option maxHeartbeats 16000000 in
set_option maxRecDepth 100000 in
theorem fewch_any (w:World) (l:List Chc) (lo:Option Addr) (n cap:Nat) (hn:n = l.length) (hbig:n≤9223372036854775807) (hlen:∀ c∈l,c.atoms.length≤9223372036854775807∧∀ q∈c.atoms,LenP q∧q.ks.length≤9223372036854775807) (hc:ChsR w l lo) :
  Calls Tryz.prog 36 #[.slice lo n cap] w fun e w'=>e = .returned (.bool (fcP l))∧RowKit.Below w.heap.size w w':=by
 have HC:=mkHid (fun W (hW:RowKit.Below w.heap.size w W)=>hc.below hW)
 have HN:=mkHid hn
 have HL:=mkHid hlen
 have B0:=mkHid (RowKit.Below.refl w.heap.size w)
 obtain ⟨V,hV⟩:∃ V,fcP l = V:=⟨_,rfl⟩
 have S0:Hid (V = (((l.take 13).drop 0).all okCh && decide (l.length≤12))):=mkHid (by rw [← hV]; rfl)
 rw [hV]
 clear hc hn hlen hV
 go_enter Tryz.func36,Tryz.ntmps36
 go_wp2_with fail
 go_loopw [3] (fun cc wr=>∃ (i:Nat),cc = .int .i64 i∧i≤n∧i≤13∧Hid (RowKit.Below w.heap.size w wr)∧Hid (V = (((l.take 13).drop i).all okCh && decide (l.length≤12)))) (fun c _=>(13 - intOf c).toNat)
 case atStart=>exact ⟨0,rfl,by omega,by omega,B0,S0⟩
 case round =>
  clear S0 B0
  obtain ⟨i,rfl,hi,hi13,hw,hv⟩:=hrel
  have e2:IntKind.i64.wrap ((i:Int) + 1) = ((i + 1:Nat):Int):=IntWalk.i64_in _ (by omega)
  by_cases hlt:i < n
  ·have ii:(i:Int) < n:=by omega
   by_cases h13:i < 13
   ·have jj:(i:Int) < 13:=by omega
    obtain ⟨c,hci,g,off,hlo,hg,xo,xc,hrd,hkr⟩:=(HC.out wr hw.out).get (i:=i) (by rw [← HN.out]; exact hlt)
    have HST:=mkHid (hv.out.trans (by rw [all_dropG okCh (l.take 13) i c (by rw [List.getElem?_take,if_pos h13]; exact hci),Bool.and_assoc]))
    have HLC:=mkHid (HL.out c (List.mem_of_getElem? hci))
    have HOC:Hid (okCh c = (decide (c.atoms.length≤10) && c.atoms.all okA)):=mkHid rfl
    have HRD:=mkHid hrd
    have HKR:=mkHid hkr
    have HG:=mkHid hg
    have HLO:=mkHid hlo
    clear hrd hkr hci hg hv
    subst hlo
    obtain ⟨cat,hcat⟩:∃ cat,c.atoms = cat:=⟨_,rfl⟩
    rw [hcat] at HLC HOC HRD HKR
    clear hcat
    generalize okCh c = oc at *
    generalize c.need = nd at *
    obtain ⟨na,hna⟩:∃ na,cat.length = na:=⟨_,rfl⟩
    have HNA:=mkHid hna
    rw [hna] at HLC HOC HRD
    clear hna
    have s1:=HRD.out 1 _ rfl
    by_cases h10:10 < na
    ·have h10i:(10:Int) < na:=by omega
     have HX:Hid (V = false):=mkHid (by rw [HST.out,HOC.out,decide_eq_false (show ¬ na≤10 by omega)]; rfl)
     clear h10
     go_wp2
     go_ret
     exact ⟨ret_bool HX.out.symm,hw.out⟩
    ·have h10i:¬ ((10:Int) < na):=by omega
     have HO2:Hid (oc = (cat.drop 0).all okA):=mkHid (by rw [HOC.out,decide_eq_true (show na≤10 by omega)]; rfl)
     go_wp2_with fail
     clear s1
     generalize wr = wo at *
     have Z0:=mkHid (RowKit.Below.refl wo.heap.size wo)
     go_loopw [4] (fun jv wr=>∃ (j:Nat),jv = .int .i64 j∧j≤na∧Hid (RowKit.Below wo.heap.size wo wr)∧Hid (oc = (cat.drop j).all okA)) (fun j _=>(na - intOf j).toNat)
     case atStart=>exact ⟨0,rfl,by omega,Z0,HO2⟩
     case round =>
      clear Z0 HO2
      obtain ⟨j,rfl,hj,hq,ho⟩:=hrel
      have e3:IntKind.i64.wrap ((j:Int) + 1) = ((j + 1:Nat):Int):=IntWalk.i64_in _ (by omega)
      have s1:wr.cell? ⟨g,off + i * 2 + 1,none⟩ = some (.slice xo na xc):=(HRD.out.of_block (hq.out.block g HG.out)) 1 _ rfl
      by_cases hjl:j < na
      ·have kk:(j:Int) < na:=by omega
       obtain ⟨q,hqi,g2,off2,hxo,hg2,us,hpc,hrd⟩:=(HKR.out.any hq.out).get (i:=j) (by rw [HNA.out]; exact hjl)
       have HS2:=mkHid (ho.out.trans (all_dropG okA cat j q hqi))
       have HLQ:=mkHid (HLC.out.2 q (List.mem_of_getElem? hqi))
       have HNM:=mkHid (names_any (cntP q) q wr _ us (Nat.le_refl _) HLQ.out.1 hpc)
       obtain ⟨xa,xn,xd,rfl,hxn⟩:=hpc.form
       have HKN:Hid (okA q = (decide (xn = 0) && namP q)):=mkHid (by unfold okA; rw [hxn])
       have hxb:xn≤9223372036854775807:=by rw [hxn]; exact HLQ.out.2
       have t0:=hrd 0 _ rfl
       have t1:=hrd 1 _ rfl
       have t2:=hrd 2 _ rfl
       have t3:=hrd 3 _ rfl
       have t4:=hrd 4 _ rfl
       rw [Nat.add_zero] at t0
       have HXO:=mkHid hxo
       clear hrd hpc hqi hxn ho
       subst hxo
       generalize okA q = ok at *
       generalize namP q = nm at *
       generalize q.k = r0 at *
       generalize strN q.l = r1 at *
       generalize strN q.r = r2 at *
       generalize q.c = r3 at *
       by_cases hx0:0 < xn
       ·have hx0i:(0:Int) < xn:=by omega
        have HX:Hid (V = false):=mkHid (by rw [HST.out,HS2.out,HKN.out,decide_eq_false (show ¬ xn = 0 by omega)]; rfl)
        have W2:=mkHid (hw.out.trans (hq.out.mono hw.out.size))
        clear hx0
        go_wp2
        go_ret
        exact ⟨ret_bool HX.out.symm,W2.out⟩
       ·have hxz:xn = 0:=by omega
        have HK2:Hid (ok = nm):=mkHid (by rw [HKN.out,decide_eq_true hxz,Bool.true_and])
        clear hx0
        subst hxz
        go_wp2_with fail
        refine HNM.out.mono ?_
        rintro e w4 ⟨rfl,b4⟩
        have Q4:=mkHid (hq.out.trans (b4.mono hq.out.size))
        have W4:=mkHid (hw.out.trans (Q4.out.mono hw.out.size))
        clear b4 hq HNM t0 t1 t2 t3 t4 s1
        cases nm with
        | false =>
         have HX:Hid (V = false):=mkHid (by rw [HST.out,HS2.out,HK2.out]; rfl)
         go_wp2
         go_ret
         exact ⟨ret_bool HX.out.symm,W4.out⟩
        | true =>
         have HX:Hid (oc = (cat.drop (j + 1)).all okA):=mkHid (by rw [HS2.out,HK2.out,Bool.true_and])
         go_wp2
         go_roundw
         case rel=>exact ⟨j + 1,by go_num,by omega,Q4,HX⟩
         case measure=>simp only [intOf]; omega
      ·have kk:¬ ((j:Int) < na):=by omega
       have HX:Hid (V = (((l.take 13).drop (i + 1)).all okCh && decide (l.length≤12))):=mkHid (by rw [HST.out,ho.out,List.drop_eq_nil_of_le (by rw [HNA.out]; omega)]; rfl)
       have W2:=mkHid (hw.out.trans (hq.out.mono hw.out.size))
       clear hq hw
       go_wp2
       go_roundw
       case rel=>exact ⟨i + 1,by go_num,by omega,by omega,W2,HX⟩
       case measure=>simp only [intOf]; omega
   ·have jj:¬ ((i:Int) < 13):=by omega
    have HX:Hid (V = decide ((n:Int)≤12)):=mkHid (by rw [hv.out,List.drop_eq_nil_of_le (by rw [List.length_take]; omega),← HN.out]; show (true && decide (n≤12)) = _; rw [Bool.true_and,decide_eq_decide]; omega)
    go_wp2
    go_ret
    exact ⟨ret_bool (by rw [HX.out]; try simp),hw.out⟩
  ·have ii:¬ ((i:Int) < n):=by omega
   have HX:Hid (V = decide ((n:Int)≤12)):=mkHid (by rw [hv.out,List.drop_eq_nil_of_le (by rw [List.length_take,← HN.out]; omega),← HN.out]; show (true && decide (n≤12)) = _; rw [Bool.true_and,decide_eq_decide]; omega)
   go_wp2
   go_ret
   exact ⟨ret_bool (by rw [HX.out]; try simp),hw.out⟩
theorem fc_of {l:List Chc} (h:fcP l = true):l.length≤12∧∀ c∈l,c.atoms.length≤10∧∀ q∈c.atoms,q.ks = []∧namP q = true:=by
 unfold fcP at h
 rw [Bool.and_eq_true,decide_eq_true_eq] at h
 obtain ⟨h1,h2⟩:=h
 rw [List.take_of_length_le (by omega),List.all_eq_true] at h1
 refine ⟨h2,fun c hc=>?_⟩
 have h3:=h1 c hc
 unfold okCh at h3
 rw [Bool.and_eq_true,decide_eq_true_eq,List.all_eq_true] at h3
 refine ⟨h3.1,fun q hq=>?_⟩
 have h4:=h3.2 q hq
 unfold okA at h4
 rw [Bool.and_eq_true,decide_eq_true_eq] at h4
 exact ⟨List.eq_nil_of_length_eq_zero h4.1,h4.2⟩
structure ChsIn (l:List Chc):Prop where
 len:∀ c∈l,c.atoms.length≤9223372036854775807∧∀ q∈c.atoms,LenP q∧q.ks.length≤9223372036854775807
 raw:∀ c∈l,∀ q∈c.atoms,RawP q
theorem norm_atoms (p:Prd) (cs:List Chc) (h:normP p = .ok cs):cs.length≤100∧∀ c∈cs,c.atoms.length≤1000000∧∀ q∈c.atoms,q.ks = []∧BytP q:=by
 rcases norm_cases p with ⟨hv,hn⟩ | ⟨hv,h8,hn⟩ | ⟨hv,h8,hn⟩ | ⟨hv,h8,h100,hn⟩
 ·rw [hn] at h; cases h
 ·rw [hn] at h; cases h
 ·rw [hn] at h; cases h
 ·rw [hn] at h
  injection h with h
  subst h
  have hs:=(small_of hv).1
  refine ⟨h100,fun c hc=>?_⟩
  have hg:=cho_good p (valid_form2 hv) c hc
  refine ⟨by rcases hg.2.1 with h | h <;> omega,fun q hq=>⟨(hg.2.2 q hq).1,?_⟩⟩
  have hm:=((properP_mem p _).1 (hg.2.2 q hq).2.2).1
  have hky:=form_keys p (valid_form2 hv) _ hm
  have hvn:=vat_name (form_vat p (valid_form2 hv) _ hm)
  rw [(hg.2.2 q hq).2.1]
  unfold atomK BytP BytL
  exact ⟨⟨hky.lb,hvn.1⟩,⟨hky.rb,hvn.2⟩,trivial⟩
set_option maxHeartbeats 16000000 in
set_option maxRecDepth 100000 in
theorem asknormals_walk (p:Prd) (vs:List Value) (l:List Chc) (lo:Option Addr) (ln lc:Nat) (bl:List Bnd) (w:World) (Pb:Nat→Prop) (bo:Option Addr) (m bc B:Nat) (hG:Good w B) (h:CapC w p vs) (hr:RawP p) (hlen:LenP p)
  (hln:ln = l.length) (hlb:ln≤9223372036854775807) (hch:ChsR w l lo) (hci:ChsIn l)
  (hm:m = bl.length) (hbig:m≤9223372036854775807) (hok:∀ b∈bl,∀ y∈b.n,y < 256) (hk:BndR w Pb bl bo) :
  Calls Tryz.prog 7 #[.agg vs.toArray,.slice lo ln lc,.slice bo m bc] w fun e w'=>e = .returned (.bool true)∧RowKit.Below w.heap.size w w':=by
 obtain ⟨xa,xc,rfl,-,-⟩:=h.form
 have bx:=(RowKit.Below.refl w.heap.size w).alloc (Nat.le_refl _) (.cells #[.int .i64 p.k,.string (strN p.l),.string (strN p.r),.int .i64 p.c,.slice xa p.ks.length xc] 25)
 have B1:=mkHid bx
 have X1:Hid (HasV (w.alloc (.cells #[.int .i64 p.k,.string (strN p.l),.string (strN p.r),.int .i64 p.c,.slice xa p.ks.length xc] 25)) w.heap.size 25 [.int .i64 p.k,.string (strN p.l),.string (strN p.r),.int .i64 p.c,.slice xa p.ks.length xc]):=mkHid (heap_alloc_new w _)
 have HSA:=mkHid (fun W (hW:RowKit.Below w.heap.size w W)=>sane5_any W B (hG.step hW))
 have HSH:=mkHid (fun W (hW:RowKit.Below w.heap.size w W)=>short_any p W _ _ hlen (CapC.pred _ _ (CapC.below hW _ _ h)))
 have HFC:=mkHid (fun W (hW:RowKit.Below w.heap.size w W)=>fewch_any W l lo ln lc hln hlb hci.len (hch.below hW))
 have HFB:=mkHid (fun W (hW:RowKit.Below w.heap.size w W)=>fewb_any W Pb bl bo m bc hm hbig (hk.below hW))
 have HSP:=mkHid (fun (hs:shoP p = true)=>(show cntP p≤110∧BytP p from by
  unfold shoP at hs
  rw [Bool.and_eq_true] at hs
  exact ⟨few_cnt hs.1,byt_of p hr hs.2⟩))
 have HCP:=mkHid (fun (hs:fcP l = true)=>(show ln≤12∧∀ c∈l,c.atoms.length≤1000000∧∀ q∈c.atoms,q.ks = []∧BytP q from by
  have h1:=fc_of hs
  refine ⟨by rw [hln]; exact h1.1,fun c hc=>⟨by have:=(h1.2 c hc).1; omega,fun q hq=>⟨((h1.2 c hc).2 q hq).1,byt_of q (hci.raw c hc q hq) ((h1.2 c hc).2 q hq).2⟩⟩⟩))
 have HBP:=mkHid (fun (hs:fbP bl = true)=>(show m≤10∧BndOk bl from by
  unfold fbP at hs
  rw [Bool.and_eq_true,decide_eq_true_eq,List.all_eq_true] at hs
  exact ⟨by omega,⟨fun b hb=>⟨hok b hb,by have:=of_decide_eq_true (hs.2 b hb); omega⟩⟩⟩))
 have HCC:=mkHid (fun W (hW:RowKit.Below w.heap.size w W)=>CapC.below hW _ _ h)
 have HPC:=mkHid (fun W (hW:RowKit.Below w.heap.size w W)=>CapC.pred _ _ (CapC.below hW _ _ h))
 have HKB:=mkHid (fun W (hW:RowKit.Below w.heap.size w W)=>hk.below hW)
 have HCH:=mkHid (fun W (hW:RowKit.Below w.heap.size w W)=>hch.below hW)
 have HM:=mkHid hm
 have HLN:=mkHid hln
 have HLEN:=mkHid hlen
 have HT:=mkHid (fun W (hW:RowKit.Below w.heap.size w W)=>(hG.step hW).tab)
 clear bx h hr hlen hok hk hG hm hbig hln hlb hch hci
 obtain ⟨s,hs⟩:∃ s,shoP p = s:=⟨_,rfl⟩
 obtain ⟨u,hu⟩:∃ u,fcP l = u:=⟨_,rfl⟩
 obtain ⟨t,ht⟩:∃ t,fbP bl = t:=⟨_,rfl⟩
 rw [hs] at HSH HSP
 rw [hu] at HFC HCP
 rw [ht] at HFB HBP
 clear hs ht hu
 generalize p.ks.length = qn at *
 generalize p.k = q0 at *
 generalize strN p.l = q1 at *
 generalize strN p.r = q2 at *
 generalize p.c = q3 at *
 generalize xa = qa at *
 generalize xc = qc at *
 go_enter Tryz.func7,Tryz.ntmps7
 go_upto_region 1 with (fail)
 generalize w.alloc (.cells #[.int .i64 q0,.string q1,.string q2,.int .i64 q3,.slice qa qn qc] 25) = w1 at *
 go_wp2_with fail
 refine (HSA.out w1 B1.out).mono ?_
 rintro e w2 ⟨rfl,b2⟩
 have B2:=mkHid (B1.out.trans (b2.mono B1.out.size))
 have X2:=mkHid (X1.out.step b2)
 clear b2 HSA B1 X1
 go_upto_region 2 with (fail)
 go_wp2_with (refine wpList_load_row rfl 25 (.tmp 3) rfl w.heap.size ?a1 25 #[.int .i64 q0,.string q1,.string q2,.int .i64 q3,.slice qa qn qc] (0,0) _ X2.out Tryz.underlying25 rfl (inf_pred _ rfl) ?_; (case a1=>rfl))
 refine (HSH.out w2 B2.out).mono ?_
 rintro e w3 ⟨rfl,b3⟩
 have B3:=mkHid (B2.out.trans (b3.mono B2.out.size))
 have X3:=mkHid (X2.out.step b3)
 clear b3 HSH B2 X2
 cases s with
 | false =>
  go_wp2
  go_ret
  exact ⟨rfl,B3.out⟩
 | true =>
  go_wp2_with fail
  refine (HFC.out w3 B3.out).mono ?_
  rintro e w4 ⟨rfl,b4⟩
  have B4:=mkHid (B3.out.trans (b4.mono B3.out.size))
  have X4:=mkHid (X3.out.step b4)
  clear b4 HFC B3 X3
  cases u with
  | false =>
   go_wp2
   go_ret
   exact ⟨rfl,B4.out⟩
  | true =>
   go_wp2_with fail
   refine (HFB.out w4 B4.out).mono ?_
   rintro e w5 ⟨rfl,b5⟩
   have B5:=mkHid (B4.out.trans (b5.mono B4.out.size))
   have X5:=mkHid (X4.out.step b5)
   clear b5 HFB B4 X4
   cases t with
   | false =>
    go_wp2
    go_ret
    exact ⟨rfl,B5.out⟩
   | true =>
    obtain ⟨hc110,hby⟩:=HSP.out (by trivial)
    obtain ⟨hl12,hca⟩:=HCP.out (by trivial)
    obtain ⟨hm10,hbo⟩:=HBP.out (by trivial)
    have HBO:=mkHid hbo
    have HBY:=mkHid hby
    have HCA:=mkHid hca
    have HCN:Hid (cntP p≤110):=mkHid hc110
    clear hby hbo hca hc110 HSP HBP HCP
    have HNR:=mkHid (fun W (hW:RowKit.Below w.heap.size w W)=>normal_any p W _ _ B (by have:=HCN.out; omega) HBY.out (HPC.out W hW) (fun g hg=>hg) (show Tab W B from HT.out W hW))
    have HNQ:=mkHid (fun W (hW:RowKit.Below w.heap.size w W)=>rnormal_any p W _ (by have:=HCN.out; omega) HBY.out HLEN.out (HCC.out W hW))
    have HM1:=mkHid (fun W (hW:RowKit.Below w.heap.size w W)=>meets_any W l lo ln lc B bl bo m bc Pb (show Tab W B from HT.out W hW) HLN.out (by omega) HCA.out (HCH.out W hW) HM.out (by omega) HBO.out (HKB.out W hW))
    have HM2:=mkHid (fun W (hW:RowKit.Below w.heap.size w W)=>rmeets_any W l lo ln lc bl bo m bc Pb HLN.out (by omega) HCA.out (HCH.out W hW) HM.out (by omega) HBO.out (HKB.out W hW))
    have HGD:Hid (∀ cs,normP p = .ok cs→cs.length≤100∧∀ c∈cs,c.atoms.length≤1000000∧∀ q∈c.atoms,q.ks = []∧BytP q):=mkHid (fun cs hcs=>norm_atoms p cs hcs)
    obtain ⟨r,hr⟩:∃ r,normP p = r:=⟨_,rfl⟩
    rw [hr] at HNR HNQ HGD
    obtain ⟨b1,g1,hbg⟩:∃ b1 g1,metP l bl = (b1,g1):=⟨_,_,rfl⟩
    rw [hbg] at HM1 HM2
    clear hr hbg HPC HCC HBY HCN
    go_upto_region 4 with (fail)
    go_wp2_with (refine wpList_load_row rfl 25 (.tmp 3) rfl w.heap.size ?a2 25 #[.int .i64 q0,.string q1,.string q2,.int .i64 q3,.slice qa qn qc] (0,0) _ X5.out Tryz.underlying25 rfl (inf_pred _ rfl) ?_; (case a2=>rfl))
    refine (HNR.out w5 B5.out).mono ?_
    rintro e w6 hnr
    obtain ⟨b6,ao,an,ac,er,rfl,hq1⟩:=hnr.get
    have HQ1:=mkHid hq1
    have B6:=mkHid (B5.out.trans (b6.mono B5.out.size))
    have X6:=mkHid (X5.out.step b6)
    clear b6 hq1 hnr HNR B5 X5
    go_upto_region 5 with (fail)
    go_wp2_with (refine wpList_load_row rfl 25 (.tmp 3) rfl w.heap.size ?a3 25 #[.int .i64 q0,.string q1,.string q2,.int .i64 q3,.slice qa qn qc] (0,0) _ X6.out Tryz.underlying25 rfl (inf_pred _ rfl) ?_; (case a3=>rfl))
    refine (HNQ.out w6 B6.out).mono ?_
    rintro e w7 hnr
    obtain ⟨b7,co,cn,cc,fr,rfl,hq2⟩:=hnr.get
    have B7:=mkHid (B6.out.trans (b7.mono B6.out.size))
    have HSC:Hid (er = fr∧an = cn∧∃ cs:List Chc,cs.length≤100∧an = cs.length∧(∀ c∈cs,c.atoms.length≤1000000∧∀ q∈c.atoms,q.ks = []∧BytP q)∧ChsR w7 cs ao∧ChsR w7 cs co):=mkHid (by
     have h1:=HQ1.out
     cases r with
     | error x=>exact ⟨h1.2.trans hq2.2.symm,h1.1.trans hq2.1.symm,[],Nat.zero_le _,h1.1,(fun c hc=>by cases hc),.inl rfl,.inl rfl⟩
     | ok cs =>
      have hg:=HGD.out cs rfl
      exact ⟨h1.1.trans hq2.1.symm,h1.2.1.trans hq2.2.1.symm,cs,hg.1,h1.2.1,hg.2,h1.2.2.below b7,hq2.2.2⟩)
    clear b7 hq2 hnr HNQ B6 X6 HQ1
    obtain ⟨rfl,rfl,cs,hl1,hl2,hl3,hs1,hs2⟩:=HSC.out
    have HS3:=mkHid hl3
    have HS1:=mkHid hs1
    have HS2:=mkHid hs2
    have HL2:=mkHid hl2
    have HL1:Hid (an≤1000000):=mkHid (by omega)
    clear hl1 hl2 hl3 hs1 hs2 HSC HGD
    go_wp2_with fail
    refine (HM1.out w7 B7.out).mono ?_
    rintro e w8 ⟨rfl,b8⟩
    have C8:=mkHid b8
    have B8:=mkHid (B7.out.trans (b8.mono B7.out.size))
    clear b8 HM1 B7
    go_wp2_with fail
    refine (HM2.out w8 B8.out).mono ?_
    rintro e w9 ⟨rfl,b9⟩
    have C9:=mkHid (C8.out.trans (b9.mono C8.out.size))
    have B9:=mkHid (B8.out.trans (b9.mono B8.out.size))
    clear b9 HM2 B8 C8
    have HSM:=mkHid (schoices_true w9 cs ao co an ac cc HL2.out HL1.out HS3.out (HS1.out.below C9.out) (HS2.out.below C9.out))
    go_wp2_with fail
    refine HSM.out.mono ?_
    rintro e wa ⟨rfl,b10⟩
    have BA:=mkHid (B9.out.trans (b10.mono B9.out.size))
    clear b10
    go_wp2
    go_ret
    exact ⟨rfl,BA.out⟩
end Go.Proofs.YtmkdfbelbcocpaaGreatDoor
