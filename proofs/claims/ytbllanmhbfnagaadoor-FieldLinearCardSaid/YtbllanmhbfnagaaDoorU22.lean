/- The package's matrix: reduce (walk). -/
import Derived.BigRegion
import Derived.BigQuiet
import Derived.Test.YtbllanmhbfnagaaDoorU21
set_option linter.unusedVariables false
set_option linter.unusedSimpArgs false
namespace Go.Proofs.YtbllanmhbfnagaaDoor
open Go.RowKit Go.Sort
set_option maxHeartbeats 8000000 in
set_option maxRecDepth 100000 in
theorem reduce_any (B A R ro cap C cn : Nat) (q : Int) (hs : List (Nat × Nat × Nat)) (M : List (List Int)) (w : World) (hM : MatW w B A R ro cap C q cn hs M) (hcn : cn ≤ C) (hm : M.length ≤ 64) (hC : C ≤ 65) :
    Calls Tryd.prog 93 #[.pointer (some ⟨A, 0, none⟩)] w fun e w' => ∃ ao cp hs', e = .returned (.slice ao (redF q M cn).2.length cp) ∧ OwnS w' w.heap.size cp (iv (pvI (redF q M cn).2)) ao ∧
      MatW w' B A R ro cap C q cn hs' (redF q M cn).1 ∧ Only w w' (fun g => rowB hs g ∨ g = R) ∧ ∀ g, rowB hs' g → rowB hs g := by
  have HM := mkHid hM
  have F0 := hM.cq
  have F1 := hM.cr
  have F2 := hM.cc
  have AL := mkHid hM.lt
  have RL := mkHid hM.rlt
  have BL := mkHid (fun g (h : rowB hs g) => hM.blt g h)
  clear hM
  go_enter Tryd.func93, Tryd.ntmps93
  go_wp2_with fail
  clear F0 F1 F2
  go_loopw [2, 14] (fun s c wr => ∃ (col n : Nat) (ao : Option Addr) (cp : Nat) (hs' : List (Nat × Nat × Nat)), s = .slice ao n cp ∧ c = .int .i64 col ∧ col ≤ cn ∧ Hid (n = (redF q M col).2.length) ∧ Hid (OwnS wr w.heap.size cp (iv (pvI (redF q M col).2)) ao) ∧
    Hid (MatW wr B A R ro cap C q cn hs' (redF q M col).1) ∧ Hid (Only w wr (fun g => rowB hs g ∨ g = R)) ∧ Hid (∀ g, rowB hs' g → rowB hs g)) (fun _ c _ => (cn - intOf c).toNat)
  case atStart => exact ⟨0, 0, none, 0, hs, rfl, rfl, by omega, mkHid rfl, mkHid (.nil rfl rfl), HM, mkHid (Only.refl w _), mkHid (fun _ h => h)⟩
  case round =>
    obtain ⟨col, n, ao, cp, hs', rfl, rfl, hcol, hn, ho, hw, hon, hsub⟩ := hrel
    have hlen := redF_len q M col
    have hpv := redF_piv q M col
    by_cases hlt : col < cn
    · have hstep : Hid (redF q M (col + 1) = stepF q (redF q M col) col) := mkHid rfl
      obtain ⟨⟨S, pl⟩, hS⟩ : ∃ S, redF q M col = S := ⟨_, rfl⟩
      rw [hS] at hn ho hw hlen hpv hstep
      clear hS
      replace hlen : S.length = M.length := hlen
      replace hn : Hid (n = pl.length) := hn
      replace ho : Hid (OwnS wr w.heap.size cp (iv (pvI pl)) ao) := ho
      replace hw : Hid (MatW wr B A R ro cap C q cn hs' S) := hw
      have hnle : n ≤ M.length := by rw [hn.out]; exact hpv.1
      have HLEN := mkHid hlen
      clear hlen hpv
      have cc : (col : Int) < cn := by omega
      have e1 : IntKind.i64.wrap ((col : Int) + 1) = ((col + 1 : Nat) : Int) := IntWalk.i64_in _ (by omega)
      have g0 := hw.out.cq
      have g1 := hw.out.cr
      rw [HLEN.out] at g1
      go_upto_region 5 with (fail)
      clear g0 g1
      have b5 := (Below.refl wr.heap.size wr).alloc (Nat.le_refl _) (.cells #[.int .i64 (col : Int)] 3)
      have hKK := cells_new wr #[.int .i64 (col : Int)] 3 0
      have hKf := frozen_of_row (wr.alloc (.cells #[.int .i64 (col : Int)] 3)) wr.heap.size 0 _ _ (heap_alloc_new wr _)
      have hKz : wr.heap.size < (wr.alloc (.cells #[.int .i64 (col : Int)] 3)).heap.size := by simp
      have hKs : w.heap.size ≤ wr.heap.size := hon.out.size
      have W5 := mkHid (hw.out.step b5)
      have O5 := mkHid (ho.out.below b5)
      have N5 := mkHid (hon.out.step b5)
      clear hw ho hon b5
      generalize wr.alloc (.cells #[.int .i64 (col : Int)] 3) = w5 at *
      generalize wr.heap.size = K at *
      as_aux_lemma =>
        have kK : w5.cell? ⟨K, 0, none⟩ = some (.int .i64 col) := hKK
        have HKS := mkHid hKs
        have HKZ := mkHid hKz
        clear hKK hKs hKz hKf
        have f0 := W5.out.cq
        have f1 := W5.out.cr
        have f2 := W5.out.cc
        rw [HLEN.out] at f1
        go_wp2_with (refine wpList_slice_from w5 rfl 52 (.tmp 22) (.tmp 23) rfl 42 Tryd.underlying52 ?v1 R ro M.length cap .i64 n n rfl ?v2 ?v3 hnle ?_; (case v1 => kernel_rfl); (case v2 => rfl); (case v3 => rfl); intro off2 ho2)
        have hca := mkHid (W5.out.colAt n col off2 (by omega) (by rw [HLEN.out]; exact hnle) ho2)
        rw [HLEN.out] at hca
        refine (index_any R off2 (M.length - n) (cap - n) K col _ w5 (by omega) kK hca.out).mono ?_
        clear hca ho2
        rintro e w' ⟨rfl, hres⟩
        rcases hres with ⟨p, rfl, hp, hnz, hz⟩ | ⟨rfl, hz⟩
        · obtain ⟨a, ha⟩ : ∃ a, n + p = a := ⟨_, rfl⟩
          rw [ha] at hnz
          have hpk : Hid (pickF S col n = some a) := mkHid (by rw [← ha]; exact pick_some (by rw [HLEN.out]; exact hp) (by rw [ha]; exact hnz) hz)
          have hst2 : Hid (redF q M (col + 1) = (elimF q n col (((S.set n (S.getD a [])).set a (S.getD n [])).set n (normR q (invI q ((S.getD a []).getD col 0)) (S.getD a []))), pl ++ [col])) := mkHid (by
            rw [hstep.out, hn.out]; exact stepF_yes (by rw [← hn.out]; exact hpk.out))
          have hal : a < M.length := by omega
          have hnl : n < M.length := by omega
          have e3 : IntKind.i64.wrap ((n : Int) + (p : Int)) = ((a : Nat) : Int) := by rw [← ha]; exact IntWalk.i64_in _ (by omega)
          have hneg : decide ((p : Int) < 0) = false := decide_eq_false (by omega)
          clear hnz hz hstep hp ha hpk
          obtain ⟨bn, on, c0, hxn, hhn, -, -⟩ := W5.out.row n (by rw [HLEN.out]; exact hnl)
          obtain ⟨ba, oa, c1, hxa, hha, -, -⟩ := W5.out.row a (by rw [HLEN.out]; exact hal)
          have HXN := mkHid hxn
          have HXA := mkHid hxa
          have z1 := W5.out.freeR n (by rw [HLEN.out]; exact hnl)
          have z2 := W5.out.freeR a (by rw [HLEN.out]; exact hal)
          have ai : (a : Int) < M.length := by omega
          have ni : (n : Int) < M.length := by omega
          obtain ⟨v3, hv3⟩ : ∃ v3, (w5.setCell ⟨R, ro + n, none⟩ (.slice (some ⟨ba, oa, none⟩) C c1)).cell? ⟨R, ro + a, none⟩ = some v3 := by
            rw [cell_setCell_at w5 R (ro + n) (ro + a) _ (by rw [hhn]; rfl)]
            split
            · exact ⟨_, rfl⟩
            · exact ⟨_, hha⟩
          clear hxn hxa hal hnl
          go_upto_region 7 with (fail)
          have KK := mkHid kK
          clear kK f0 f2 e1
          go_region
          have N57 : Only w5 (((w5.setCell ⟨R, ro + n, none⟩ (.slice (some ⟨ba, oa, none⟩) C c1)).setCell ⟨R, ro + a, none⟩ (.slice (some ⟨bn, on, none⟩) C c0)).drew) (fun g => g = R) :=
            (((Only.refl w5 (fun g => g = R)).setCell _ rfl).setCell _ rfl).step (below_drew _)
          have W7 := mkHid ((W5.out.swap n a (bn, on, c0) (ba, oa, c1) HXN.out HXA.out).step (below_drew _))
          have K7 := mkHid ((N57.cell 0 HKZ.out (fun e => by have := RL.out; have := HKS.out; omega)).trans KK.out)
          have O7 := mkHid (O5.out.only N57 (fun g e => by rw [e]; exact RL.out))
          have N7 := mkHid (N5.out.trans (N57.mono (fun g _ e => .inr e)))
          have Z7 := mkHid (Nat.lt_of_lt_of_le HKZ.out N57.size)
          have hsub7 : Hid (∀ g, rowB ((hs'.set n (ba, oa, c1)).set a (bn, on, c0)) g → rowB hs g) := mkHid (fun g h => hsub.out g (rowB_swap HXN.out HXA.out g h))
          have hr7 := mkHid (swap_n S (n := n) (a := a) (by rw [HLEN.out]; omega) (by rw [HLEN.out]; omega))
          have hl7 : Hid (((S.set n (S.getD a [])).set a (S.getD n [])).length = M.length) := mkHid (by rw [List.length_set, List.length_set]; exact HLEN.out)
          clear N57 W5 O5 N5 hv3 z1 z2 hhn hha f1 HXN HXA HKZ KK hsub HLEN
          show Exit.then _ _ _ _ (World.drew (World.setCell (World.setCell w5 ⟨R, ro + n, none⟩ (hv C (ba, oa, c1))) ⟨R, ro + a, none⟩ (hv C (bn, on, c0))))
          replace W7 : Hid (MatW (World.drew (World.setCell (World.setCell w5 ⟨R, ro + n, none⟩ (hv C (ba, oa, c1))) ⟨R, ro + a, none⟩ (hv C (bn, on, c0)))) B A R ro cap C q cn ((hs'.set n (ba, oa, c1)).set a (bn, on, c0)) ((S.set n (S.getD a [])).set a (S.getD n []))) := W7
          replace K7 : Hid ((World.drew (World.setCell (World.setCell w5 ⟨R, ro + n, none⟩ (hv C (ba, oa, c1))) ⟨R, ro + a, none⟩ (hv C (bn, on, c0)))).cell? ⟨K, 0, none⟩ = some (.int .i64 col)) := K7
          replace O7 : Hid (OwnS (World.drew (World.setCell (World.setCell w5 ⟨R, ro + n, none⟩ (hv C (ba, oa, c1))) ⟨R, ro + a, none⟩ (hv C (bn, on, c0)))) w.heap.size cp (iv (pvI pl)) ao) := O7
          replace N7 : Hid (Only w (World.drew (World.setCell (World.setCell w5 ⟨R, ro + n, none⟩ (hv C (ba, oa, c1))) ⟨R, ro + a, none⟩ (hv C (bn, on, c0)))) (fun g => rowB hs g ∨ g = R)) := N7
          replace Z7 : Hid (K < (World.drew (World.setCell (World.setCell w5 ⟨R, ro + n, none⟩ (hv C (ba, oa, c1))) ⟨R, ro + a, none⟩ (hv C (bn, on, c0)))).heap.size) := Z7
          generalize World.drew (World.setCell (World.setCell w5 ⟨R, ro + n, none⟩ (hv C (ba, oa, c1))) ⟨R, ro + a, none⟩ (hv C (bn, on, c0))) = w7 at *
          generalize (hs'.set n (ba, oa, c1)).set a (bn, on, c0) = h7 at *
          generalize (S.set n (S.getD a [])).set a (S.getD n []) = S1 at *
          as_aux_lemma =>
            clear e3 hneg ai
            have hnl2 : n < M.length := by omega
            obtain ⟨b, o, c2, hx, hh, -, hwd⟩ := W7.out.row n (by rw [hl7.out]; exact hnl2)
            have HX := mkHid hx
            have HWD := mkHid hwd
            have hcol7 := W7.out.cell hx col (by omega)
            have f0 := W7.out.cq
            have f1 := W7.out.cr
            rw [hl7.out] at f1
            obtain ⟨r, hr⟩ : ∃ r, S1.getD n [] = r := ⟨_, rfl⟩
            rw [hr] at hcol7 HWD
            have HR := mkHid hr
            have hst3 : Hid (redF q M (col + 1) = (elimF q n col (S1.set n (normR q (invI q (r.getD col 0)) r)), pl ++ [col])) := mkHid (by
              have h1 := hst2.out
              rw [← hr7.out, hr] at h1
              exact h1)
            clear hx hwd hr hst2 hr7
            obtain ⟨v, hv⟩ : ∃ v, r.getD col 0 = v := ⟨_, rfl⟩
            rw [hv] at hcol7 hst3
            clear hv
            have ci : (col : Int) < C := by omega
            have kK := K7.out
            have kI0 : ∀ W : World, Calls Tryd.prog 20 #[.int .i64 q, .int .i64 v] W fun e w' => e = .returned (.tuple #[.int .i64 (invI q v), .bool (invB q v)]) ∧ Below W.heap.size W w' := fun W => inv_b q v W
            obtain ⟨x, hx⟩ : ∃ x, invI q v = x := ⟨_, rfl⟩
            obtain ⟨y, hy⟩ : ∃ x, invB q v = x := ⟨_, rfl⟩
            rw [hx] at kI0 hst3
            rw [hy] at kI0
            have KI := mkHid kI0
            clear hx hy kI0
            go_upto_region 8 with (fail)
            have m1 := cell_regrown hcol7
            have m2 := cell_regrown f0
            have m3 := cell_regrown f1
            have m4 := cell_regrown hh
            have m5 := cell_regrown kK
            have kI := regr w7 (fun W _ => KI.out W)
            clear hcol7 f0 f1 hh kK
            refine wp_region_quiet_below (by kernel_rfl) (by kernel_rfl) ?_
            repeat (go_big_quiet_step (with_reducible (first | exact kI _ _)))
            refine wpQuiet_nil ?_
            intro _ hw'
            obtain ⟨⟨dq, osq⟩, hw''⟩ := hw'
            subst hw''
            have hbb := below_regrown w7 dq osq
            clear kI m1 m2 m3 m4 m5
            have W8 := mkHid (W7.out.step hbb)
            have O8 := mkHid (O7.out.below hbb)
            have N8 := mkHid (N7.out.step hbb)
            have K8 := mkHid ((hbb.cell Z7.out).trans K7.out)
            have Z8 := mkHid (Nat.lt_of_lt_of_le Z7.out hbb.size)
            clear W7 O7 N7 K7 Z7 hbb KI
            generalize grow (redrawn w7 dq) osq = w8 at *
            as_aux_lemma =>
              have f0 := W8.out.cq
              have f1 := W8.out.cr
              rw [hl7.out] at f1
              have hh := W8.out.head HX.out
              obtain ⟨N, hN⟩ : ∃ N, normR q x r = N := ⟨_, rfl⟩
              have hNl : Hid (N.length = r.length) := mkHid (by rw [← hN, normR_len])
              have hNe := mkHid hN.symm
              rw [hN] at hst3
              clear hN
              have W9 : Hid (MatW w8 B A R ro cap C q cn h7 (S1.set n (partL r N 0))) := mkHid (by
                rw [partL_zero, set_self S1 (by rw [hl7.out]; exact hnl2) HR.out]; exact W8.out)
              go_wp2_with fail
              clear f0 f1 hh W8
              go_loopw [85] (fun c wq => ∃ j : Nat, c = .int .i64 j ∧ j ≤ C ∧ Hid (MatW wq B A R ro cap C q cn h7 (S1.set n (partL r N j))) ∧ Hid (OwnS wq w.heap.size cp (iv (pvI pl)) ao) ∧ Hid (Only w wq (fun g => rowB hs g ∨ g = R)) ∧
                Hid (wq.cell? ⟨K, 0, none⟩ = some (.int .i64 col)) ∧ Hid (K < wq.heap.size)) (fun c _ => (C - intOf c).toNat)
              case atStart => exact ⟨0, rfl, by omega, W9, O8, N8, K8, Z8⟩
              case round =>
                clear W9 O8 N8 K8 Z8
                obtain ⟨j, rfl, hj, hw, ho, hon, hk, hz⟩ := hrel
                as_aux_lemma =>
                  have hl9 : Hid ((S1.set n (partL r N j)).length = M.length) := mkHid (by rw [List.length_set]; exact hl7.out)
                  by_cases hjl : j < C
                  · have hgi := getD_set S1 n n (partL r N j) [] (by rw [hl7.out]; exact hnl2)
                    rw [if_pos rfl] at hgi
                    have HGI := mkHid hgi
                    have x1 := hw.out.cell HX.out j hjl
                    have h1 := hw.out.head HX.out
                    have q1 := hw.out.cq
                    have r1 := hw.out.cr
                    rw [hl9.out] at r1
                    rw [hgi, partL_ge 0 hNl.out (by rw [HWD.out]; omega) (Nat.le_refl j)] at x1
                    clear hgi
                    have hval : Hid (N.getD j 0 = mulI q (r.getD j 0) x) := mkHid (by rw [hNe.out, normR_at _ _ _ _ (by rw [HWD.out]; exact hjl)])
                    have hset : Hid ((partL r N j).set j (N.getD j 0) = partL r N (j + 1)) := mkHid (partL_set 0 hNl.out (by rw [HWD.out]; exact hjl))
                    obtain ⟨xv, hxv⟩ : ∃ x, r.getD j 0 = x := ⟨_, rfl⟩
                    obtain ⟨nv, hnv⟩ : ∃ x, N.getD j 0 = x := ⟨_, rfl⟩
                    rw [hxv, hnv] at hval
                    rw [hnv] at hset
                    rw [hxv] at x1
                    clear hxv hnv
                    have kM0 : ∀ W : World, Calls Tryd.prog 28 #[.int .i64 q, .int .i64 xv, .int .i64 x] W fun e w' => e = .returned (.int .i64 nv) ∧ Below W.heap.size W w' := fun W => by have h := mul_b q xv x W; rw [← hval.out] at h; exact h
                    have KM := mkHid kM0
                    clear kM0
                    have jj : (j : Int) < C := by omega
                    have e2 : IntKind.i64.wrap ((j : Int) + 1) = ((j + 1 : Nat) : Int) := IntWalk.i64_in _ (by omega)
                    go_upto_region 12 with (fail)
                    have m1 := cell_regrown q1
                    have m2 := cell_regrown r1
                    have m3 := cell_regrown h1
                    have kM := regr wr (fun W _ => KM.out W)
                    clear x1 q1 r1 h1
                    refine wp_region_qtb 15 (by kernel_rfl) (by kernel_rfl) ?_
                    simp only [List.take_succ_cons, List.take_zero, List.drop_succ_cons, List.drop_zero]
                    repeat (go_big_quiet_step (with_reducible (first | exact kM _ _)))
                    refine wpQuiet_nil ?_
                    intro _ hw'
                    obtain ⟨⟨dq, osq⟩, hw''⟩ := hw'
                    subst hw''
                    have hbb := below_regrown wr dq osq
                    have W2 := mkHid (hw.out.step hbb)
                    have O2 := mkHid (ho.out.below hbb)
                    have N2 := mkHid (hon.out.step hbb)
                    have K2 := mkHid ((hbb.cell hz.out).trans hk.out)
                    have Z2 := mkHid (Nat.lt_of_lt_of_le hz.out hbb.size)
                    clear kM m1 m2 m3 hbb KM hw ho hon hk hz
                    generalize grow (redrawn wr dq) osq = wd at *
                    have x1 := W2.out.cell HX.out j hjl
                    have z1 := W2.out.free HX.out j hjl
                    have NS : Hid (Only wd (wd.setCell ⟨b, o + j, none⟩ (.int .i64 nv)) (rowB h7)) := mkHid ((Only.refl wd _).setCell _ ⟨(b, o, c2), List.mem_of_getElem? HX.out, rfl⟩)
                    go_wp2
                    go_roundw
                    case rel => exact ⟨j + 1, rfl, by omega, mkHid (by have := W2.out.setv n j nv (b, o, c2) HX.out hjl; rw [HGI.out, hset.out, List.set_set] at this; exact this),
                      mkHid (O2.out.only NS.out (fun g hg => BL.out g (hsub7.out g hg))), mkHid (N2.out.trans (NS.out.mono (fun g _ hg => .inl (hsub7.out g hg)))),
                      mkHid ((NS.out.cell 0 Z2.out (fun hg => by have := BL.out K (hsub7.out K hg); have := HKS.out; omega)).trans K2.out), mkHid (Nat.lt_of_lt_of_le Z2.out NS.out.size)⟩
                    case measure => simp [intOf]; omega
                  · obtain rfl : j = C := by omega
                    have hpj : partL r N j = N := by rw [← HWD.out]; exact partL_full hNl.out
                    have hfin := mkHid hw.out
                    rw [hpj] at hfin
                    clear hpj
                    go_upto_region 14 with (fail)
                    have f9 := hk.out
                    go_wp2_with fail
                    refine (clear_any B A R ro cap _ n col q cn h7 (S1.set n N) wr hfin.out (by rw [List.length_set, hl7.out]; exact hnl2) (by omega) (by rw [List.length_set, hl7.out]; exact hm) hC).mono ?_
                    rintro e wa ⟨rfl, wm, wo⟩
                    have WA := mkHid wm
                    have OA := mkHid (ho.out.only wo (fun g hg => BL.out g (hsub7.out g hg)))
                    have NA := mkHid (hon.out.trans (wo.mono (fun g _ hg => .inl (hsub7.out g hg))))
                    have ka := (wo.cell 0 hz.out (fun hg => by have := BL.out K (hsub7.out K hg); have := HKS.out; omega)).trans hk.out
                    have SA : Hid (w.heap.size ≤ wa.heap.size) := mkHid NA.out.size
                    clear wm wo f9 hk hz ho hon hw hfin
                    have hnm : Hid (n ≤ 64) := mkHid (by omega)
                    go_wp2_with (at_builtin; refine app_ints wa w.heap.size rfl (.tmp 111) (.tmp 113) rfl ao cp n (pvI pl) ?q1 ?q2 OA.out SA.out 1 1 #[.int .i64 (col : Int)] 3 [(col : Int)] ?q3 rfl rfl (by omega) ?q4 ?_; (case q1 => exact (by rw [pvI_len]; exact hn.out)); (case q2 => rfl); (case q3 => rfl); (case q4 => have := hnm.out; omega); intro g4 off4 c4 wb o8 b8; have OB := mkHid o8; have B8 := mkHid b8; clear o8 b8)
                    go_roundw
                    case rel => exact ⟨col + 1, n + 1, some ⟨g4, off4, none⟩, c4, h7, rfl, rfl, by omega, mkHid (by rw [hst3.out, List.length_append, ← hn.out]; rfl), mkHid (by rw [hst3.out, pvI_app]; exact OB.out.s),
                      mkHid (by rw [hst3.out]; exact WA.out.later AL.out RL.out (fun g hg => BL.out g (hsub7.out g hg)) B8.out), mkHid (NA.out.old B8.out), hsub7⟩
                    case measure => simp only [intOf]; omega
        · have hpk : Hid (pickF S col n = none) := mkHid (pick_none (by rw [HLEN.out]; exact hz))
          have hst2 : Hid (redF q M (col + 1) = (S, pl)) := mkHid (by rw [hstep.out]; exact stepF_no (by rw [← hn.out]; exact hpk.out))
          clear hz hstep hpk
          go_wp2_with fail
          go_roundw
          case rel => exact ⟨col + 1, n, ao, cp, hs', rfl, rfl, by omega, mkHid (by rw [hst2.out]; exact hn.out), mkHid (by rw [hst2.out]; exact O5.out), mkHid (by rw [hst2.out]; exact W5.out), N5, hsub⟩
          case measure => simp only [intOf]; omega
    · obtain rfl : col = cn := by omega
      go_wp2_with fail
      go_ret
      exact ⟨ao, cp, hs', by rw [← hn.out]; rfl, ho.out, hw.out, hon.out, hsub.out⟩
end Go.Proofs.YtbllanmhbfnagaaDoor
