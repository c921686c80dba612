/- Contract of what a deed makes of a place. -/
import Derived.Test.YtpfncjaclgcbnaaDoorF13
set_option linter.unusedVariables false
set_option linter.unusedSimpArgs false
namespace Go.Proofs.YtpfncjaclgcbnaaDoor.Ub
open Go.RowKit Go.Proofs.YtpfncjaclgcbnaaDoorW



set_option maxHeartbeats 1000000 in
set_option maxRecDepth 100000 in
theorem made_n1 (A0 A2 : Option Addr) (c0 c2 : Nat) (st word : List Int) (step aa bb : Int) (w : World) (i0 : Ints w (.slice A0 st.length c0) st) (i2 : Ints w (.slice A2 word.length c2) word) (hs : st.length ≤ 1000) (hw : word.length ≤ 1000) (hp : 0 < word.length) :
    Calls Tryd.prog 41 #[.agg #[.slice A0 st.length c0, .int .i64 step, .slice A2 word.length c2], .agg #[.int .i64 0, .int .i64 aa, .int .i64 bb]] w fun e w' => ∃ v', e = .returned v' ∧ PlW w' w.heap.size v' z0 ∧ Below w.heap.size w w' := by
  have hz : ((word.length : Int) == 0) = false := by simp; intro e; simp [e] at hp
  go_enter Tryd.func41, Tryd.ntmps41
  go_wp2_with fail
  refine (s_l15Place _ ⟨st, step, word⟩ _ (PlI.mk i0.at i2.at) hs hw).mono ?_
  rintro e w1 ⟨v1, rfl, ⟨y0, y2, rfl, hO0, hO2, hap⟩, hb1⟩
  obtain ⟨B0, e0, rfl⟩ := hO0.ints.form
  obtain ⟨B2, e2, rfl⟩ := hO2.ints.form
  have BX : w1.heap[w.heap.size]? = some (.cells #[.slice A0 st.length c0, .int .i64 step, .slice A2 word.length c2] 25 (0, 0)) := (hb1.block _ (by simp <;> omega)).trans ((heap_alloc_old _ _ (by simp <;> omega)).trans ((heap_alloc_old _ _ (by simp)).trans (heap_alloc_new w _)))
  have BD : w1.heap[w.heap.size + 1]? = some (.cells #[.int .i64 0, .int .i64 aa, .int .i64 bb] 30 (0, 0)) := (hb1.block _ (by simp <;> omega)).trans ((heap_alloc_old _ _ (by simp)).trans (by simpa using heap_alloc_new (w.alloc (.cells #[.slice A0 st.length c0, .int .i64 step, .slice A2 word.length c2] 25)) _))
  have BR : w1.heap[w.heap.size + 2]? = some (.cells #[.slice none 0 0, .int .i64 0, .slice none 0 0] 25 (0, 0)) := (hb1.block _ (by simp)).trans (by simpa using heap_alloc_new ((w.alloc (.cells #[.slice A0 st.length c0, .int .i64 step, .slice A2 word.length c2] 25)).alloc (.cells #[.int .i64 0, .int .i64 aa, .int .i64 bb] 30)) _)
  haveI b1 : Bel w w1 := Bel.step (w := w) hb1
  have hz1 : w.heap.size + 2 < w1.heap.size := by have := hb1.size; simp at this; omega
  have ne0 : w.heap.size ≠ w1.heap.size := by omega
  have ne1 : w.heap.size + 1 ≠ w1.heap.size := by omega
  have ne2 : w.heap.size + 2 ≠ w1.heap.size := by omega
  have ne3 : w.heap.size + 1 + 1 ≠ w1.heap.size := by omega
  have x1 := fun o => cell_at (W := w1.alloc o) (block_cell BX 1 rfl)
  have x0 := fun o => cell_at (W := w1.alloc o) (block_cell BX 0 rfl)
  have x2 := fun o => cell_at (W := w1.alloc o) (block_cell BX 2 rfl)
  have d0 := fun o => cell_at (W := w1.alloc o) (block_cell BD 0 rfl)
  have d1 := fun o => cell_at (W := w1.alloc o) (block_cell BD 1 rfl)
  have d2 := fun o => cell_at (W := w1.alloc o) (block_cell BD 2 rfl)
  have r0 := fun o => cell_at (W := w1.alloc o) (block_cell BR 0 rfl)
  have r1 := fun o => cell_at (W := w1.alloc o) (block_cell BR 1 rfl)
  have r2 := fun o => cell_at (W := w1.alloc o) (block_cell BR 2 rfl)
  have g0 := fun o => frozen_at (W := w1.alloc o) (block_cell BR 0 rfl) (block_frozen BR 0)
  have g1 := fun o => frozen_at (W := w1.alloc o) (block_cell BR 1 rfl) (block_frozen BR 1)
  have g2 := fun o => frozen_at (W := w1.alloc o) (block_cell BR 2 rfl) (block_frozen BR 2)
  have HBX := Lib.hid BX; have HBD := Lib.hid BD; have HBR := Lib.hid BR; have HO0 := Lib.hid (hO0.mono (lo' := w.heap.size + 3) (by simp)); have HO2 := Lib.hid (hO2.mono (lo' := w.heap.size + 3) (by simp)); have HAP := Lib.hid hap
  clear hb1 BX BD BR hO0 hO2 hap
  go_upto_region 13 with (fail)
  obtain ⟨W5, hW5⟩ : ∃ W5, W5 = w1.alloc (.cells #[.slice B0 st.length e0, .int .i64 step, .slice B2 word.length e2] 25) := ⟨_, rfl⟩
  rw [← hW5]
  haveI b5 : Bel w1 W5 := by rw [hW5]; exact Bel.alloc
  haveI b05 : Bel w W5 := Bel.step (w := w) b5.out
  have BO : W5.heap[w1.heap.size]? = some (.cells #[.slice B0 st.length e0, .int .i64 step, .slice B2 word.length e2] 25 (0, 0)) := by rw [hW5]; exact heap_alloc_new _ _
  have HP0 := Lib.hid (OwnI.ints (HO0.out.at (w1 := W5)))
  have HP2 := Lib.hid (OwnI.ints (HO2.out.at (w1 := W5)))
  clear x0 x1 x2 d0 d1 d2 r0 r1 r2 g0 g1 g2 hW5 ne0 ne1 ne2 ne3
  have RR := block_at (W := W5) HBR.out
  have HBW := Lib.hid b05.out
  have H0 := OwnI.nil W5 w.heap.size
  have H2 := OwnI.nil W5 w.heap.size
  clear BO
  have r0 := block_cell RR 0 rfl
  have r1 := block_cell RR 1 rfl
  have r2 := block_cell RR 2 rfl
  have f0 := block_frozen RR 0
  have f1 := block_frozen RR 1
  have f2 := block_frozen RR 2
  have HU0 := Lib.hid (OwnI.set3 (OwnI.mono (lo' := w.heap.size) H0 (by first | exact Nat.le_refl _ | omega)) RR (by decide) (.slice none 0 0) (.int .i64 0) (.slice none 0 0))
  have HU2 := Lib.hid (OwnI.set3 (OwnI.mono (lo' := w.heap.size) H2 (by first | exact Nat.le_refl _ | omega)) RR (by decide) (.slice none 0 0) (.int .i64 0) (.slice none 0 0))
  have HB := Lib.hid (below_set3 HBW.out (g := w.heap.size + 2) (by omega) (.slice none 0 0) (.int .i64 0) (.slice none 0 0))
  clear RR hz1 H0 H2
  go_wp2
  exact bodyPost_ret (v := .agg #[(.slice none 0 0), (.int .i64 0), (.slice none 0 0)]) (by simp [results, Tryd.results41, go_sem, r0, r1, r2]) rfl ⟨_, rfl, ⟨_, _, rfl, HU0.out, HU2.out⟩, HB.out⟩

set_option maxHeartbeats 1000000 in
set_option maxRecDepth 100000 in
theorem made_n2 (A0 A2 : Option Addr) (c0 c2 : Nat) (st word : List Int) (step aa bb : Int) (w : World) (i0 : Ints w (.slice A0 st.length c0) st) (i2 : Ints w (.slice A2 word.length c2) word) (hs : st.length ≤ 1000) (hw : word.length ≤ 1000) (hp : 0 < word.length) :
    Calls Tryd.prog 41 #[.agg #[.slice A0 st.length c0, .int .i64 step, .slice A2 word.length c2], .agg #[.int .i64 1, .int .i64 aa, .int .i64 0]] w fun e w' => ∃ v', e = .returned v' ∧ PlW w' w.heap.size v' z0 ∧ Below w.heap.size w w' := by
  have hz : ((word.length : Int) == 0) = false := by simp; intro e; simp [e] at hp
  go_enter Tryd.func41, Tryd.ntmps41
  go_wp2_with fail
  refine (s_l15Place _ ⟨st, step, word⟩ _ (PlI.mk i0.at i2.at) hs hw).mono ?_
  rintro e w1 ⟨v1, rfl, ⟨y0, y2, rfl, hO0, hO2, hap⟩, hb1⟩
  obtain ⟨B0, e0, rfl⟩ := hO0.ints.form
  obtain ⟨B2, e2, rfl⟩ := hO2.ints.form
  have BX : w1.heap[w.heap.size]? = some (.cells #[.slice A0 st.length c0, .int .i64 step, .slice A2 word.length c2] 25 (0, 0)) := (hb1.block _ (by simp <;> omega)).trans ((heap_alloc_old _ _ (by simp <;> omega)).trans ((heap_alloc_old _ _ (by simp)).trans (heap_alloc_new w _)))
  have BD : w1.heap[w.heap.size + 1]? = some (.cells #[.int .i64 1, .int .i64 aa, .int .i64 0] 30 (0, 0)) := (hb1.block _ (by simp <;> omega)).trans ((heap_alloc_old _ _ (by simp)).trans (by simpa using heap_alloc_new (w.alloc (.cells #[.slice A0 st.length c0, .int .i64 step, .slice A2 word.length c2] 25)) _))
  have BR : w1.heap[w.heap.size + 2]? = some (.cells #[.slice none 0 0, .int .i64 0, .slice none 0 0] 25 (0, 0)) := (hb1.block _ (by simp)).trans (by simpa using heap_alloc_new ((w.alloc (.cells #[.slice A0 st.length c0, .int .i64 step, .slice A2 word.length c2] 25)).alloc (.cells #[.int .i64 1, .int .i64 aa, .int .i64 0] 30)) _)
  haveI b1 : Bel w w1 := Bel.step (w := w) hb1
  have hz1 : w.heap.size + 2 < w1.heap.size := by have := hb1.size; simp at this; omega
  have ne0 : w.heap.size ≠ w1.heap.size := by omega
  have ne1 : w.heap.size + 1 ≠ w1.heap.size := by omega
  have ne2 : w.heap.size + 2 ≠ w1.heap.size := by omega
  have ne3 : w.heap.size + 1 + 1 ≠ w1.heap.size := by omega
  have x1 := fun o => cell_at (W := w1.alloc o) (block_cell BX 1 rfl)
  have x0 := fun o => cell_at (W := w1.alloc o) (block_cell BX 0 rfl)
  have x2 := fun o => cell_at (W := w1.alloc o) (block_cell BX 2 rfl)
  have d0 := fun o => cell_at (W := w1.alloc o) (block_cell BD 0 rfl)
  have d1 := fun o => cell_at (W := w1.alloc o) (block_cell BD 1 rfl)
  have d2 := fun o => cell_at (W := w1.alloc o) (block_cell BD 2 rfl)
  have r0 := fun o => cell_at (W := w1.alloc o) (block_cell BR 0 rfl)
  have r1 := fun o => cell_at (W := w1.alloc o) (block_cell BR 1 rfl)
  have r2 := fun o => cell_at (W := w1.alloc o) (block_cell BR 2 rfl)
  have g0 := fun o => frozen_at (W := w1.alloc o) (block_cell BR 0 rfl) (block_frozen BR 0)
  have g1 := fun o => frozen_at (W := w1.alloc o) (block_cell BR 1 rfl) (block_frozen BR 1)
  have g2 := fun o => frozen_at (W := w1.alloc o) (block_cell BR 2 rfl) (block_frozen BR 2)
  have HBX := Lib.hid BX; have HBD := Lib.hid BD; have HBR := Lib.hid BR; have HO0 := Lib.hid (hO0.mono (lo' := w.heap.size + 3) (by simp)); have HO2 := Lib.hid (hO2.mono (lo' := w.heap.size + 3) (by simp)); have HAP := Lib.hid hap
  clear hb1 BX BD BR hO0 hO2 hap
  go_upto_region 13 with (fail)
  obtain ⟨W5, hW5⟩ : ∃ W5, W5 = w1.alloc (.cells #[.slice B0 st.length e0, .int .i64 step, .slice B2 word.length e2] 25) := ⟨_, rfl⟩
  rw [← hW5]
  haveI b5 : Bel w1 W5 := by rw [hW5]; exact Bel.alloc
  haveI b05 : Bel w W5 := Bel.step (w := w) b5.out
  have BO : W5.heap[w1.heap.size]? = some (.cells #[.slice B0 st.length e0, .int .i64 step, .slice B2 word.length e2] 25 (0, 0)) := by rw [hW5]; exact heap_alloc_new _ _
  have HP0 := Lib.hid (OwnI.ints (HO0.out.at (w1 := W5)))
  have HP2 := Lib.hid (OwnI.ints (HO2.out.at (w1 := W5)))
  clear x0 x1 x2 d0 d1 d2 r0 r1 r2 g0 g1 g2 hW5 ne0 ne1 ne2 ne3
  have RR := block_at (W := W5) HBR.out
  have HBW := Lib.hid b05.out
  have H0 := OwnI.nil W5 w.heap.size
  have H2 := OwnI.nil W5 w.heap.size
  clear BO
  have r0 := block_cell RR 0 rfl
  have r1 := block_cell RR 1 rfl
  have r2 := block_cell RR 2 rfl
  have f0 := block_frozen RR 0
  have f1 := block_frozen RR 1
  have f2 := block_frozen RR 2
  have HU0 := Lib.hid (OwnI.set3 (OwnI.mono (lo' := w.heap.size) H0 (by first | exact Nat.le_refl _ | omega)) RR (by decide) (.slice none 0 0) (.int .i64 0) (.slice none 0 0))
  have HU2 := Lib.hid (OwnI.set3 (OwnI.mono (lo' := w.heap.size) H2 (by first | exact Nat.le_refl _ | omega)) RR (by decide) (.slice none 0 0) (.int .i64 0) (.slice none 0 0))
  have HB := Lib.hid (below_set3 HBW.out (g := w.heap.size + 2) (by omega) (.slice none 0 0) (.int .i64 0) (.slice none 0 0))
  clear RR hz1 H0 H2
  go_wp2
  exact bodyPost_ret (v := .agg #[(.slice none 0 0), (.int .i64 0), (.slice none 0 0)]) (by simp [results, Tryd.results41, go_sem, r0, r1, r2]) rfl ⟨_, rfl, ⟨_, _, rfl, HU0.out, HU2.out⟩, HB.out⟩

set_option maxHeartbeats 1000000 in
set_option maxRecDepth 100000 in
theorem made_n3 (A0 A2 : Option Addr) (c0 c2 : Nat) (st word : List Int) (step aa bb : Int) (w : World) (i0 : Ints w (.slice A0 st.length c0) st) (i2 : Ints w (.slice A2 word.length c2) word) (hs : st.length ≤ 1000) (hw : word.length ≤ 1000) (hp : bb ≠ 0) :
    Calls Tryd.prog 41 #[.agg #[.slice A0 st.length c0, .int .i64 step, .slice A2 word.length c2], .agg #[.int .i64 1, .int .i64 aa, .int .i64 bb]] w fun e w' => ∃ v', e = .returned v' ∧ PlW w' w.heap.size v' z0 ∧ Below w.heap.size w w' := by
  have hz : (bb == 0) = false := by simp [hp]
  go_enter Tryd.func41, Tryd.ntmps41
  go_wp2_with fail
  refine (s_l15Place _ ⟨st, step, word⟩ _ (PlI.mk i0.at i2.at) hs hw).mono ?_
  rintro e w1 ⟨v1, rfl, ⟨y0, y2, rfl, hO0, hO2, hap⟩, hb1⟩
  obtain ⟨B0, e0, rfl⟩ := hO0.ints.form
  obtain ⟨B2, e2, rfl⟩ := hO2.ints.form
  have BX : w1.heap[w.heap.size]? = some (.cells #[.slice A0 st.length c0, .int .i64 step, .slice A2 word.length c2] 25 (0, 0)) := (hb1.block _ (by simp <;> omega)).trans ((heap_alloc_old _ _ (by simp <;> omega)).trans ((heap_alloc_old _ _ (by simp)).trans (heap_alloc_new w _)))
  have BD : w1.heap[w.heap.size + 1]? = some (.cells #[.int .i64 1, .int .i64 aa, .int .i64 bb] 30 (0, 0)) := (hb1.block _ (by simp <;> omega)).trans ((heap_alloc_old _ _ (by simp)).trans (by simpa using heap_alloc_new (w.alloc (.cells #[.slice A0 st.length c0, .int .i64 step, .slice A2 word.length c2] 25)) _))
  have BR : w1.heap[w.heap.size + 2]? = some (.cells #[.slice none 0 0, .int .i64 0, .slice none 0 0] 25 (0, 0)) := (hb1.block _ (by simp)).trans (by simpa using heap_alloc_new ((w.alloc (.cells #[.slice A0 st.length c0, .int .i64 step, .slice A2 word.length c2] 25)).alloc (.cells #[.int .i64 1, .int .i64 aa, .int .i64 bb] 30)) _)
  haveI b1 : Bel w w1 := Bel.step (w := w) hb1
  have hz1 : w.heap.size + 2 < w1.heap.size := by have := hb1.size; simp at this; omega
  have ne0 : w.heap.size ≠ w1.heap.size := by omega
  have ne1 : w.heap.size + 1 ≠ w1.heap.size := by omega
  have ne2 : w.heap.size + 2 ≠ w1.heap.size := by omega
  have ne3 : w.heap.size + 1 + 1 ≠ w1.heap.size := by omega
  have x1 := fun o => cell_at (W := w1.alloc o) (block_cell BX 1 rfl)
  have x0 := fun o => cell_at (W := w1.alloc o) (block_cell BX 0 rfl)
  have x2 := fun o => cell_at (W := w1.alloc o) (block_cell BX 2 rfl)
  have d0 := fun o => cell_at (W := w1.alloc o) (block_cell BD 0 rfl)
  have d1 := fun o => cell_at (W := w1.alloc o) (block_cell BD 1 rfl)
  have d2 := fun o => cell_at (W := w1.alloc o) (block_cell BD 2 rfl)
  have r0 := fun o => cell_at (W := w1.alloc o) (block_cell BR 0 rfl)
  have r1 := fun o => cell_at (W := w1.alloc o) (block_cell BR 1 rfl)
  have r2 := fun o => cell_at (W := w1.alloc o) (block_cell BR 2 rfl)
  have g0 := fun o => frozen_at (W := w1.alloc o) (block_cell BR 0 rfl) (block_frozen BR 0)
  have g1 := fun o => frozen_at (W := w1.alloc o) (block_cell BR 1 rfl) (block_frozen BR 1)
  have g2 := fun o => frozen_at (W := w1.alloc o) (block_cell BR 2 rfl) (block_frozen BR 2)
  have HBX := Lib.hid BX; have HBD := Lib.hid BD; have HBR := Lib.hid BR; have HO0 := Lib.hid (hO0.mono (lo' := w.heap.size + 3) (by simp)); have HO2 := Lib.hid (hO2.mono (lo' := w.heap.size + 3) (by simp)); have HAP := Lib.hid hap
  clear hb1 BX BD BR hO0 hO2 hap
  go_upto_region 13 with (fail)
  obtain ⟨W5, hW5⟩ : ∃ W5, W5 = w1.alloc (.cells #[.slice B0 st.length e0, .int .i64 step, .slice B2 word.length e2] 25) := ⟨_, rfl⟩
  rw [← hW5]
  haveI b5 : Bel w1 W5 := by rw [hW5]; exact Bel.alloc
  haveI b05 : Bel w W5 := Bel.step (w := w) b5.out
  have BO : W5.heap[w1.heap.size]? = some (.cells #[.slice B0 st.length e0, .int .i64 step, .slice B2 word.length e2] 25 (0, 0)) := by rw [hW5]; exact heap_alloc_new _ _
  have HP0 := Lib.hid (OwnI.ints (HO0.out.at (w1 := W5)))
  have HP2 := Lib.hid (OwnI.ints (HO2.out.at (w1 := W5)))
  clear x0 x1 x2 d0 d1 d2 r0 r1 r2 g0 g1 g2 hW5 ne0 ne1 ne2 ne3
  have RR := block_at (W := W5) HBR.out
  have HBW := Lib.hid b05.out
  have H0 := OwnI.nil W5 w.heap.size
  have H2 := OwnI.nil W5 w.heap.size
  clear BO
  have r0 := block_cell RR 0 rfl
  have r1 := block_cell RR 1 rfl
  have r2 := block_cell RR 2 rfl
  have f0 := block_frozen RR 0
  have f1 := block_frozen RR 1
  have f2 := block_frozen RR 2
  have HU0 := Lib.hid (OwnI.set3 (OwnI.mono (lo' := w.heap.size) H0 (by first | exact Nat.le_refl _ | omega)) RR (by decide) (.slice none 0 0) (.int .i64 0) (.slice none 0 0))
  have HU2 := Lib.hid (OwnI.set3 (OwnI.mono (lo' := w.heap.size) H2 (by first | exact Nat.le_refl _ | omega)) RR (by decide) (.slice none 0 0) (.int .i64 0) (.slice none 0 0))
  have HB := Lib.hid (below_set3 HBW.out (g := w.heap.size + 2) (by omega) (.slice none 0 0) (.int .i64 0) (.slice none 0 0))
  clear RR hz1 H0 H2
  go_wp2
  exact bodyPost_ret (v := .agg #[(.slice none 0 0), (.int .i64 0), (.slice none 0 0)]) (by simp [results, Tryd.results41, go_sem, r0, r1, r2]) rfl ⟨_, rfl, ⟨_, _, rfl, HU0.out, HU2.out⟩, HB.out⟩

set_option maxHeartbeats 1000000 in
set_option maxRecDepth 100000 in
theorem made_n4 (A0 A2 : Option Addr) (c0 c2 : Nat) (st word : List Int) (step aa bb : Int) (w : World) (i0 : Ints w (.slice A0 st.length c0) st) (i2 : Ints w (.slice A2 word.length c2) word) (hs : st.length ≤ 1000) (hw : word.length ≤ 1000) (hp : bb ≠ 0) :
    Calls Tryd.prog 41 #[.agg #[.slice A0 st.length c0, .int .i64 step, .slice A2 word.length c2], .agg #[.int .i64 2, .int .i64 aa, .int .i64 bb]] w fun e w' => ∃ v', e = .returned v' ∧ PlW w' w.heap.size v' z0 ∧ Below w.heap.size w w' := by
  have hz : (bb == 0) = false := by simp [hp]
  go_enter Tryd.func41, Tryd.ntmps41
  go_wp2_with fail
  refine (s_l15Place _ ⟨st, step, word⟩ _ (PlI.mk i0.at i2.at) hs hw).mono ?_
  rintro e w1 ⟨v1, rfl, ⟨y0, y2, rfl, hO0, hO2, hap⟩, hb1⟩
  obtain ⟨B0, e0, rfl⟩ := hO0.ints.form
  obtain ⟨B2, e2, rfl⟩ := hO2.ints.form
  have BX : w1.heap[w.heap.size]? = some (.cells #[.slice A0 st.length c0, .int .i64 step, .slice A2 word.length c2] 25 (0, 0)) := (hb1.block _ (by simp <;> omega)).trans ((heap_alloc_old _ _ (by simp <;> omega)).trans ((heap_alloc_old _ _ (by simp)).trans (heap_alloc_new w _)))
  have BD : w1.heap[w.heap.size + 1]? = some (.cells #[.int .i64 2, .int .i64 aa, .int .i64 bb] 30 (0, 0)) := (hb1.block _ (by simp <;> omega)).trans ((heap_alloc_old _ _ (by simp)).trans (by simpa using heap_alloc_new (w.alloc (.cells #[.slice A0 st.length c0, .int .i64 step, .slice A2 word.length c2] 25)) _))
  have BR : w1.heap[w.heap.size + 2]? = some (.cells #[.slice none 0 0, .int .i64 0, .slice none 0 0] 25 (0, 0)) := (hb1.block _ (by simp)).trans (by simpa using heap_alloc_new ((w.alloc (.cells #[.slice A0 st.length c0, .int .i64 step, .slice A2 word.length c2] 25)).alloc (.cells #[.int .i64 2, .int .i64 aa, .int .i64 bb] 30)) _)
  haveI b1 : Bel w w1 := Bel.step (w := w) hb1
  have hz1 : w.heap.size + 2 < w1.heap.size := by have := hb1.size; simp at this; omega
  have ne0 : w.heap.size ≠ w1.heap.size := by omega
  have ne1 : w.heap.size + 1 ≠ w1.heap.size := by omega
  have ne2 : w.heap.size + 2 ≠ w1.heap.size := by omega
  have ne3 : w.heap.size + 1 + 1 ≠ w1.heap.size := by omega
  have x1 := fun o => cell_at (W := w1.alloc o) (block_cell BX 1 rfl)
  have x0 := fun o => cell_at (W := w1.alloc o) (block_cell BX 0 rfl)
  have x2 := fun o => cell_at (W := w1.alloc o) (block_cell BX 2 rfl)
  have d0 := fun o => cell_at (W := w1.alloc o) (block_cell BD 0 rfl)
  have d1 := fun o => cell_at (W := w1.alloc o) (block_cell BD 1 rfl)
  have d2 := fun o => cell_at (W := w1.alloc o) (block_cell BD 2 rfl)
  have r0 := fun o => cell_at (W := w1.alloc o) (block_cell BR 0 rfl)
  have r1 := fun o => cell_at (W := w1.alloc o) (block_cell BR 1 rfl)
  have r2 := fun o => cell_at (W := w1.alloc o) (block_cell BR 2 rfl)
  have g0 := fun o => frozen_at (W := w1.alloc o) (block_cell BR 0 rfl) (block_frozen BR 0)
  have g1 := fun o => frozen_at (W := w1.alloc o) (block_cell BR 1 rfl) (block_frozen BR 1)
  have g2 := fun o => frozen_at (W := w1.alloc o) (block_cell BR 2 rfl) (block_frozen BR 2)
  have HBX := Lib.hid BX; have HBD := Lib.hid BD; have HBR := Lib.hid BR; have HO0 := Lib.hid (hO0.mono (lo' := w.heap.size + 3) (by simp)); have HO2 := Lib.hid (hO2.mono (lo' := w.heap.size + 3) (by simp)); have HAP := Lib.hid hap
  clear hb1 BX BD BR hO0 hO2 hap
  go_upto_region 13 with (fail)
  obtain ⟨W5, hW5⟩ : ∃ W5, W5 = w1.alloc (.cells #[.slice B0 st.length e0, .int .i64 step, .slice B2 word.length e2] 25) := ⟨_, rfl⟩
  rw [← hW5]
  haveI b5 : Bel w1 W5 := by rw [hW5]; exact Bel.alloc
  haveI b05 : Bel w W5 := Bel.step (w := w) b5.out
  have BO : W5.heap[w1.heap.size]? = some (.cells #[.slice B0 st.length e0, .int .i64 step, .slice B2 word.length e2] 25 (0, 0)) := by rw [hW5]; exact heap_alloc_new _ _
  have HP0 := Lib.hid (OwnI.ints (HO0.out.at (w1 := W5)))
  have HP2 := Lib.hid (OwnI.ints (HO2.out.at (w1 := W5)))
  clear x0 x1 x2 d0 d1 d2 r0 r1 r2 g0 g1 g2 hW5 ne0 ne1 ne2 ne3
  have RR := block_at (W := W5) HBR.out
  have HBW := Lib.hid b05.out
  have H0 := OwnI.nil W5 w.heap.size
  have H2 := OwnI.nil W5 w.heap.size
  clear BO
  have r0 := block_cell RR 0 rfl
  have r1 := block_cell RR 1 rfl
  have r2 := block_cell RR 2 rfl
  have f0 := block_frozen RR 0
  have f1 := block_frozen RR 1
  have f2 := block_frozen RR 2
  have HU0 := Lib.hid (OwnI.set3 (OwnI.mono (lo' := w.heap.size) H0 (by first | exact Nat.le_refl _ | omega)) RR (by decide) (.slice none 0 0) (.int .i64 0) (.slice none 0 0))
  have HU2 := Lib.hid (OwnI.set3 (OwnI.mono (lo' := w.heap.size) H2 (by first | exact Nat.le_refl _ | omega)) RR (by decide) (.slice none 0 0) (.int .i64 0) (.slice none 0 0))
  have HB := Lib.hid (below_set3 HBW.out (g := w.heap.size + 2) (by omega) (.slice none 0 0) (.int .i64 0) (.slice none 0 0))
  clear RR hz1 H0 H2
  go_wp2
  exact bodyPost_ret (v := .agg #[(.slice none 0 0), (.int .i64 0), (.slice none 0 0)]) (by simp [results, Tryd.results41, go_sem, r0, r1, r2]) rfl ⟨_, rfl, ⟨_, _, rfl, HU0.out, HU2.out⟩, HB.out⟩

set_option maxHeartbeats 1000000 in
set_option maxRecDepth 100000 in
theorem made_n5 (A0 A2 : Option Addr) (c0 c2 : Nat) (st word : List Int) (step aa bb : Int) (w : World) (i0 : Ints w (.slice A0 st.length c0) st) (i2 : Ints w (.slice A2 word.length c2) word) (hs : st.length ≤ 1000) (hw : word.length ≤ 1000) (hp : aa ≠ 0) :
    Calls Tryd.prog 41 #[.agg #[.slice A0 st.length c0, .int .i64 step, .slice A2 word.length c2], .agg #[.int .i64 3, .int .i64 aa, .int .i64 bb]] w fun e w' => ∃ v', e = .returned v' ∧ PlW w' w.heap.size v' z0 ∧ Below w.heap.size w w' := by
  have hz : (aa == 0) = false := by simp [hp]
  go_enter Tryd.func41, Tryd.ntmps41
  go_wp2_with fail
  refine (s_l15Place _ ⟨st, step, word⟩ _ (PlI.mk i0.at i2.at) hs hw).mono ?_
  rintro e w1 ⟨v1, rfl, ⟨y0, y2, rfl, hO0, hO2, hap⟩, hb1⟩
  obtain ⟨B0, e0, rfl⟩ := hO0.ints.form
  obtain ⟨B2, e2, rfl⟩ := hO2.ints.form
  have BX : w1.heap[w.heap.size]? = some (.cells #[.slice A0 st.length c0, .int .i64 step, .slice A2 word.length c2] 25 (0, 0)) := (hb1.block _ (by simp <;> omega)).trans ((heap_alloc_old _ _ (by simp <;> omega)).trans ((heap_alloc_old _ _ (by simp)).trans (heap_alloc_new w _)))
  have BD : w1.heap[w.heap.size + 1]? = some (.cells #[.int .i64 3, .int .i64 aa, .int .i64 bb] 30 (0, 0)) := (hb1.block _ (by simp <;> omega)).trans ((heap_alloc_old _ _ (by simp)).trans (by simpa using heap_alloc_new (w.alloc (.cells #[.slice A0 st.length c0, .int .i64 step, .slice A2 word.length c2] 25)) _))
  have BR : w1.heap[w.heap.size + 2]? = some (.cells #[.slice none 0 0, .int .i64 0, .slice none 0 0] 25 (0, 0)) := (hb1.block _ (by simp)).trans (by simpa using heap_alloc_new ((w.alloc (.cells #[.slice A0 st.length c0, .int .i64 step, .slice A2 word.length c2] 25)).alloc (.cells #[.int .i64 3, .int .i64 aa, .int .i64 bb] 30)) _)
  haveI b1 : Bel w w1 := Bel.step (w := w) hb1
  have hz1 : w.heap.size + 2 < w1.heap.size := by have := hb1.size; simp at this; omega
  have ne0 : w.heap.size ≠ w1.heap.size := by omega
  have ne1 : w.heap.size + 1 ≠ w1.heap.size := by omega
  have ne2 : w.heap.size + 2 ≠ w1.heap.size := by omega
  have ne3 : w.heap.size + 1 + 1 ≠ w1.heap.size := by omega
  have x1 := fun o => cell_at (W := w1.alloc o) (block_cell BX 1 rfl)
  have x0 := fun o => cell_at (W := w1.alloc o) (block_cell BX 0 rfl)
  have x2 := fun o => cell_at (W := w1.alloc o) (block_cell BX 2 rfl)
  have d0 := fun o => cell_at (W := w1.alloc o) (block_cell BD 0 rfl)
  have d1 := fun o => cell_at (W := w1.alloc o) (block_cell BD 1 rfl)
  have d2 := fun o => cell_at (W := w1.alloc o) (block_cell BD 2 rfl)
  have r0 := fun o => cell_at (W := w1.alloc o) (block_cell BR 0 rfl)
  have r1 := fun o => cell_at (W := w1.alloc o) (block_cell BR 1 rfl)
  have r2 := fun o => cell_at (W := w1.alloc o) (block_cell BR 2 rfl)
  have g0 := fun o => frozen_at (W := w1.alloc o) (block_cell BR 0 rfl) (block_frozen BR 0)
  have g1 := fun o => frozen_at (W := w1.alloc o) (block_cell BR 1 rfl) (block_frozen BR 1)
  have g2 := fun o => frozen_at (W := w1.alloc o) (block_cell BR 2 rfl) (block_frozen BR 2)
  have HBX := Lib.hid BX; have HBD := Lib.hid BD; have HBR := Lib.hid BR; have HO0 := Lib.hid (hO0.mono (lo' := w.heap.size + 3) (by simp)); have HO2 := Lib.hid (hO2.mono (lo' := w.heap.size + 3) (by simp)); have HAP := Lib.hid hap
  clear hb1 BX BD BR hO0 hO2 hap
  go_upto_region 13 with (fail)
  obtain ⟨W5, hW5⟩ : ∃ W5, W5 = w1.alloc (.cells #[.slice B0 st.length e0, .int .i64 step, .slice B2 word.length e2] 25) := ⟨_, rfl⟩
  rw [← hW5]
  haveI b5 : Bel w1 W5 := by rw [hW5]; exact Bel.alloc
  haveI b05 : Bel w W5 := Bel.step (w := w) b5.out
  have BO : W5.heap[w1.heap.size]? = some (.cells #[.slice B0 st.length e0, .int .i64 step, .slice B2 word.length e2] 25 (0, 0)) := by rw [hW5]; exact heap_alloc_new _ _
  have HP0 := Lib.hid (OwnI.ints (HO0.out.at (w1 := W5)))
  have HP2 := Lib.hid (OwnI.ints (HO2.out.at (w1 := W5)))
  clear x0 x1 x2 d0 d1 d2 r0 r1 r2 g0 g1 g2 hW5 ne0 ne1 ne2 ne3
  have RR := block_at (W := W5) HBR.out
  have HBW := Lib.hid b05.out
  have H0 := OwnI.nil W5 w.heap.size
  have H2 := OwnI.nil W5 w.heap.size
  clear BO
  have r0 := block_cell RR 0 rfl
  have r1 := block_cell RR 1 rfl
  have r2 := block_cell RR 2 rfl
  have f0 := block_frozen RR 0
  have f1 := block_frozen RR 1
  have f2 := block_frozen RR 2
  have HU0 := Lib.hid (OwnI.set3 (OwnI.mono (lo' := w.heap.size) H0 (by first | exact Nat.le_refl _ | omega)) RR (by decide) (.slice none 0 0) (.int .i64 0) (.slice none 0 0))
  have HU2 := Lib.hid (OwnI.set3 (OwnI.mono (lo' := w.heap.size) H2 (by first | exact Nat.le_refl _ | omega)) RR (by decide) (.slice none 0 0) (.int .i64 0) (.slice none 0 0))
  have HB := Lib.hid (below_set3 HBW.out (g := w.heap.size + 2) (by omega) (.slice none 0 0) (.int .i64 0) (.slice none 0 0))
  clear RR hz1 H0 H2
  go_wp2
  exact bodyPost_ret (v := .agg #[(.slice none 0 0), (.int .i64 0), (.slice none 0 0)]) (by simp [results, Tryd.results41, go_sem, r0, r1, r2]) rfl ⟨_, rfl, ⟨_, _, rfl, HU0.out, HU2.out⟩, HB.out⟩

set_option maxHeartbeats 1000000 in
set_option maxRecDepth 100000 in
theorem made_n6 (A0 A2 : Option Addr) (c0 c2 : Nat) (st word : List Int) (step aa bb : Int) (w : World) (i0 : Ints w (.slice A0 st.length c0) st) (i2 : Ints w (.slice A2 word.length c2) word) (hs : st.length ≤ 1000) (hw : word.length ≤ 1000) (hp : bb ≠ 0) :
    Calls Tryd.prog 41 #[.agg #[.slice A0 st.length c0, .int .i64 step, .slice A2 word.length c2], .agg #[.int .i64 3, .int .i64 aa, .int .i64 bb]] w fun e w' => ∃ v', e = .returned v' ∧ PlW w' w.heap.size v' z0 ∧ Below w.heap.size w w' := by
  have hz : (bb == 0) = false := by simp [hp]
  go_enter Tryd.func41, Tryd.ntmps41
  go_wp2_with fail
  refine (s_l15Place _ ⟨st, step, word⟩ _ (PlI.mk i0.at i2.at) hs hw).mono ?_
  rintro e w1 ⟨v1, rfl, ⟨y0, y2, rfl, hO0, hO2, hap⟩, hb1⟩
  obtain ⟨B0, e0, rfl⟩ := hO0.ints.form
  obtain ⟨B2, e2, rfl⟩ := hO2.ints.form
  have BX : w1.heap[w.heap.size]? = some (.cells #[.slice A0 st.length c0, .int .i64 step, .slice A2 word.length c2] 25 (0, 0)) := (hb1.block _ (by simp <;> omega)).trans ((heap_alloc_old _ _ (by simp <;> omega)).trans ((heap_alloc_old _ _ (by simp)).trans (heap_alloc_new w _)))
  have BD : w1.heap[w.heap.size + 1]? = some (.cells #[.int .i64 3, .int .i64 aa, .int .i64 bb] 30 (0, 0)) := (hb1.block _ (by simp <;> omega)).trans ((heap_alloc_old _ _ (by simp)).trans (by simpa using heap_alloc_new (w.alloc (.cells #[.slice A0 st.length c0, .int .i64 step, .slice A2 word.length c2] 25)) _))
  have BR : w1.heap[w.heap.size + 2]? = some (.cells #[.slice none 0 0, .int .i64 0, .slice none 0 0] 25 (0, 0)) := (hb1.block _ (by simp)).trans (by simpa using heap_alloc_new ((w.alloc (.cells #[.slice A0 st.length c0, .int .i64 step, .slice A2 word.length c2] 25)).alloc (.cells #[.int .i64 3, .int .i64 aa, .int .i64 bb] 30)) _)
  haveI b1 : Bel w w1 := Bel.step (w := w) hb1
  have hz1 : w.heap.size + 2 < w1.heap.size := by have := hb1.size; simp at this; omega
  have ne0 : w.heap.size ≠ w1.heap.size := by omega
  have ne1 : w.heap.size + 1 ≠ w1.heap.size := by omega
  have ne2 : w.heap.size + 2 ≠ w1.heap.size := by omega
  have ne3 : w.heap.size + 1 + 1 ≠ w1.heap.size := by omega
  have x1 := fun o => cell_at (W := w1.alloc o) (block_cell BX 1 rfl)
  have x0 := fun o => cell_at (W := w1.alloc o) (block_cell BX 0 rfl)
  have x2 := fun o => cell_at (W := w1.alloc o) (block_cell BX 2 rfl)
  have d0 := fun o => cell_at (W := w1.alloc o) (block_cell BD 0 rfl)
  have d1 := fun o => cell_at (W := w1.alloc o) (block_cell BD 1 rfl)
  have d2 := fun o => cell_at (W := w1.alloc o) (block_cell BD 2 rfl)
  have r0 := fun o => cell_at (W := w1.alloc o) (block_cell BR 0 rfl)
  have r1 := fun o => cell_at (W := w1.alloc o) (block_cell BR 1 rfl)
  have r2 := fun o => cell_at (W := w1.alloc o) (block_cell BR 2 rfl)
  have g0 := fun o => frozen_at (W := w1.alloc o) (block_cell BR 0 rfl) (block_frozen BR 0)
  have g1 := fun o => frozen_at (W := w1.alloc o) (block_cell BR 1 rfl) (block_frozen BR 1)
  have g2 := fun o => frozen_at (W := w1.alloc o) (block_cell BR 2 rfl) (block_frozen BR 2)
  have HBX := Lib.hid BX; have HBD := Lib.hid BD; have HBR := Lib.hid BR; have HO0 := Lib.hid (hO0.mono (lo' := w.heap.size + 3) (by simp)); have HO2 := Lib.hid (hO2.mono (lo' := w.heap.size + 3) (by simp)); have HAP := Lib.hid hap
  clear hb1 BX BD BR hO0 hO2 hap
  go_upto_region 13 with (fail)
  obtain ⟨W5, hW5⟩ : ∃ W5, W5 = w1.alloc (.cells #[.slice B0 st.length e0, .int .i64 step, .slice B2 word.length e2] 25) := ⟨_, rfl⟩
  rw [← hW5]
  haveI b5 : Bel w1 W5 := by rw [hW5]; exact Bel.alloc
  haveI b05 : Bel w W5 := Bel.step (w := w) b5.out
  have BO : W5.heap[w1.heap.size]? = some (.cells #[.slice B0 st.length e0, .int .i64 step, .slice B2 word.length e2] 25 (0, 0)) := by rw [hW5]; exact heap_alloc_new _ _
  have HP0 := Lib.hid (OwnI.ints (HO0.out.at (w1 := W5)))
  have HP2 := Lib.hid (OwnI.ints (HO2.out.at (w1 := W5)))
  clear x0 x1 x2 d0 d1 d2 r0 r1 r2 g0 g1 g2 hW5 ne0 ne1 ne2 ne3
  have RR := block_at (W := W5) HBR.out
  have HBW := Lib.hid b05.out
  have H0 := OwnI.nil W5 w.heap.size
  have H2 := OwnI.nil W5 w.heap.size
  clear BO
  have r0 := block_cell RR 0 rfl
  have r1 := block_cell RR 1 rfl
  have r2 := block_cell RR 2 rfl
  have f0 := block_frozen RR 0
  have f1 := block_frozen RR 1
  have f2 := block_frozen RR 2
  have HU0 := Lib.hid (OwnI.set3 (OwnI.mono (lo' := w.heap.size) H0 (by first | exact Nat.le_refl _ | omega)) RR (by decide) (.slice none 0 0) (.int .i64 0) (.slice none 0 0))
  have HU2 := Lib.hid (OwnI.set3 (OwnI.mono (lo' := w.heap.size) H2 (by first | exact Nat.le_refl _ | omega)) RR (by decide) (.slice none 0 0) (.int .i64 0) (.slice none 0 0))
  have HB := Lib.hid (below_set3 HBW.out (g := w.heap.size + 2) (by omega) (.slice none 0 0) (.int .i64 0) (.slice none 0 0))
  clear RR hz1 H0 H2
  go_wp2
  exact bodyPost_ret (v := .agg #[(.slice none 0 0), (.int .i64 0), (.slice none 0 0)]) (by simp [results, Tryd.results41, go_sem, r0, r1, r2]) rfl ⟨_, rfl, ⟨_, _, rfl, HU0.out, HU2.out⟩, HB.out⟩

set_option maxHeartbeats 1000000 in
set_option maxRecDepth 100000 in
theorem made_n7 (A0 A2 : Option Addr) (c0 c2 : Nat) (st word : List Int) (step aa bb : Int) (w : World) (i0 : Ints w (.slice A0 st.length c0) st) (i2 : Ints w (.slice A2 word.length c2) word) (hs : st.length ≤ 1000) (hw : word.length ≤ 1000) (kd : Int) (h0 : kd ≠ 0) (h1 : kd ≠ 1) (h2 : kd ≠ 2) (h3 : kd ≠ 3) :
    Calls Tryd.prog 41 #[.agg #[.slice A0 st.length c0, .int .i64 step, .slice A2 word.length c2], .agg #[.int .i64 kd, .int .i64 aa, .int .i64 bb]] w fun e w' => ∃ v', e = .returned v' ∧ PlW w' w.heap.size v' z0 ∧ Below w.heap.size w w' := by
  have z0 : (kd == 0) = false := by simp [h0]
  have z1 : (kd == 1) = false := by simp [h1]
  have z2 : (kd == 2) = false := by simp [h2]
  have z3 : (kd == 3) = false := by simp [h3]
  go_enter Tryd.func41, Tryd.ntmps41
  go_wp2_with fail
  refine (s_l15Place _ ⟨st, step, word⟩ _ (PlI.mk i0.at i2.at) hs hw).mono ?_
  rintro e w1 ⟨v1, rfl, ⟨y0, y2, rfl, hO0, hO2, hap⟩, hb1⟩
  obtain ⟨B0, e0, rfl⟩ := hO0.ints.form
  obtain ⟨B2, e2, rfl⟩ := hO2.ints.form
  have BX : w1.heap[w.heap.size]? = some (.cells #[.slice A0 st.length c0, .int .i64 step, .slice A2 word.length c2] 25 (0, 0)) := (hb1.block _ (by simp <;> omega)).trans ((heap_alloc_old _ _ (by simp <;> omega)).trans ((heap_alloc_old _ _ (by simp)).trans (heap_alloc_new w _)))
  have BD : w1.heap[w.heap.size + 1]? = some (.cells #[.int .i64 kd, .int .i64 aa, .int .i64 bb] 30 (0, 0)) := (hb1.block _ (by simp <;> omega)).trans ((heap_alloc_old _ _ (by simp)).trans (by simpa using heap_alloc_new (w.alloc (.cells #[.slice A0 st.length c0, .int .i64 step, .slice A2 word.length c2] 25)) _))
  have BR : w1.heap[w.heap.size + 2]? = some (.cells #[.slice none 0 0, .int .i64 0, .slice none 0 0] 25 (0, 0)) := (hb1.block _ (by simp)).trans (by simpa using heap_alloc_new ((w.alloc (.cells #[.slice A0 st.length c0, .int .i64 step, .slice A2 word.length c2] 25)).alloc (.cells #[.int .i64 kd, .int .i64 aa, .int .i64 bb] 30)) _)
  haveI b1 : Bel w w1 := Bel.step (w := w) hb1
  have hz1 : w.heap.size + 2 < w1.heap.size := by have := hb1.size; simp at this; omega
  have ne0 : w.heap.size ≠ w1.heap.size := by omega
  have ne1 : w.heap.size + 1 ≠ w1.heap.size := by omega
  have ne2 : w.heap.size + 2 ≠ w1.heap.size := by omega
  have ne3 : w.heap.size + 1 + 1 ≠ w1.heap.size := by omega
  have x1 := fun o => cell_at (W := w1.alloc o) (block_cell BX 1 rfl)
  have x0 := fun o => cell_at (W := w1.alloc o) (block_cell BX 0 rfl)
  have x2 := fun o => cell_at (W := w1.alloc o) (block_cell BX 2 rfl)
  have d0 := fun o => cell_at (W := w1.alloc o) (block_cell BD 0 rfl)
  have d1 := fun o => cell_at (W := w1.alloc o) (block_cell BD 1 rfl)
  have d2 := fun o => cell_at (W := w1.alloc o) (block_cell BD 2 rfl)
  have r0 := fun o => cell_at (W := w1.alloc o) (block_cell BR 0 rfl)
  have r1 := fun o => cell_at (W := w1.alloc o) (block_cell BR 1 rfl)
  have r2 := fun o => cell_at (W := w1.alloc o) (block_cell BR 2 rfl)
  have g0 := fun o => frozen_at (W := w1.alloc o) (block_cell BR 0 rfl) (block_frozen BR 0)
  have g1 := fun o => frozen_at (W := w1.alloc o) (block_cell BR 1 rfl) (block_frozen BR 1)
  have g2 := fun o => frozen_at (W := w1.alloc o) (block_cell BR 2 rfl) (block_frozen BR 2)
  have HBX := Lib.hid BX; have HBD := Lib.hid BD; have HBR := Lib.hid BR; have HO0 := Lib.hid (hO0.mono (lo' := w.heap.size + 3) (by simp)); have HO2 := Lib.hid (hO2.mono (lo' := w.heap.size + 3) (by simp)); have HAP := Lib.hid hap
  clear hb1 BX BD BR hO0 hO2 hap
  go_upto_region 13 with (fail)
  obtain ⟨W5, hW5⟩ : ∃ W5, W5 = w1.alloc (.cells #[.slice B0 st.length e0, .int .i64 step, .slice B2 word.length e2] 25) := ⟨_, rfl⟩
  rw [← hW5]
  haveI b5 : Bel w1 W5 := by rw [hW5]; exact Bel.alloc
  haveI b05 : Bel w W5 := Bel.step (w := w) b5.out
  have BO : W5.heap[w1.heap.size]? = some (.cells #[.slice B0 st.length e0, .int .i64 step, .slice B2 word.length e2] 25 (0, 0)) := by rw [hW5]; exact heap_alloc_new _ _
  have HP0 := Lib.hid (OwnI.ints (HO0.out.at (w1 := W5)))
  have HP2 := Lib.hid (OwnI.ints (HO2.out.at (w1 := W5)))
  clear x0 x1 x2 d0 d1 d2 r0 r1 r2 g0 g1 g2 hW5 ne0 ne1 ne2 ne3
  have RR := block_at (W := W5) HBR.out
  have HBW := Lib.hid b05.out
  have H0 := OwnI.nil W5 w.heap.size
  have H2 := OwnI.nil W5 w.heap.size
  clear BO
  have r0 := block_cell RR 0 rfl
  have r1 := block_cell RR 1 rfl
  have r2 := block_cell RR 2 rfl
  have f0 := block_frozen RR 0
  have f1 := block_frozen RR 1
  have f2 := block_frozen RR 2
  have HU0 := Lib.hid (OwnI.set3 (OwnI.mono (lo' := w.heap.size) H0 (by first | exact Nat.le_refl _ | omega)) RR (by decide) (.slice none 0 0) (.int .i64 0) (.slice none 0 0))
  have HU2 := Lib.hid (OwnI.set3 (OwnI.mono (lo' := w.heap.size) H2 (by first | exact Nat.le_refl _ | omega)) RR (by decide) (.slice none 0 0) (.int .i64 0) (.slice none 0 0))
  have HB := Lib.hid (below_set3 HBW.out (g := w.heap.size + 2) (by omega) (.slice none 0 0) (.int .i64 0) (.slice none 0 0))
  clear RR hz1 H0 H2
  go_wp2
  exact bodyPost_ret (v := .agg #[(.slice none 0 0), (.int .i64 0), (.slice none 0 0)]) (by simp [results, Tryd.results41, go_sem, r0, r1, r2]) rfl ⟨_, rfl, ⟨_, _, rfl, HU0.out, HU2.out⟩, HB.out⟩

theorem s_l15Made (v : Value) (p : Pl) (a : Dd) (w : World) (h : PlI w v p) (hs : p.st.length ≤ 1000) (hw : p.word.length ≤ 1000) :
    Calls Tryd.prog 41 #[v, ddV a] w fun e w' => ∃ v', e = .returned v' ∧ PlW w' w.heap.size v' (madeOf p a) ∧ Below w.heap.size w w' := by
  obtain ⟨A0, c0, A2, c2, rfl, i0, i2⟩ := h.open
  obtain ⟨st, step, word⟩ := p
  obtain ⟨kd, aa, bb⟩ := a
  unfold ddV
  by_cases h0 : kd = 0
  · subst h0
    by_cases hw0 : word.length = 0
    · obtain rfl : word = [] := List.length_eq_zero_iff.1 hw0
      rw [made_put rfl rfl]
      exact made_0 A0 A2 c0 c2 st step aa bb w i0 i2 hs
    · rw [made_put0 rfl (by show 0 < word.length; omega)]
      exact made_n1 A0 A2 c0 c2 st word step aa bb w i0 i2 hs hw (by omega)
  · by_cases h1 : kd = 1
    · subst h1
      by_cases hb : bb = 0
      · subst hb
        by_cases hw0 : word.length = 0
        · obtain rfl : word = [] := List.length_eq_zero_iff.1 hw0
          rw [made_step rfl rfl rfl]
          exact made_1 A0 A2 c0 c2 st step aa w i0 i2 hs
        · rw [made_step0 rfl (by show 0 < word.length; omega)]
          exact made_n2 A0 A2 c0 c2 st word step aa 0 w i0 i2 hs hw (by omega)
      · rw [made_b (by simp) hb]
        exact made_n3 A0 A2 c0 c2 st word step aa bb w i0 i2 hs hw hb
    · by_cases h2 : kd = 2
      · subst h2
        by_cases hb : bb = 0
        · subst hb
          rw [made_draw rfl rfl]
          exact made_2 A0 A2 c0 c2 st word step aa w i0 i2 hs hw
        · rw [made_b (by simp) hb]
          exact made_n4 A0 A2 c0 c2 st word step aa bb w i0 i2 hs hw hb
      · by_cases h3 : kd = 3
        · subst h3
          by_cases hb : bb = 0
          · subst hb
            by_cases ha : aa = 0
            · subst ha
              rw [made_again rfl rfl rfl]
              exact made_3 A0 A2 c0 c2 st word step w i0 i2 hs hw
            · rw [made_none (by simp) (by simp) (by simp) (fun e => ha e.2)]
              exact made_n5 A0 A2 c0 c2 st word step aa 0 w i0 i2 hs hw ha
          · rw [made_b (by simp) hb]
            exact made_n6 A0 A2 c0 c2 st word step aa bb w i0 i2 hs hw hb
        · rw [made_none h0 h1 h2 (fun e => h3 e.1)]
          exact made_n7 A0 A2 c0 c2 st word step aa bb w i0 i2 hs hw kd h0 h1 h2 h3
end Go.Proofs.YtpfncjaclgcbnaaDoor.Ub
