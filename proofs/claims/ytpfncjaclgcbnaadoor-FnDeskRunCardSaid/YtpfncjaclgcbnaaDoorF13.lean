/- Contracts of what a deed makes of a place, and of a row that is cut short. -/
import Derived.Test.YtpfncjaclgcbnaaDoorG1
set_option linter.unusedVariables false
set_option linter.unusedSimpArgs false
namespace Go.Proofs.YtpfncjaclgcbnaaDoor.Ub
open Go.RowKit Go.Proofs.YtpfncjaclgcbnaaDoorW

/-- A deed as a value. -/
def ddV (a : Dd) : Value := .agg #[.int .i64 a.kind, .int .i64 a.a, .int .i64 a.b]

set_option maxHeartbeats 1000000 in
theorem i_Clip (A : Option Addr) (n c : Nat) (w : World) (hn : n ≤ 1000) (hc : n ≤ c) :
    Calls Tryd.prog 36 #[.slice A n c] w fun e w' => e = .returned (.slice A n n) ∧ w = w' := by
  go_enter Tryd.func36, Tryd.ntmps36
  go_wp2
  go_ret
  exact ⟨rfl, rfl⟩

/-- A place whose rows are the call's own, from N on. -/
def PlW (w : World) (N : Nat) (v : Value) (p : Pl) : Prop := ∃ x0 x2, v = .agg #[x0, .int .i64 p.step, x2] ∧ OwnI w N x0 p.st ∧ OwnI w N x2 p.word
theorem PlW.pl {w : World} {N : Nat} {v : Value} {p : Pl} (h : PlW w N v p) : PlI w v p := by
  obtain ⟨x0, x2, e, h0, h2⟩ := h
  exact ⟨x0, x2, e, h0.ints, h2.ints⟩
theorem OwnI.set1 {w : World} {lo : Nat} {v : Value} {xs : List Int} {g : Nat} {cs : Array Value} {ty : TypeId} {fr : Nat × Nat} (h : OwnI w lo v xs) (hb : w.heap[g]? = some (.cells cs ty fr)) (h1 : 3 ≠ ty) (j : Nat) (u : Value) : OwnI (w.setCell ⟨g, j, none⟩ u) lo v xs := own_far h (own_ne h hb h1)
theorem OwnI.set3 {w : World} {lo : Nat} {v : Value} {xs : List Int} {g : Nat} {cs : Array Value} {ty : TypeId} (h : OwnI w lo v xs) (hb : w.heap[g]? = some (.cells cs ty (0, 0))) (h1 : 3 ≠ ty) (u0 u1 u2 : Value) :
    OwnI (((w.setCell ⟨g, 0, none⟩ u0).setCell ⟨g, 1, none⟩ u1).setCell ⟨g, 2, none⟩ u2) lo v xs :=
  ((h.set1 hb h1 0 u0).set1 (block_set hb 0 u0) h1 1 u1).set1 (block_set (block_set hb 0 u0) 1 u1) h1 2 u2
theorem below_set3 {B g : Nat} {w W : World} (h : Below B w W) (hg : B ≤ g) (u0 u1 u2 : Value) : Below B w (((W.setCell ⟨g, 0, none⟩ u0).setCell ⟨g, 1, none⟩ u1).setCell ⟨g, 2, none⟩ u2) :=
  ((h.setCell (p := ⟨g, 0, none⟩) hg u0).setCell (p := ⟨g, 1, none⟩) hg u1).setCell (p := ⟨g, 2, none⟩) hg u2


set_option maxHeartbeats 1000000 in
set_option maxRecDepth 100000 in
theorem made_0 (A0 A2 : Option Addr) (c0 c2 : Nat) (st : List Int) (step aa bb : Int) (w : World) (i0 : Ints w (.slice A0 st.length c0) st) (i2 : Ints w (.slice A2 0 c2) []) (hs : st.length ≤ 1000) :
    Calls Tryd.prog 41 #[.agg #[.slice A0 st.length c0, .int .i64 step, .slice A2 0 c2], .agg #[.int .i64 0, .int .i64 aa, .int .i64 bb]] w fun e w' => ∃ v', e = .returned v' ∧ PlW w' w.heap.size v' ⟨putList st aa bb, step, []⟩ ∧ Below w.heap.size w w' := by
  have hw : ([] : List Int).length ≤ 1000 := by simp
  go_enter Tryd.func41, Tryd.ntmps41
  go_wp2_with fail
  refine (s_l15Place _ ⟨st, step, []⟩ _ (PlI.mk i0.at i2.at) hs hw).mono ?_
  rintro e w1 ⟨v1, rfl, ⟨y0, y2, rfl, hO0, hO2, hap⟩, hb1⟩
  obtain ⟨B0, e0, rfl⟩ := hO0.ints.form
  obtain ⟨B2, e2, rfl⟩ := hO2.ints.form
  have BX : w1.heap[w.heap.size]? = some (.cells #[.slice A0 st.length c0, .int .i64 step, .slice A2 0 c2] 25 (0, 0)) := (hb1.block _ (by simp <;> omega)).trans ((heap_alloc_old _ _ (by simp <;> omega)).trans ((heap_alloc_old _ _ (by simp)).trans (heap_alloc_new w _)))
  have BD : w1.heap[w.heap.size + 1]? = some (.cells #[.int .i64 0, .int .i64 aa, .int .i64 bb] 30 (0, 0)) := (hb1.block _ (by simp <;> omega)).trans ((heap_alloc_old _ _ (by simp)).trans (by simpa using heap_alloc_new (w.alloc (.cells #[.slice A0 st.length c0, .int .i64 step, .slice A2 0 c2] 25)) _))
  have BR : w1.heap[w.heap.size + 2]? = some (.cells #[.slice none 0 0, .int .i64 0, .slice none 0 0] 25 (0, 0)) := (hb1.block _ (by simp)).trans (by simpa using heap_alloc_new ((w.alloc (.cells #[.slice A0 st.length c0, .int .i64 step, .slice A2 0 c2] 25)).alloc (.cells #[.int .i64 0, .int .i64 aa, .int .i64 bb] 30)) _)
  haveI b1 : Bel w w1 := Bel.step (w := w) hb1
  have hz1 : w.heap.size + 2 < w1.heap.size := by have := hb1.size; simp at this; omega
  have ne0 : w.heap.size ≠ w1.heap.size := by omega
  have ne1 : w.heap.size + 1 ≠ w1.heap.size := by omega
  have ne2 : w.heap.size + 2 ≠ w1.heap.size := by omega
  have ne3 : w.heap.size + 1 + 1 ≠ w1.heap.size := by omega
  have x1 := fun o => cell_at (W := w1.alloc o) (block_cell BX 1 rfl)
  have x0 := fun o => cell_at (W := w1.alloc o) (block_cell BX 0 rfl)
  have x2 := fun o => cell_at (W := w1.alloc o) (block_cell BX 2 rfl)
  have d0 := fun o => cell_at (W := w1.alloc o) (block_cell BD 0 rfl)
  have d1 := fun o => cell_at (W := w1.alloc o) (block_cell BD 1 rfl)
  have d2 := fun o => cell_at (W := w1.alloc o) (block_cell BD 2 rfl)
  have r0 := fun o => cell_at (W := w1.alloc o) (block_cell BR 0 rfl)
  have r1 := fun o => cell_at (W := w1.alloc o) (block_cell BR 1 rfl)
  have r2 := fun o => cell_at (W := w1.alloc o) (block_cell BR 2 rfl)
  have g0 := fun o => frozen_at (W := w1.alloc o) (block_cell BR 0 rfl) (block_frozen BR 0)
  have g1 := fun o => frozen_at (W := w1.alloc o) (block_cell BR 1 rfl) (block_frozen BR 1)
  have g2 := fun o => frozen_at (W := w1.alloc o) (block_cell BR 2 rfl) (block_frozen BR 2)
  have HBX := Lib.hid BX; have HBD := Lib.hid BD; have HBR := Lib.hid BR; have HO0 := Lib.hid (hO0.mono (lo' := w.heap.size + 3) (by simp)); have HO2 := Lib.hid (hO2.mono (lo' := w.heap.size + 3) (by simp)); have HAP := Lib.hid hap
  clear hb1 BX BD BR hO0 hO2 hap
  go_wp2_with fail
  refine (s_PutIn _ st aa bb _ i0.at).mono ?_
  rintro e w2 ⟨v2, rfl, hU, hb2⟩
  obtain ⟨U0, u0, rfl⟩ := hU.ints.form
  haveI b2 : Bel w1 w2 := Bel.step (w := w1) hb2
  haveI b02 : Bel w w2 := Bel.step (w := w) b2.out
  clear x0 x1 x2 d0 d1 d2 r0 r1 r2 g0 g1 g2
  have x1 := block_cell (block_at (W := w2) HBX.out) 1 rfl
  have RR := block_at (W := w2) HBR.out
  have r0 := block_cell RR 0 rfl
  have r1 := block_cell RR 1 rfl
  have r2 := block_cell RR 2 rfl
  have f0 := block_frozen RR 0
  have f1 := block_frozen RR 1
  have f2 := block_frozen RR 2
  have HU := Lib.hid (OwnI.set3 (OwnI.mono (lo' := w.heap.size) hU (by simp; omega)) RR (by decide) (.slice U0 (putList st aa bb).length u0) (.int .i64 step) (.slice none 0 0))
  have HB := Lib.hid (below_set3 b02.out (g := w.heap.size + 2) (by omega) (.slice U0 (putList st aa bb).length u0) (.int .i64 step) (.slice none 0 0))
  clear hU RR hb2 hz1
  go_wp2
  exact bodyPost_ret (v := .agg #[.slice U0 (putList st aa bb).length u0, .int .i64 step, .slice none 0 0]) (by simp [results, Tryd.results41, go_sem, r0, r1, r2]) rfl ⟨_, rfl, ⟨_, _, rfl, HU.out, OwnI.nil _ _⟩, HB.out⟩


set_option maxHeartbeats 1000000 in
set_option maxRecDepth 100000 in
theorem made_1 (A0 A2 : Option Addr) (c0 c2 : Nat) (st : List Int) (step aa : Int) (w : World) (i0 : Ints w (.slice A0 st.length c0) st) (i2 : Ints w (.slice A2 0 c2) []) (hs : st.length ≤ 1000) :
    Calls Tryd.prog 41 #[.agg #[.slice A0 st.length c0, .int .i64 step, .slice A2 0 c2], .agg #[.int .i64 1, .int .i64 aa, .int .i64 0]] w fun e w' => ∃ v', e = .returned v' ∧ PlW w' w.heap.size v' ⟨st, aa, []⟩ ∧ Below w.heap.size w w' := by
  have hw : ([] : List Int).length ≤ 1000 := by simp
  go_enter Tryd.func41, Tryd.ntmps41
  go_wp2_with fail
  refine (s_l15Place _ ⟨st, step, []⟩ _ (PlI.mk i0.at i2.at) hs hw).mono ?_
  rintro e w1 ⟨v1, rfl, ⟨y0, y2, rfl, hO0, hO2, hap⟩, hb1⟩
  obtain ⟨B0, e0, rfl⟩ := hO0.ints.form
  obtain ⟨B2, e2, rfl⟩ := hO2.ints.form
  have BX : w1.heap[w.heap.size]? = some (.cells #[.slice A0 st.length c0, .int .i64 step, .slice A2 0 c2] 25 (0, 0)) := (hb1.block _ (by simp <;> omega)).trans ((heap_alloc_old _ _ (by simp <;> omega)).trans ((heap_alloc_old _ _ (by simp)).trans (heap_alloc_new w _)))
  have BD : w1.heap[w.heap.size + 1]? = some (.cells #[.int .i64 1, .int .i64 aa, .int .i64 0] 30 (0, 0)) := (hb1.block _ (by simp <;> omega)).trans ((heap_alloc_old _ _ (by simp)).trans (by simpa using heap_alloc_new (w.alloc (.cells #[.slice A0 st.length c0, .int .i64 step, .slice A2 0 c2] 25)) _))
  have BR : w1.heap[w.heap.size + 2]? = some (.cells #[.slice none 0 0, .int .i64 0, .slice none 0 0] 25 (0, 0)) := (hb1.block _ (by simp)).trans (by simpa using heap_alloc_new ((w.alloc (.cells #[.slice A0 st.length c0, .int .i64 step, .slice A2 0 c2] 25)).alloc (.cells #[.int .i64 1, .int .i64 aa, .int .i64 0] 30)) _)
  haveI b1 : Bel w w1 := Bel.step (w := w) hb1
  have hz1 : w.heap.size + 2 < w1.heap.size := by have := hb1.size; simp at this; omega
  have ne0 : w.heap.size ≠ w1.heap.size := by omega
  have ne1 : w.heap.size + 1 ≠ w1.heap.size := by omega
  have ne2 : w.heap.size + 2 ≠ w1.heap.size := by omega
  have ne3 : w.heap.size + 1 + 1 ≠ w1.heap.size := by omega
  have x1 := fun o => cell_at (W := w1.alloc o) (block_cell BX 1 rfl)
  have x0 := fun o => cell_at (W := w1.alloc o) (block_cell BX 0 rfl)
  have x2 := fun o => cell_at (W := w1.alloc o) (block_cell BX 2 rfl)
  have d0 := fun o => cell_at (W := w1.alloc o) (block_cell BD 0 rfl)
  have d1 := fun o => cell_at (W := w1.alloc o) (block_cell BD 1 rfl)
  have d2 := fun o => cell_at (W := w1.alloc o) (block_cell BD 2 rfl)
  have r0 := fun o => cell_at (W := w1.alloc o) (block_cell BR 0 rfl)
  have r1 := fun o => cell_at (W := w1.alloc o) (block_cell BR 1 rfl)
  have r2 := fun o => cell_at (W := w1.alloc o) (block_cell BR 2 rfl)
  have g0 := fun o => frozen_at (W := w1.alloc o) (block_cell BR 0 rfl) (block_frozen BR 0)
  have g1 := fun o => frozen_at (W := w1.alloc o) (block_cell BR 1 rfl) (block_frozen BR 1)
  have g2 := fun o => frozen_at (W := w1.alloc o) (block_cell BR 2 rfl) (block_frozen BR 2)
  have HBX := Lib.hid BX; have HBD := Lib.hid BD; have HBR := Lib.hid BR; have HO0 := Lib.hid (hO0.mono (lo' := w.heap.size + 3) (by simp)); have HO2 := Lib.hid (hO2.mono (lo' := w.heap.size + 3) (by simp)); have HAP := Lib.hid hap
  clear hb1 BX BD BR hO0 hO2 hap
  go_upto_region 7 with (fail)
  obtain ⟨W5, hW5⟩ : ∃ W5, W5 = w1.alloc (.cells #[.slice B0 st.length e0, .int .i64 aa, .slice B2 0 e2] 25) := ⟨_, rfl⟩
  rw [← hW5]
  haveI b5 : Bel w1 W5 := by rw [hW5]; exact Bel.alloc
  haveI b05 : Bel w W5 := Bel.step (w := w) b5.out
  have BO : W5.heap[w1.heap.size]? = some (.cells #[.slice B0 st.length e0, .int .i64 aa, .slice B2 0 e2] 25 (0, 0)) := by rw [hW5]; exact heap_alloc_new _ _
  have HP0 := Lib.hid (OwnI.ints (HO0.out.at (w1 := W5)))
  have HP2 := Lib.hid (OwnI.ints (HO2.out.at (w1 := W5)))
  clear x0 x1 x2 d0 d1 d2 r0 r1 r2 g0 g1 g2 hW5 ne0 ne1 ne2 ne3
  have o0 := block_cell BO 0 rfl
  have o1 := block_cell BO 1 rfl
  have o2 := block_cell BO 2 rfl
  have H0 := HO0.out.at (w1 := W5)
  have H2 := HO2.out.at (w1 := W5)
  have RR := block_at (W := W5) HBR.out
  have HBW := Lib.hid b05.out
  clear BO
  have r0 := block_cell RR 0 rfl
  have r1 := block_cell RR 1 rfl
  have r2 := block_cell RR 2 rfl
  have f0 := block_frozen RR 0
  have f1 := block_frozen RR 1
  have f2 := block_frozen RR 2
  have HU0 := Lib.hid (OwnI.set3 (OwnI.mono (lo' := w.heap.size) H0 (by first | exact Nat.le_refl _ | omega)) RR (by decide) (.slice B0 st.length e0) (.int .i64 aa) (.slice B2 0 e2))
  have HU2 := Lib.hid (OwnI.set3 (OwnI.mono (lo' := w.heap.size) H2 (by first | exact Nat.le_refl _ | omega)) RR (by decide) (.slice B0 st.length e0) (.int .i64 aa) (.slice B2 0 e2))
  have HB := Lib.hid (below_set3 HBW.out (g := w.heap.size + 2) (by omega) (.slice B0 st.length e0) (.int .i64 aa) (.slice B2 0 e2))
  clear RR hz1 H0 H2
  go_wp2
  exact bodyPost_ret (v := .agg #[(.slice B0 st.length e0), (.int .i64 aa), (.slice B2 0 e2)]) (by simp [results, Tryd.results41, go_sem, r0, r1, r2]) rfl ⟨_, rfl, ⟨_, _, rfl, HU0.out, HU2.out⟩, HB.out⟩

set_option maxHeartbeats 1000000 in
set_option maxRecDepth 100000 in
theorem made_3 (A0 A2 : Option Addr) (c0 c2 : Nat) (st word : List Int) (step : Int) (w : World) (i0 : Ints w (.slice A0 st.length c0) st) (i2 : Ints w (.slice A2 word.length c2) word) (hs : st.length ≤ 1000) (hw : word.length ≤ 1000) :
    Calls Tryd.prog 41 #[.agg #[.slice A0 st.length c0, .int .i64 step, .slice A2 word.length c2], .agg #[.int .i64 3, .int .i64 0, .int .i64 0]] w fun e w' => ∃ v', e = .returned v' ∧ PlW w' w.heap.size v' ⟨st, step, []⟩ ∧ Below w.heap.size w w' := by
  go_enter Tryd.func41, Tryd.ntmps41
  go_wp2_with fail
  refine (s_l15Place _ ⟨st, step, word⟩ _ (PlI.mk i0.at i2.at) hs hw).mono ?_
  rintro e w1 ⟨v1, rfl, ⟨y0, y2, rfl, hO0, hO2, hap⟩, hb1⟩
  obtain ⟨B0, e0, rfl⟩ := hO0.ints.form
  obtain ⟨B2, e2, rfl⟩ := hO2.ints.form
  have BX : w1.heap[w.heap.size]? = some (.cells #[.slice A0 st.length c0, .int .i64 step, .slice A2 word.length c2] 25 (0, 0)) := (hb1.block _ (by simp <;> omega)).trans ((heap_alloc_old _ _ (by simp <;> omega)).trans ((heap_alloc_old _ _ (by simp)).trans (heap_alloc_new w _)))
  have BD : w1.heap[w.heap.size + 1]? = some (.cells #[.int .i64 3, .int .i64 0, .int .i64 0] 30 (0, 0)) := (hb1.block _ (by simp <;> omega)).trans ((heap_alloc_old _ _ (by simp)).trans (by simpa using heap_alloc_new (w.alloc (.cells #[.slice A0 st.length c0, .int .i64 step, .slice A2 word.length c2] 25)) _))
  have BR : w1.heap[w.heap.size + 2]? = some (.cells #[.slice none 0 0, .int .i64 0, .slice none 0 0] 25 (0, 0)) := (hb1.block _ (by simp)).trans (by simpa using heap_alloc_new ((w.alloc (.cells #[.slice A0 st.length c0, .int .i64 step, .slice A2 word.length c2] 25)).alloc (.cells #[.int .i64 3, .int .i64 0, .int .i64 0] 30)) _)
  haveI b1 : Bel w w1 := Bel.step (w := w) hb1
  have hz1 : w.heap.size + 2 < w1.heap.size := by have := hb1.size; simp at this; omega
  have ne0 : w.heap.size ≠ w1.heap.size := by omega
  have ne1 : w.heap.size + 1 ≠ w1.heap.size := by omega
  have ne2 : w.heap.size + 2 ≠ w1.heap.size := by omega
  have ne3 : w.heap.size + 1 + 1 ≠ w1.heap.size := by omega
  have x1 := fun o => cell_at (W := w1.alloc o) (block_cell BX 1 rfl)
  have x0 := fun o => cell_at (W := w1.alloc o) (block_cell BX 0 rfl)
  have x2 := fun o => cell_at (W := w1.alloc o) (block_cell BX 2 rfl)
  have d0 := fun o => cell_at (W := w1.alloc o) (block_cell BD 0 rfl)
  have d1 := fun o => cell_at (W := w1.alloc o) (block_cell BD 1 rfl)
  have d2 := fun o => cell_at (W := w1.alloc o) (block_cell BD 2 rfl)
  have r0 := fun o => cell_at (W := w1.alloc o) (block_cell BR 0 rfl)
  have r1 := fun o => cell_at (W := w1.alloc o) (block_cell BR 1 rfl)
  have r2 := fun o => cell_at (W := w1.alloc o) (block_cell BR 2 rfl)
  have g0 := fun o => frozen_at (W := w1.alloc o) (block_cell BR 0 rfl) (block_frozen BR 0)
  have g1 := fun o => frozen_at (W := w1.alloc o) (block_cell BR 1 rfl) (block_frozen BR 1)
  have g2 := fun o => frozen_at (W := w1.alloc o) (block_cell BR 2 rfl) (block_frozen BR 2)
  have HBX := Lib.hid BX; have HBD := Lib.hid BD; have HBR := Lib.hid BR; have HO0 := Lib.hid (hO0.mono (lo' := w.heap.size + 3) (by simp)); have HO2 := Lib.hid (hO2.mono (lo' := w.heap.size + 3) (by simp)); have HAP := Lib.hid hap
  clear hb1 BX BD BR hO0 hO2 hap
  go_upto_region 12 with (fail)
  obtain ⟨W5, hW5⟩ : ∃ W5, W5 = w1.alloc (.cells #[.slice B0 st.length e0, .int .i64 step, .slice B2 word.length e2] 25) := ⟨_, rfl⟩
  rw [← hW5]
  haveI b5 : Bel w1 W5 := by rw [hW5]; exact Bel.alloc
  haveI b05 : Bel w W5 := Bel.step (w := w) b5.out
  have BO : W5.heap[w1.heap.size]? = some (.cells #[.slice B0 st.length e0, .int .i64 step, .slice B2 word.length e2] 25 (0, 0)) := by rw [hW5]; exact heap_alloc_new _ _
  have HP0 := Lib.hid (OwnI.ints (HO0.out.at (w1 := W5)))
  have HP2 := Lib.hid (OwnI.ints (HO2.out.at (w1 := W5)))
  clear x0 x1 x2 d0 d1 d2 r0 r1 r2 g0 g1 g2 hW5 ne0 ne1 ne2 ne3
  have o0 := block_cell BO 0 rfl
  have x1 := block_cell (block_at (W := W5) HBX.out) 1 rfl
  have H0 := HO0.out.at (w1 := W5)
  have H2 := OwnI.nil W5 w.heap.size
  have RR := block_at (W := W5) HBR.out
  have HBW := Lib.hid b05.out
  clear BO
  have r0 := block_cell RR 0 rfl
  have r1 := block_cell RR 1 rfl
  have r2 := block_cell RR 2 rfl
  have f0 := block_frozen RR 0
  have f1 := block_frozen RR 1
  have f2 := block_frozen RR 2
  have HU0 := Lib.hid (OwnI.set3 (OwnI.mono (lo' := w.heap.size) H0 (by first | exact Nat.le_refl _ | omega)) RR (by decide) (.slice B0 st.length e0) (.int .i64 step) (.slice none 0 0))
  have HU2 := Lib.hid (OwnI.set3 (OwnI.mono (lo' := w.heap.size) H2 (by first | exact Nat.le_refl _ | omega)) RR (by decide) (.slice B0 st.length e0) (.int .i64 step) (.slice none 0 0))
  have HB := Lib.hid (below_set3 HBW.out (g := w.heap.size + 2) (by omega) (.slice B0 st.length e0) (.int .i64 step) (.slice none 0 0))
  clear RR hz1 H0 H2
  go_wp2
  exact bodyPost_ret (v := .agg #[(.slice B0 st.length e0), (.int .i64 step), (.slice none 0 0)]) (by simp [results, Tryd.results41, go_sem, r0, r1, r2]) rfl ⟨_, rfl, ⟨_, _, rfl, HU0.out, HU2.out⟩, HB.out⟩

set_option maxHeartbeats 1000000 in
set_option maxRecDepth 100000 in
theorem made_2 (A0 A2 : Option Addr) (c0 c2 : Nat) (st word : List Int) (step aa : Int) (w : World) (i0 : Ints w (.slice A0 st.length c0) st) (i2 : Ints w (.slice A2 word.length c2) word) (hs : st.length ≤ 1000) (hw : word.length ≤ 1000) :
    Calls Tryd.prog 41 #[.agg #[.slice A0 st.length c0, .int .i64 step, .slice A2 word.length c2], .agg #[.int .i64 2, .int .i64 aa, .int .i64 0]] w fun e w' => ∃ v', e = .returned v' ∧ PlW w' w.heap.size v' ⟨st, step, word ++ [aa]⟩ ∧ Below w.heap.size w w' := by
  go_enter Tryd.func41, Tryd.ntmps41
  go_wp2_with fail
  refine (s_l15Place _ ⟨st, step, word⟩ _ (PlI.mk i0.at i2.at) hs hw).mono ?_
  rintro e w1 ⟨v1, rfl, ⟨y0, y2, rfl, hO0, hO2, hap⟩, hb1⟩
  obtain ⟨B0, e0, rfl⟩ := hO0.ints.form
  obtain ⟨B2, e2, rfl⟩ := hO2.ints.form
  have BX : w1.heap[w.heap.size]? = some (.cells #[.slice A0 st.length c0, .int .i64 step, .slice A2 word.length c2] 25 (0, 0)) := (hb1.block _ (by simp <;> omega)).trans ((heap_alloc_old _ _ (by simp <;> omega)).trans ((heap_alloc_old _ _ (by simp)).trans (heap_alloc_new w _)))
  have BD : w1.heap[w.heap.size + 1]? = some (.cells #[.int .i64 2, .int .i64 aa, .int .i64 0] 30 (0, 0)) := (hb1.block _ (by simp <;> omega)).trans ((heap_alloc_old _ _ (by simp)).trans (by simpa using heap_alloc_new (w.alloc (.cells #[.slice A0 st.length c0, .int .i64 step, .slice A2 word.length c2] 25)) _))
  have BR : w1.heap[w.heap.size + 2]? = some (.cells #[.slice none 0 0, .int .i64 0, .slice none 0 0] 25 (0, 0)) := (hb1.block _ (by simp)).trans (by simpa using heap_alloc_new ((w.alloc (.cells #[.slice A0 st.length c0, .int .i64 step, .slice A2 word.length c2] 25)).alloc (.cells #[.int .i64 2, .int .i64 aa, .int .i64 0] 30)) _)
  haveI b1 : Bel w w1 := Bel.step (w := w) hb1
  have hz1 : w.heap.size + 2 < w1.heap.size := by have := hb1.size; simp at this; omega
  have ne0 : w.heap.size ≠ w1.heap.size := by omega
  have ne1 : w.heap.size + 1 ≠ w1.heap.size := by omega
  have ne2 : w.heap.size + 2 ≠ w1.heap.size := by omega
  have ne3 : w.heap.size + 1 + 1 ≠ w1.heap.size := by omega
  have x1 := fun o => cell_at (W := w1.alloc o) (block_cell BX 1 rfl)
  have x0 := fun o => cell_at (W := w1.alloc o) (block_cell BX 0 rfl)
  have x2 := fun o => cell_at (W := w1.alloc o) (block_cell BX 2 rfl)
  have d0 := fun o => cell_at (W := w1.alloc o) (block_cell BD 0 rfl)
  have d1 := fun o => cell_at (W := w1.alloc o) (block_cell BD 1 rfl)
  have d2 := fun o => cell_at (W := w1.alloc o) (block_cell BD 2 rfl)
  have r0 := fun o => cell_at (W := w1.alloc o) (block_cell BR 0 rfl)
  have r1 := fun o => cell_at (W := w1.alloc o) (block_cell BR 1 rfl)
  have r2 := fun o => cell_at (W := w1.alloc o) (block_cell BR 2 rfl)
  have g0 := fun o => frozen_at (W := w1.alloc o) (block_cell BR 0 rfl) (block_frozen BR 0)
  have g1 := fun o => frozen_at (W := w1.alloc o) (block_cell BR 1 rfl) (block_frozen BR 1)
  have g2 := fun o => frozen_at (W := w1.alloc o) (block_cell BR 2 rfl) (block_frozen BR 2)
  have HBX := Lib.hid BX; have HBD := Lib.hid BD; have HBR := Lib.hid BR; have HO0 := Lib.hid (hO0.mono (lo' := w.heap.size + 3) (by simp)); have HO2 := Lib.hid (hO2.mono (lo' := w.heap.size + 3) (by simp)); have HAP := Lib.hid hap
  clear hb1 BX BD BR hO0 hO2 hap
  go_upto_region 9 with (fail)
  obtain ⟨W5, hW5⟩ : ∃ W5, W5 = w1.alloc (.cells #[.slice B0 st.length e0, .int .i64 step, .slice B2 word.length e2] 25) := ⟨_, rfl⟩
  rw [← hW5]
  haveI b5 : Bel w1 W5 := by rw [hW5]; exact Bel.alloc
  haveI b05 : Bel w W5 := Bel.step (w := w) b5.out
  have BO : W5.heap[w1.heap.size]? = some (.cells #[.slice B0 st.length e0, .int .i64 step, .slice B2 word.length e2] 25 (0, 0)) := by rw [hW5]; exact heap_alloc_new _ _
  have HP0 := Lib.hid (OwnI.ints (HO0.out.at (w1 := W5)))
  have HP2 := Lib.hid (OwnI.ints (HO2.out.at (w1 := W5)))
  clear x0 x1 x2 d0 d1 d2 r0 r1 r2 g0 g1 g2 hW5 ne0 ne1 ne2 ne3
  have o2 := block_cell BO 2 rfl
  have HBO := Lib.hid BO; clear BO
  have d1 := block_cell (block_at (W := W5) HBD.out) 1 rfl
  go_wp2_with (at_builtin; refine stop ?_)
  refine go_on ?_
  have hown := OwnI.at HO2.out (w1 := W5.alloc (.cells #[.int .i64 aa] 3))
  have hown0 := OwnI.at HO0.out (w1 := W5.alloc (.cells #[.int .i64 aa] 3))
  have hsz5 : w1.heap.size ≤ W5.heap.size := b5.out.size
  refine app_list eI rfl _ _ rfl (w.heap.size + 3) (.slice B2 word.length e2) word.length (nums word) rfl hown W5.heap.size 1 1 #[.int .i64 aa] rfl (heap_alloc_new W5 _) rfl (by simp [Value.oneCell']) (by omega) (by omega) (by omega) (by simp; omega) ?_
  intro g cap w3 hown3 hgr hat
  have BO3 := block_other (block_at (W := W5.alloc (.cells #[.int .i64 aa] 3)) HBO.out) hown hgr (by decide)
  have BR3 := block_other (block_at (W := W5.alloc (.cells #[.int .i64 aa] 3)) HBR.out) hown hgr (by decide)
  have H0 : OwnI w3 (w.heap.size + 3) (.slice B0 st.length e0) st := World.ownsRow.kept hown0 hgr (by
    cases hv : (Value.slice B0 st.length e0).ownBlock with
    | none => exact .inl rfl
    | some k => exact .inr (fun e2 => HAP.out k hv e2.symm))
  have H2 : OwnI w3 (w.heap.size + 3) (.slice (some ⟨g, 0, none⟩) (word.length + 1) cap) (word ++ [aa]) := OwnI.push hown3 rfl
  have hB3 : Below w.heap.size w w3 := Below.grown (Bel.out : Below w.heap.size w (W5.alloc (.cells #[.int .i64 aa] 3))) hgr (by simp; omega) (fun k e => by have := (World.ownsRow.lt hown k e).1; omega)
  have o2' := block_cell BO3 2 rfl
  have q2' := block_frozen BO3 2
  have HX := Lib.hid (And.intro BO3 (And.intro BR3 (And.intro H0 (And.intro H2 hB3))))
  clear BO3 BR3 H0 H2 hB3 hown hown0 hown3 hgr hat
  go_upto_region 10 with (fail)
  obtain ⟨W6, hW6⟩ : ∃ W6, W6 = w3.setCell ⟨w1.heap.size, 2, none⟩ (.slice (some ⟨g, 0, none⟩) (word.length + 1) cap) := ⟨_, rfl⟩
  rw [← hW6]
  have BO6 : W6.heap[w1.heap.size]? = some (.cells #[.slice B0 st.length e0, .int .i64 step, .slice (some ⟨g, 0, none⟩) (word.length + 1) cap] 25 (0, 0)) := by rw [hW6]; exact block_set HX.out.1 2 _
  have RR : W6.heap[w.heap.size + 2]? = some (.cells #[.slice none 0 0, .int .i64 0, .slice none 0 0] 25 (0, 0)) := (by rw [hW6]; exact block_far HX.out.2.1 (by simp; omega))
  have H0 : OwnI W6 (w.heap.size + 3) (.slice B0 st.length e0) st := (by rw [hW6]; exact HX.out.2.2.1.set1 HX.out.1 (by decide) _ _)
  have H2 : OwnI W6 (w.heap.size + 3) (.slice (some ⟨g, 0, none⟩) (word.length + 1) cap) (word ++ [aa]) := (by rw [hW6]; exact HX.out.2.2.2.1.set1 HX.out.1 (by decide) _ _)
  have HBW : Hid (Below w.heap.size w W6) := (by show Below _ _ _; rw [hW6]; exact HX.out.2.2.2.2.setCell (by simp; omega) _)
  have o0 := block_cell BO6 0 rfl
  have o1 := block_cell BO6 1 rfl
  have o2 := block_cell BO6 2 rfl
  clear BO6 hW6 o2' q2'
  have r0 := block_cell RR 0 rfl
  have r1 := block_cell RR 1 rfl
  have r2 := block_cell RR 2 rfl
  have f0 := block_frozen RR 0
  have f1 := block_frozen RR 1
  have f2 := block_frozen RR 2
  have HU0 := Lib.hid (OwnI.set3 (OwnI.mono (lo' := w.heap.size) H0 (by first | exact Nat.le_refl _ | omega)) RR (by decide) (.slice B0 st.length e0) (.int .i64 step) (.slice (some ⟨g, 0, none⟩) (word.length + 1) cap))
  have HU2 := Lib.hid (OwnI.set3 (OwnI.mono (lo' := w.heap.size) H2 (by first | exact Nat.le_refl _ | omega)) RR (by decide) (.slice B0 st.length e0) (.int .i64 step) (.slice (some ⟨g, 0, none⟩) (word.length + 1) cap))
  have HB := Lib.hid (below_set3 HBW.out (g := w.heap.size + 2) (by omega) (.slice B0 st.length e0) (.int .i64 step) (.slice (some ⟨g, 0, none⟩) (word.length + 1) cap))
  clear RR hz1 H0 H2
  go_wp2
  exact bodyPost_ret (v := .agg #[(.slice B0 st.length e0), (.int .i64 step), (.slice (some ⟨g, 0, none⟩) (word.length + 1) cap)]) (by simp [results, Tryd.results41, go_sem, r0, r1, r2]) rfl ⟨_, rfl, ⟨_, _, rfl, HU0.out, HU2.out⟩, HB.out⟩
end Go.Proofs.YtpfncjaclgcbnaaDoor.Ub
