/- Contracts of places and desks that are valid, and of balls put in. -/
import Derived.Test.YtpfncjaclgcbnaaDoorF4
set_option linter.unusedVariables false
set_option linter.unusedSimpArgs false
namespace Go.Proofs.YtpfncjaclgcbnaaDoor.Ub
open Go.RowKit

set_option maxHeartbeats 1000000 in
set_option maxRecDepth 100000 in
theorem s_PlaceOk (v : Value) (p : Pl) (w : World) (h : PlI w v p) :
    Calls Tryd.prog 42 #[v] w fun e w' => e = .returned (.bool (placeOk p)) ∧ Below w.heap.size w w' := by
  obtain ⟨A0, c0, A2, c2, rfl, i0, i2⟩ := h.open
  by_cases hs : startOk p.st = true
  · by_cases hp : stepOk p.step = true
    · have hs' : (!startOk p.st) = false := by simp [hs]
      have hp' : (!inR p.step (-1) 3) = false := by rw [show inR p.step (-1) 3 = true from hp]; rfl
      obtain ⟨_, _, hu1, hu3⟩ := start_within hs
      have HE := Lib.hid (drawOk_same p hs hp)
      have HR := Lib.hid (sameRuleAll_eq hu1 hu3 hp)
      clear hs hp
      go_enter Tryd.func42, Tryd.ntmps42
      go_wp2_with (first
        | (go_at_call 75; refine (s_StartOk _ _ _ i0.at).mono ?_; rintro e w' ⟨rfl, rfl⟩)
        | (go_at_call 76; refine (s_l1In _ _ _ _).mono ?_; rintro e w' ⟨rfl, rfl⟩))
      obtain ⟨W0, hW0⟩ : ∃ W0, W0 = w.alloc (.cells #[.slice A0 p.st.length c0, .int .i64 p.step, .slice A2 p.word.length c2] 25) := ⟨_, rfl⟩
      have t0 : W0.cell? ⟨w.heap.size, 0, none⟩ = some (.slice A0 p.st.length c0) := by rw [hW0]; simp
      have t1 : W0.cell? ⟨w.heap.size, 1, none⟩ = some (.int .i64 p.step) := by rw [hW0]; simp
      have t2 : W0.cell? ⟨w.heap.size, 2, none⟩ = some (.slice A2 p.word.length c2) := by rw [hW0]; simp
      haveI b0 : Bel w W0 := by rw [hW0]; exact Bel.alloc
      rw [← hW0]
      clear hW0
      go_region_held3 (fun w' => w'.cell? ⟨w.heap.size, 0, none⟩ = some (.slice A0 p.st.length c0) ∧ w'.cell? ⟨w.heap.size, 1, none⟩ = some (.int .i64 p.step) ∧ w'.cell? ⟨w.heap.size, 2, none⟩ = some (.slice A2 p.word.length c2)) (first | go_keep | exact ⟨cell_at t0, cell_at t1, cell_at t2⟩)
        (first
          | (go_at_call 78; refine (s_SameRule _ _ _).mono ?_; rintro e w1 ⟨v1, rfl, hR1, hb1⟩; rw [HR.out] at hR1; haveI : Bel W0 w1 := Bel.step (w := W0) hb1; haveI : Bel w w1 := Bel.step (w := w) hb1)
          | (go_at_call 77; refine (s_AfterWord _ _ _ p.st (sameRule p.st.length p.step) p.word _ i0.at hR1.rows i2.at).mono ?_; rintro e w2 ⟨v2, rfl, _, hb2⟩; haveI : Bel W0 w2 := Bel.step (w := W0) hb2; haveI : Bel w w2 := Bel.step (w := w) hb2))
      go_wp2
      go_ret
      exact ⟨by rw [← HE.out]; rfl, (Bel.out : Below w.heap.size w _)⟩
    · have hs' : (!startOk p.st) = false := by simp [hs]
      have hp' : (!inR p.step (-1) 3) = true := by rw [show inR p.step (-1) 3 = false from eq_false_of_ne_true hp]; rfl
      have hno : placeOk p = false := by simp [placeOk, hp]
      have HNO := Lib.hid hno; clear hno hs hp
      go_enter Tryd.func42, Tryd.ntmps42
      go_wp2_with (first
        | (go_at_call 75; refine (s_StartOk _ _ _ i0.at).mono ?_; rintro e w' ⟨rfl, rfl⟩)
        | (go_at_call 76; refine (s_l1In _ _ _ _).mono ?_; rintro e w' ⟨rfl, rfl⟩))
      go_ret
      exact ⟨by rw [HNO.out]; rfl, (Bel.out : Below w.heap.size w _)⟩
  · have hs' : (!startOk p.st) = true := by simp [hs]
    have hno : placeOk p = false := by simp [placeOk, hs]
    have HNO := Lib.hid hno; clear hno hs
    go_enter Tryd.func42, Tryd.ntmps42
    go_wp2_with (go_at_call 75; refine (s_StartOk _ _ _ i0.at).mono ?_; rintro e w' ⟨rfl, rfl⟩)
    go_ret
    exact ⟨by rw [HNO.out]; rfl, (Bel.out : Below w.heap.size w _)⟩

set_option maxHeartbeats 1000000 in
set_option maxRecDepth 100000 in
theorem i_PlaceOk (v : Value) (p : Pl) (w : World) (h : PlI w v p) :
    Calls Tryd.prog 37 #[v] w fun e w' => e = .returned (.bool (placeOk p)) ∧ Below w.heap.size w w' := by
  obtain ⟨A0, c0, A2, c2, rfl, i0, i2⟩ := h.open
  by_cases hs : startOk p.st = true
  · by_cases hp : stepOk p.step = true
    · have hs' : (!startOk p.st) = false := by simp [hs]
      have hp' : -1 ≤ p.step ∧ p.step ≤ 3 := by simpa [stepOk, inR] using hp
      obtain ⟨hp1, hp2⟩ := hp'
      obtain ⟨hb, _, hu1, hu3⟩ := start_within hs
      have HF := Lib.hid (fit_of_ruleOk (sameRule_ok hu1 hu3 hp))
      have HR := Lib.hid (sameRuleAll_eq hu1 hu3 hp)
      have HBD := Lib.hid hb
      by_cases hw : wordOk p.st.length p.word = true
      · have hw' : (!wordOk p.st.length p.word) = false := by simp [hw]
        obtain ⟨ha, hl6⟩ := word_among hw
        have HA := Lib.hid ha
        have HE : Hid (placeOk p = decide (0 < ways (sameRule p.st.length p.step) p.st p.word)) := by show _ = _; simp [placeOk, hs, hp, hw, draw_ways]
        clear hs hp hw ha hb
        go_enter Tryd.func37, Tryd.ntmps37
        go_wp2_with (first
          | (go_at_call 70; refine (i_StartOk _ _ _ i0.at).mono ?_; rintro e w' ⟨rfl, rfl⟩)
          | (go_at_call 48; refine (i_WordOk _ _ _ _ i2.at).mono ?_; rintro e w' ⟨rfl, rfl⟩))
        obtain ⟨W0, hW0⟩ : ∃ W0, W0 = w.alloc (.cells #[.slice A0 p.st.length c0, .int .i64 p.step, .slice A2 p.word.length c2] 25) := ⟨_, rfl⟩
        have t0 : W0.cell? ⟨w.heap.size, 0, none⟩ = some (.slice A0 p.st.length c0) := by rw [hW0]; simp
        have t1 : W0.cell? ⟨w.heap.size, 1, none⟩ = some (.int .i64 p.step) := by rw [hW0]; simp
        have t2 : W0.cell? ⟨w.heap.size, 2, none⟩ = some (.slice A2 p.word.length c2) := by rw [hW0]; simp
        haveI b0 : Bel w W0 := by rw [hW0]; exact Bel.alloc
        rw [← hW0]
        clear hW0
        go_region_held3 (fun w' => w'.cell? ⟨w.heap.size, 0, none⟩ = some (.slice A0 p.st.length c0) ∧ w'.cell? ⟨w.heap.size, 1, none⟩ = some (.int .i64 p.step) ∧ w'.cell? ⟨w.heap.size, 2, none⟩ = some (.slice A2 p.word.length c2))
          (first | go_keep | exact ⟨cell_at t0, cell_at t1, cell_at t2⟩)
          (first
            | (go_at_call 13; refine (i_SameRule _ _ _).mono ?_; rintro e w1 ⟨v1, rfl, hR1, _, hb1⟩; rw [HR.out] at hR1; haveI : Bel W0 w1 := Bel.step (w := W0) hb1; haveI : Bel w w1 := Bel.step (w := w) hb1)
            | (go_at_call 49; refine (i_ruleWays _ _ _ p.st (sameRule p.st.length p.step) p.word _ i0.at hR1.rows i2.at hu3 HF.out HA.out hl6 HBD.out).mono ?_; rintro e w2 ⟨rfl, hb2⟩; haveI : Bel W0 w2 := Bel.step (w := W0) hb2; haveI : Bel w w2 := Bel.step (w := w) hb2))
        go_wp2
        go_ret
        exact ⟨by rw [HE.out]; rfl, (Bel.out : Below w.heap.size w _)⟩
      · have hw' : (!wordOk p.st.length p.word) = true := by simp [hw]
        have HNO : Hid (placeOk p = false) := by show _ = _; simp [placeOk, hw]
        clear hs hp hw hb
        go_enter Tryd.func37, Tryd.ntmps37
        go_wp2_with (first
          | (go_at_call 70; refine (i_StartOk _ _ _ i0.at).mono ?_; rintro e w' ⟨rfl, rfl⟩)
          | (go_at_call 48; refine (i_WordOk _ _ _ _ i2.at).mono ?_; rintro e w' ⟨rfl, rfl⟩))
        go_ret
        exact ⟨by rw [HNO.out]; rfl, (Bel.out : Below w.heap.size w _)⟩
    · have hs' : (!startOk p.st) = false := by simp [hs]
      have hp' : p.step < -1 ∨ 3 < p.step := by simp [stepOk, inR] at hp; omega
      have HNO : Hid (placeOk p = false) := by show _ = _; simp [placeOk, hp]
      clear hs hp
      go_enter Tryd.func37, Tryd.ntmps37
      rcases hp' with hp' | hp'
      · go_wp2_with (go_at_call 70; refine (i_StartOk _ _ _ i0.at).mono ?_; rintro e w' ⟨rfl, rfl⟩)
        go_ret
        exact ⟨by rw [HNO.out]; rfl, (Bel.out : Below w.heap.size w _)⟩
      · go_wp2_with (go_at_call 70; refine (i_StartOk _ _ _ i0.at).mono ?_; rintro e w' ⟨rfl, rfl⟩)
        go_ret
        exact ⟨by rw [HNO.out]; rfl, (Bel.out : Below w.heap.size w _)⟩
  · have hs' : (!startOk p.st) = true := by simp [hs]
    have HNO : Hid (placeOk p = false) := by show _ = _; simp [placeOk, hs]
    clear hs
    go_enter Tryd.func37, Tryd.ntmps37
    go_wp2_with (go_at_call 70; refine (i_StartOk _ _ _ i0.at).mono ?_; rintro e w' ⟨rfl, rfl⟩)
    go_ret
    exact ⟨by rw [HNO.out]; rfl, (Bel.out : Below w.heap.size w _)⟩

set_option maxHeartbeats 1000000 in
set_option maxRecDepth 100000 in
theorem s_DeskOk (v : Value) (d : Dk) (w : World) (h : DkI w v d) :
    Calls Tryd.prog 19 #[v] w fun e w' => e = .returned (.bool (deskOk d)) ∧ Below w.heap.size w w' := by
  obtain ⟨A0, c0, A2, c2, A3, c3, rfl, i0, i2, i3⟩ := h.open
  clear h
  obtain ⟨_, _, e1, hm1, hl1, hc1⟩ := i3.cells
  cases e1
  have HC := Lib.hid hc1; clear hc1
  go_enter Tryd.func19, Tryd.ntmps19
  go_wp2_with fail
  obtain ⟨W0, hW0⟩ : ∃ W0, W0 = w.alloc (.cells #[.slice A0 d.now.st.length c0, .int .i64 d.now.step, .slice A2 d.now.word.length c2, .slice A3 d.past.length c3] 28) := ⟨_, rfl⟩
  have t0 : W0.cell? ⟨w.heap.size, 0, none⟩ = some (.slice A0 d.now.st.length c0) := by rw [hW0]; simp
  have t1 : W0.cell? ⟨w.heap.size, 1, none⟩ = some (.int .i64 d.now.step) := by rw [hW0]; simp
  have t2 : W0.cell? ⟨w.heap.size, 2, none⟩ = some (.slice A2 d.now.word.length c2) := by rw [hW0]; simp
  have t3 : W0.cell? ⟨w.heap.size, 3, none⟩ = some (.slice A3 d.past.length c3) := by rw [hW0]; simp
  haveI b0 : Bel w W0 := by rw [hW0]; exact Bel.alloc
  rw [← hW0]
  clear hW0
  have T0 := Lib.hid t0; have T1 := Lib.hid t1; have T2 := Lib.hid t2; have T3 := Lib.hid t3; clear t0 t1 t2 t3
  go_loopw [3] (fun i wr => ∃ k : Nat, k ≤ d.past.length ∧ i = .int .i64 k ∧ Hid (((d.past.drop k).all placeOk && (placeOk d.now && decide ((d.past.length : Int) ≤ 8))) = deskOk d) ∧ Hid (Below W0.heap.size W0 wr)) (fun i _ => d.past.length - (intOf i).toNat)
  case atStart => exact ⟨0, by omega, rfl, rfl, Below.refl _ _⟩
  case round =>
    obtain ⟨k, hk, rfl, hr, hB⟩ := hrel
    haveI : Bel W0 wr := ⟨hB.out⟩
    haveI : Bel w wr := Bel.step (w := w) hB.out
    have u0 := cell_at T0.out (W := wr)
    have u1 := cell_at T1.out (W := wr)
    have u2 := cell_at T2.out (W := wr)
    have u3 := cell_at T3.out (W := wr)
    by_cases hlt : k < d.past.length
    · obtain ⟨b, o, X0, x0, X2, x2, rfl, q0, q1, q2, q3, q4⟩ := HC.out k hlt
      have hd := Lib.hid (past_drop d.past k hlt)
      generalize d.past.getD k z0 = p at *
      replace q0 := cell_at q0 (W := wr)
      replace q1 := cell_at q1 (W := wr)
      replace q2 := cell_at q2 (W := wr)
      go_wp2_with fail
      refine (s_PlaceOk _ p _ (PlI.mk q3.at q4.at)).mono ?_
      rintro e w1 ⟨rfl, hb1⟩
      haveI : Bel W0 w1 := Bel.step (w := W0) hb1
      have HB1 := Lib.hid hb1; clear hb1
      go_wp2
      · have h5 : (!placeOk p) = true := by assumption
        go_ret
        exact ⟨by rw [← hr.out, hd.out, show placeOk p = false by simpa using h5]; rfl, (Bel.step (w := w) (Bel.out : Below W0.heap.size W0 w1)).out⟩
      · have h5 : (!placeOk p) = false := by assumption
        exact ⟨⟨k + 1, by omega, by go_num, by rw [← hr.out, hd.out, show placeOk p = true by simpa using h5]; rfl, Bel.out⟩, by simp [intOf]; omega⟩
    · have hd := Lib.hid (all_end placeOk d.past k hlt)
      go_wp2_with fail
      refine (s_PlaceOk _ d.now _ (PlI.mk i0.at i2.at)).mono ?_
      rintro e w1 ⟨rfl, hb1⟩
      haveI : Bel W0 w1 := Bel.step (w := W0) hb1
      have v3 := cell_at T3.out (W := w1)
      have HB1 := Lib.hid hb1; clear hb1
      go_wp2
      · have h5 : placeOk d.now = true := by assumption
        go_ret
        exact ⟨by rw [← hr.out, hd.out, h5]; rfl, (Bel.step (w := w) (Bel.out : Below W0.heap.size W0 w1)).out⟩
      · have h5 : ¬ placeOk d.now = true := by assumption
        go_ret
        exact ⟨by rw [← hr.out, hd.out, eq_false_of_ne_true h5]; rfl, (Bel.step (w := w) (Bel.out : Below W0.heap.size W0 w1)).out⟩

set_option maxHeartbeats 1000000 in
set_option maxRecDepth 100000 in
theorem i_DeskOk (v : Value) (d : Dk) (w : World) (h : DkI w v d) :
    Calls Tryd.prog 11 #[v] w fun e w' => e = .returned (.bool (deskOk d)) ∧ Below w.heap.size w w' := by
  obtain ⟨A0, c0, A2, c2, A3, c3, rfl, i0, i2, i3⟩ := h.open
  clear h
  obtain ⟨_, _, e1, hm1, hl1, hc1⟩ := i3.cells
  cases e1
  have HC := Lib.hid hc1; clear hc1
  go_enter Tryd.func11, Tryd.ntmps11
  go_wp2_with fail
  obtain ⟨W0, hW0⟩ : ∃ W0, W0 = w.alloc (.cells #[.slice A0 d.now.st.length c0, .int .i64 d.now.step, .slice A2 d.now.word.length c2, .slice A3 d.past.length c3] 28) := ⟨_, rfl⟩
  have t0 : W0.cell? ⟨w.heap.size, 0, none⟩ = some (.slice A0 d.now.st.length c0) := by rw [hW0]; simp
  have t1 : W0.cell? ⟨w.heap.size, 1, none⟩ = some (.int .i64 d.now.step) := by rw [hW0]; simp
  have t2 : W0.cell? ⟨w.heap.size, 2, none⟩ = some (.slice A2 d.now.word.length c2) := by rw [hW0]; simp
  have t3 : W0.cell? ⟨w.heap.size, 3, none⟩ = some (.slice A3 d.past.length c3) := by rw [hW0]; simp
  haveI b0 : Bel w W0 := by rw [hW0]; exact Bel.alloc
  rw [← hW0]
  clear hW0
  have T0 := Lib.hid t0; have T1 := Lib.hid t1; have T2 := Lib.hid t2; have T3 := Lib.hid t3; clear t0 t1 t2 t3
  go_loopw [8] (fun i wr => ∃ k : Nat, k ≤ d.past.length ∧ i = .int .i64 k ∧ Hid (((d.past.drop k).all placeOk && (placeOk d.now && decide ((d.past.length : Int) ≤ 8))) = deskOk d) ∧ Hid (Below W0.heap.size W0 wr)) (fun i _ => d.past.length - (intOf i).toNat)
  case atStart => exact ⟨0, by omega, rfl, rfl, Below.refl _ _⟩
  case round =>
    obtain ⟨k, hk, rfl, hr, hB⟩ := hrel
    haveI : Bel W0 wr := ⟨hB.out⟩
    haveI : Bel w wr := Bel.step (w := w) hB.out
    have u0 := cell_at T0.out (W := wr)
    have u1 := cell_at T1.out (W := wr)
    have u2 := cell_at T2.out (W := wr)
    have u3 := cell_at T3.out (W := wr)
    by_cases hlt : k < d.past.length
    · obtain ⟨b, o, X0, x0, X2, x2, rfl, q0, q1, q2, q3, q4⟩ := HC.out k hlt
      have hd := Lib.hid (past_drop d.past k hlt)
      generalize d.past.getD k z0 = p at *
      replace q0 := cell_at q0 (W := wr)
      replace q1 := cell_at q1 (W := wr)
      replace q2 := cell_at q2 (W := wr)
      go_wp2_with fail
      refine (i_PlaceOk _ p _ (PlI.mk q3.at q4.at)).mono ?_
      rintro e w1 ⟨rfl, hb1⟩
      haveI : Bel W0 w1 := Bel.step (w := W0) hb1
      have HB1 := Lib.hid hb1; clear hb1
      go_wp2
      · have h5 : (!placeOk p) = true := by assumption
        go_ret
        exact ⟨by rw [← hr.out, hd.out, show placeOk p = false by simpa using h5]; rfl, (Bel.step (w := w) (Bel.out : Below W0.heap.size W0 w1)).out⟩
      · have h5 : (!placeOk p) = false := by assumption
        exact ⟨⟨k + 1, by omega, by go_num, by rw [← hr.out, hd.out, show placeOk p = true by simpa using h5]; rfl, Bel.out⟩, by simp [intOf]; omega⟩
    · have hd := Lib.hid (all_end placeOk d.past k hlt)
      go_wp2_with fail
      refine (i_PlaceOk _ d.now _ (PlI.mk i0.at i2.at)).mono ?_
      rintro e w1 ⟨rfl, hb1⟩
      haveI : Bel W0 w1 := Bel.step (w := W0) hb1
      have v3 := cell_at T3.out (W := w1)
      have HB1 := Lib.hid hb1; clear hb1
      go_wp2
      · have h5 : placeOk d.now = true := by assumption
        go_ret
        exact ⟨by rw [← hr.out, hd.out, h5]; rfl, (Bel.step (w := w) (Bel.out : Below W0.heap.size W0 w1)).out⟩
      · have h5 : ¬ placeOk d.now = true := by assumption
        go_ret
        exact ⟨by rw [← hr.out, hd.out, eq_false_of_ne_true h5]; rfl, (Bel.step (w := w) (Bel.out : Below W0.heap.size W0 w1)).out⟩
end Go.Proofs.YtpfncjaclgcbnaaDoor.Ub
