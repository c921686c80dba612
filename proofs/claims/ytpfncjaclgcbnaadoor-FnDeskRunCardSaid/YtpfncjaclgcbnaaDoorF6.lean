/- Contracts of balls put in. -/
import Derived.Test.YtpfncjaclgcbnaaDoorF5
set_option linter.unusedVariables false
set_option linter.unusedSimpArgs false
namespace Go.Proofs.YtpfncjaclgcbnaaDoor.Ub
open Go.RowKit

theorem putFine_no1 {u : List Int} {c m : Int} (h : urnOk u = false) : putFine u c m = false := by simp [putFine, putOk, h]
theorem putFine_no2 {u : List Int} {c m : Int} (h : inR c 0 ((u.length : Int) - 1) = false) : putFine u c m = false := by simp [putFine, putOk, h]
theorem putFine_no3 {u : List Int} {c m : Int} (h : inR m (-40) 40 = false) : putFine u c m = false := by simp [putFine, putOk, h]
theorem putFine_yes {u : List Int} {c m : Int} (h1 : urnOk u = true) (h2 : inR c 0 ((u.length : Int) - 1) = true) (h3 : inR m (-40) 40 = true) : putFine u c m = urnOk (putRes u c m) := by simp [putFine, putOk, h1, h2, h3]
theorem emptyI (w : World) : OwnI (w.alloc (.cells #[] 3)) w.heap.size (.slice (some ⟨w.heap.size, 0, none⟩) 0 0) [] := World.ownsRow_made w #[] 0 (Nat.le_refl _) (by decide) rfl

set_option maxHeartbeats 1000000 in
set_option maxRecDepth 100000 in
theorem i_PutIn (v0 : Value) (u : List Int) (c m : Int) (w : World) (h0 : Ints w v0 u) :
    Calls Tryd.prog 35 #[v0, .int .i64 c, .int .i64 m] w fun e w' => ∃ v, e = .returned (.tuple #[v, .bool (putFine u c m)]) ∧ OwnI w' w.heap.size v (putList u c m) ∧ Below w.heap.size w w' := by
  obtain ⟨A0, c0, rfl⟩ := h0.form
  by_cases hu : urnOk u = true
  · by_cases hc : inR c 0 ((u.length : Int) - 1) = true
    · by_cases hm : inR m (-40) 40 = true
      · have hu' : (!urnOk u) = false := by rw [hu]; rfl
        have hc' : 0 ≤ c ∧ c ≤ (u.length : Int) - 1 := by simpa [inR] using hc
        have hm' : -40 ≤ m ∧ m ≤ 40 := by simpa [inR] using hm
        obtain ⟨hl1, hl3⟩ := urn_len hu
        have HE := Lib.hid (putFine_yes hu hc hm)
        obtain ⟨hc1, hc2⟩ := hc'
        obtain ⟨hm1, hm2⟩ := hm'
        obtain ⟨k, rfl⟩ := Int.eq_ofNat_of_zero_le hc1
        have hux := urn_at hu k (by omega)
        clear hu hc hm
        go_enter Tryd.func35, Tryd.ntmps35
        go_wp2_with (go_at_call 45; refine (i_UrnOk _ _ _ h0.at).mono ?_; rintro e w' ⟨rfl, rfl⟩)
        refine (i_Clone _ u _ h0.at (by omega)).mono ?_
        rintro e w1 ⟨v, rfl, hO, hb⟩
        obtain ⟨g, cap, e, hg1, hg2⟩ := World.ownsRow.form hO (by omega)
        subst e
        haveI := Bel.step (w := w) hb
        have hy := OwnI.cell hO k (by omega)
        have hf := OwnI.frozen hO k
        have HR : Hid (putRes u k m = u.set k (u.getD k 0 + m)) := by show _ = _; simp [putRes]
        generalize u.getD k 0 = x at hy hux HR
        obtain ⟨hx1, hx2⟩ := hux
        have HO := Lib.hid (OwnI.store hO k (x + m))
        have HB := Lib.hid hb; clear hO hb
        have hk1 : (k : Int) < u.length := by omega
        go_wp2_with (go_at_call 45; refine stop ?_)
        refine go_on ?_
        refine (i_UrnOk _ _ _ HO.out.ints).mono ?_
        rintro e w' ⟨rfl, rfl⟩
        haveI := bel_set (w := w) (W := w1) (p := ⟨g, k, none⟩) hg1 (.int .i64 (x + m))
        go_wp2
        · have h5 : (!urnOk (u.set k (x + m))) = true := by assumption
          have hno : putFine u k m = false := by rw [HE.out, HR.out]; simpa using h5
          have HNO := Lib.hid hno
          go_ret2
          exact ⟨_, by rw [HNO.out]; rfl, by rw [putList_no HNO.out]; exact OwnI.nil _ _, (Bel.out : Below w.heap.size w _)⟩
        · have h5 : (!urnOk (u.set k (x + m))) = false := by assumption
          have hyes : putFine u k m = true := by rw [HE.out, HR.out]; simpa using h5
          have HY := Lib.hid hyes
          go_ret2
          refine ⟨_, by rw [HY.out]; rfl, ?_, (Bel.out : Below w.heap.size w _)⟩
          rw [putList_yes HY.out, HR.out]; exact HO.out
      · have hu' : (!urnOk u) = false := by rw [hu]; rfl
        have hc' : 0 ≤ c ∧ c ≤ (u.length : Int) - 1 := by simpa [inR] using hc
        have hm' : m < -40 ∨ 40 < m := by simp [inR] at hm; omega
        have HNO := Lib.hid (putFine_no3 (u := u) (c := c) (eq_false_of_ne_true hm))
        obtain ⟨hc1, hc2⟩ := hc'
        clear hu hc hm
        go_enter Tryd.func35, Tryd.ntmps35
        rcases hm' with hm' | hm'
        · go_wp2_with (go_at_call 45; refine (i_UrnOk _ _ _ h0.at).mono ?_; rintro e w' ⟨rfl, rfl⟩)
          go_ret2
          exact ⟨_, by rw [HNO.out]; rfl, by rw [putList_no HNO.out]; exact OwnI.nil _ _, (Bel.out : Below w.heap.size w _)⟩
        · go_wp2_with (go_at_call 45; refine (i_UrnOk _ _ _ h0.at).mono ?_; rintro e w' ⟨rfl, rfl⟩)
          go_ret2
          exact ⟨_, by rw [HNO.out]; rfl, by rw [putList_no HNO.out]; exact OwnI.nil _ _, (Bel.out : Below w.heap.size w _)⟩
    · have hu' : (!urnOk u) = false := by rw [hu]; rfl
      have hc' : c < 0 ∨ (u.length : Int) ≤ c := by simp [inR] at hc; omega
      have HNO := Lib.hid (putFine_no2 (m := m) (eq_false_of_ne_true hc))
      clear hu hc
      go_enter Tryd.func35, Tryd.ntmps35
      rcases hc' with hc' | hc'
      · go_wp2_with (go_at_call 45; refine (i_UrnOk _ _ _ h0.at).mono ?_; rintro e w' ⟨rfl, rfl⟩)
        go_ret2
        exact ⟨_, by rw [HNO.out]; rfl, by rw [putList_no HNO.out]; exact OwnI.nil _ _, (Bel.out : Below w.heap.size w _)⟩
      · go_wp2_with (go_at_call 45; refine (i_UrnOk _ _ _ h0.at).mono ?_; rintro e w' ⟨rfl, rfl⟩)
        go_ret2
        exact ⟨_, by rw [HNO.out]; rfl, by rw [putList_no HNO.out]; exact OwnI.nil _ _, (Bel.out : Below w.heap.size w _)⟩
  · have hu' : (!urnOk u) = true := by rw [eq_false_of_ne_true hu]; rfl
    have HNO := Lib.hid (putFine_no1 (c := c) (m := m) (eq_false_of_ne_true hu))
    clear hu
    go_enter Tryd.func35, Tryd.ntmps35
    go_wp2_with (go_at_call 45; refine (i_UrnOk _ _ _ h0.at).mono ?_; rintro e w' ⟨rfl, rfl⟩)
    go_ret2
    exact ⟨_, by rw [HNO.out]; rfl, by rw [putList_no HNO.out]; exact OwnI.nil _ _, (Bel.out : Below w.heap.size w _)⟩

set_option maxHeartbeats 1000000 in
set_option maxRecDepth 100000 in
theorem s_PutIn (v0 : Value) (u : List Int) (c m : Int) (w : World) (h0 : Ints w v0 u) :
    Calls Tryd.prog 74 #[v0, .int .i64 c, .int .i64 m] w fun e w' => ∃ v, e = .returned (.tuple #[v, .bool (putFine u c m)]) ∧ OwnI w' w.heap.size v (putList u c m) ∧ Below w.heap.size w w' := by
  obtain ⟨A0, c0, rfl⟩ := h0.form
  have hm0 : u.length ≤ 9223372036854775807 := h0.1
  by_cases hu : urnOk u = true
  · obtain ⟨hl1, hl3⟩ := urn_len hu
    by_cases hc : inR c 0 ((u.length : Int) - 1) = true
    · by_cases hm : inR m (-40) 40 = true
      · have hu' : (!urnOk u) = false := by rw [hu]; rfl
        have hc0 : (!inR c 0 ((u.length : Int) - 1)) = false := by rw [hc]; rfl
        have hm0' : (!inR m (-40) 40) = false := by rw [hm]; rfl
        have hc' : 0 ≤ c ∧ c ≤ (u.length : Int) - 1 := by simpa [inR] using hc
        have hm' : -40 ≤ m ∧ m ≤ 40 := by simpa [inR] using hm
        have HE := Lib.hid (putFine_yes hu hc hm)
        obtain ⟨hc1, hc2⟩ := hc'
        obtain ⟨hm1, hm2⟩ := hm'
        obtain ⟨k, rfl⟩ := Int.eq_ofNat_of_zero_le hc1
        have hux := urn_at hu k (by omega)
        clear hu hc hm
        go_enter Tryd.func74, Tryd.ntmps74
        go_wp2_with (first
          | (go_at_call 92; refine (s_UrnOk _ _ _ h0.at).mono ?_; rintro e w' ⟨rfl, rfl⟩)
          | (go_at_call 76; refine (s_l1In _ _ _ _).mono ?_; rintro e w' ⟨rfl, rfl⟩)
          | (at_builtin; refine stop ?_))
        refine go_on ?_
        refine app_all rfl _ _ rfl w.heap.size (.slice (some ⟨w.heap.size, 0, none⟩) 0 0) [] rfl (emptyI w) _ u rfl h0.at (by simp; omega) (by simp) ?_
        intro v w1 hO hg _
        rw [List.nil_append] at hO
        have hB1 : Bel w w1 := ⟨Below.app (w := w) (Bel.out) (emptyI w : World.ownsRow _ w.heap.size 3 1 _ 0 []) hg (by simp)⟩
        obtain ⟨g, cap, e, hg1, hg2⟩ := World.ownsRow.form hO (by omega)
        subst e
        have hy := OwnI.cell hO k (by omega)
        have hf := OwnI.frozen hO k
        have HR : Hid (putRes u k m = u.set k (u.getD k 0 + m)) := by show _ = _; simp [putRes]
        generalize u.getD k 0 = x at hy hux HR
        obtain ⟨hx1, hx2⟩ := hux
        have HO := Lib.hid (OwnI.store hO k (x + m))
        clear hO hg
        have hk1 : (k : Int) < u.length := by omega
        go_wp2_with (go_at_call 92; refine stop ?_)
        refine go_on ?_
        refine (s_UrnOk _ _ _ HO.out.ints).mono ?_
        rintro e w' ⟨rfl, rfl⟩
        haveI := bel_set (w := w) (W := w1) (p := ⟨g, k, none⟩) hg1 (.int .i64 (x + m))
        go_wp2
        · have h5 : (!urnOk (u.set k (x + m))) = true := by assumption
          have hno : putFine u k m = false := by rw [HE.out, HR.out]; simpa using h5
          have HNO := Lib.hid hno
          have HEM := Lib.hid (emptyI (w1.setCell ⟨g, k, none⟩ (.int .i64 (x + m))))
          have hsz : Hid (w.heap.size ≤ w1.heap.size) := hB1.out.size
          go_ret2
          exact ⟨_, by rw [HNO.out]; rfl, by rw [putList_no HNO.out]; exact OwnI.mono (by simpa using HEM.out) hsz.out, (Bel.out : Below w.heap.size w _)⟩
        · have h5 : (!urnOk (u.set k (x + m))) = false := by assumption
          have hyes : putFine u k m = true := by rw [HE.out, HR.out]; simpa using h5
          have HY := Lib.hid hyes
          go_ret2
          refine ⟨_, by rw [HY.out]; rfl, ?_, (Bel.out : Below w.heap.size w _)⟩
          rw [putList_yes HY.out, HR.out]; exact HO.out
      · have hu' : (!urnOk u) = false := by rw [hu]; rfl
        have hc0 : (!inR c 0 ((u.length : Int) - 1)) = false := by rw [hc]; rfl
        have hm0' : (!inR m (-40) 40) = true := by rw [eq_false_of_ne_true hm]; rfl
        have HNO := Lib.hid (putFine_no3 (u := u) (c := c) (eq_false_of_ne_true hm))
        clear hu hc hm
        go_enter Tryd.func74, Tryd.ntmps74
        go_wp2_with (first
          | (go_at_call 92; refine (s_UrnOk _ _ _ h0.at).mono ?_; rintro e w' ⟨rfl, rfl⟩)
          | (go_at_call 76; refine (s_l1In _ _ _ _).mono ?_; rintro e w' ⟨rfl, rfl⟩))
        go_ret2
        exact ⟨_, by rw [HNO.out]; rfl, by rw [putList_no HNO.out]; exact emptyI w, (Bel.out : Below w.heap.size w _)⟩
    · have hu' : (!urnOk u) = false := by rw [hu]; rfl
      have hc0 : (!inR c 0 ((u.length : Int) - 1)) = true := by rw [eq_false_of_ne_true hc]; rfl
      have HNO := Lib.hid (putFine_no2 (m := m) (eq_false_of_ne_true hc))
      clear hu hc
      go_enter Tryd.func74, Tryd.ntmps74
      go_wp2_with (first
        | (go_at_call 92; refine (s_UrnOk _ _ _ h0.at).mono ?_; rintro e w' ⟨rfl, rfl⟩)
        | (go_at_call 76; refine (s_l1In _ _ _ _).mono ?_; rintro e w' ⟨rfl, rfl⟩))
      go_ret2
      exact ⟨_, by rw [HNO.out]; rfl, by rw [putList_no HNO.out]; exact emptyI w, (Bel.out : Below w.heap.size w _)⟩
  · have hu' : (!urnOk u) = true := by rw [eq_false_of_ne_true hu]; rfl
    have HNO := Lib.hid (putFine_no1 (c := c) (m := m) (eq_false_of_ne_true hu))
    clear hu
    go_enter Tryd.func74, Tryd.ntmps74
    go_wp2_with (go_at_call 92; refine (s_UrnOk _ _ _ h0.at).mono ?_; rintro e w' ⟨rfl, rfl⟩)
    go_ret2
    exact ⟨_, by rw [HNO.out]; rfl, by rw [putList_no HNO.out]; exact emptyI w, (Bel.out : Below w.heap.size w _)⟩
end Go.Proofs.YtpfncjaclgcbnaaDoor.Ub
