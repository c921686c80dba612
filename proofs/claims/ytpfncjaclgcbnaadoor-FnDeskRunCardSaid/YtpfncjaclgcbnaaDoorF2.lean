/- Contracts of the laws' own equality tests. -/
import Derived.Test.YtpfncjaclgcbnaaDoorF1
set_option linter.unusedVariables false
set_option linter.unusedSimpArgs false
namespace Go.Proofs.YtpfncjaclgcbnaaDoor.Ub
open Go.RowKit

set_option maxHeartbeats 400000 in
theorem l_sameInts (v0 v1 : Value) (a b : List Int) (w : World) (h0 : Ints w v0 a) (h1 : Ints w v1 b) :
    Calls Tryd.prog 81 #[v0, v1] w fun e w' => e = .returned (.bool (sameI a b)) ∧ Below w.heap.size w w' := by
  obtain ⟨A, c, rfl, hm, hl, hc⟩ := h0.cells
  obtain ⟨A1, c1, rfl, hm1, hl1, hc1⟩ := h1.cells
  have HC := Lib.hid hc; have HC1 := Lib.hid hc1; clear hc hc1 h0 h1
  by_cases hn : a.length = b.length
  · have hne : ((a.length : Int) != b.length) = false := by simp [hn]
    have hab : (b.length : Int) ≤ a.length := by omega
    have hba : (a.length : Int) ≤ b.length := by omega
    have HN := Lib.hid hn; clear hn
    go_enter Tryd.func81, Tryd.ntmps81
    go_wp2
    go_loopw [5] (fun i wr => ∃ k : Nat, k ≤ a.length ∧ i = .int .i64 k ∧ Hid (∀ j, j < k → a.getD j 0 = b.getD j 0) ∧ Hid (Below w.heap.size w wr)) (fun i _ => a.length - (intOf i).toNat)
    case atStart => exact ⟨0, by omega, rfl, fun j hj => by omega, Below.refl _ _⟩
    case round =>
      obtain ⟨k, hk, rfl, hr, hB⟩ := hrel
      by_cases hlt : k < a.length
      · obtain ⟨b0, o, rfl, hx⟩ := HC.out k hlt
        obtain ⟨b1, o1, rfl, hx1⟩ := HC1.out k (by omega)
        have g0 := (Ext.of_below hB.out) _ _ hx
        have g1 := (Ext.of_below hB.out) _ _ hx1
        clear hx hx1
        have hk0 : (0 : Int) ≤ k := by omega
        have hk1 : (k : Int) < a.length := by omega
        have hk2 : (k : Int) < b.length := by omega
        by_cases hq : a.getD k 0 = b.getD k 0
        · have HQ := Lib.hid hq
          rw [hq] at g0
          clear hq
          generalize b.getD k 0 = y at g0 g1
          go_wp2_with fail
          go_quiet (fail)
          go_wp2
          refine ⟨⟨k + 1, by omega, by go_num, fun j hj => ?_, hB.out.trans ((below_drewN wr _).mono hB.out.size)⟩, by simp [intOf]; omega⟩
          by_cases e : j = k
          · rw [e]; exact HQ.out
          · exact hr.out j (by omega)
        · have hy : (a.getD k 0 != b.getD k 0) = true := by simpa using hq
          have HQ := Lib.hid hq; clear hq
          generalize hX : a.getD k 0 = x at g0 hy
          generalize hY : b.getD k 0 = y at g1 hy
          have HX := Lib.hid hX; have HY := Lib.hid hY; clear hX hY
          go_wp2_with fail
          go_quiet (fail)
          go_wp2
          go_ret
          refine ⟨?_, hB.out.trans ((below_drewN wr _).mono hB.out.size)⟩
          have e : sameI a b = false := by
            refine eq_false_of_ne_true fun h => HQ.out ?_
            rw [sameI_iff.1 h]
          rw [e]; rfl
      · go_wp2
        go_ret
        refine ⟨?_, hB.out⟩
        have e : sameI a b = true := by
          rw [sameI_iff]
          refine List.ext_getElem HN.out fun j h1 h2 => ?_
          have := hr.out j (by omega)
          simpa [List.getD, h1, h2] using this
        rw [e]; rfl
  · have hne : ((a.length : Int) != b.length) = true := by simp; omega
    have HN := Lib.hid hn; clear hn
    go_enter Tryd.func81, Tryd.ntmps81
    go_wp2
    go_ret
    refine ⟨?_, Below.refl _ _⟩
    have e : sameI a b = false := by
      refine eq_false_of_ne_true fun h => HN.out ?_
      rw [sameI_iff.1 h]
    rw [e]; rfl

theorem l_samePlace (v0 v1 : Value) (p q : Pl) (w : World) (h0 : PlI w v0 p) (h1 : PlI w v1 q) :
    Calls Tryd.prog 44 #[v0, v1] w fun e w' => e = .returned (.bool (sameP p q)) ∧ Below w.heap.size w w' := by
  obtain ⟨A0, c0, A2, c2, rfl, i0, i2⟩ := h0.open
  obtain ⟨B0, d0, B2, d2, rfl, j0, j2⟩ := h1.open
  clear h0 h1
  go_enter Tryd.func44, Tryd.ntmps44
  go_wp2_with fail
  refine (l_sameInts _ _ _ _ _ i0.at j0.at).mono ?_
  rintro e w1 ⟨rfl, hb⟩
  obtain ⟨hc, hf⟩ := bcell hb
  haveI := Bel.step (w := w) hb
  have HB := Lib.hid hb; clear hb
  go_wp2_with fail
  · refine (l_sameInts _ _ _ _ _ i2.at j2.at).mono ?_
    rintro e w2 ⟨rfl, hb⟩
    haveI := Bel.step (w := w) hb
    have k1 : sameI p.st q.st = true := by assumption
    have k2 : p.step = q.step := by assumption
    go_wp2
    go_ret; exact ⟨by simp [sameP, k1, k2], (Bel.out : Below w.heap.size w _)⟩
  · have k1 : sameI p.st q.st = true := by assumption
    have k2 : ¬ p.step = q.step := by assumption
    go_ret; exact ⟨by simp [sameP, k1, k2], (Bel.out : Below w.heap.size w _)⟩
  · have k1 : ¬ sameI p.st q.st = true := by assumption
    go_ret; exact ⟨by simp [sameP, k1], (Bel.out : Below w.heap.size w _)⟩

theorem sameD_no1 {d e : Dk} (h : sameP d.now e.now = false) : sameD d e = false := by simp [sameD, h]
theorem sameD_no2 {d e : Dk} (h : d.past.length ≠ e.past.length) : sameD d e = false := by simp [sameD, h]
theorem sameD_no3 {d e : Dk} (k : Nat) (h : sameP (d.past.getD k z0) (e.past.getD k z0) = false) : sameD d e = false := by
  refine eq_false_of_ne_true fun h2 => ?_
  rw [sameD_iff.1 h2] at h
  simp [sameP_iff.2] at h
theorem sameD_yes {d e : Dk} (h : sameP d.now e.now = true) (hn : d.past.length = e.past.length) (hj : ∀ j, j < d.past.length → d.past.getD j z0 = e.past.getD j z0) : sameD d e = true := by
  rw [sameD_iff]
  refine Dk.ext' (sameP_iff.1 h) (List.ext_getElem hn fun j h1 h2 => ?_)
  have := hj j h1
  simpa [List.getD, h1, h2] using this

set_option maxHeartbeats 1000000 in
set_option maxRecDepth 100000 in
theorem l_sameDesk (v0 v1 : Value) (d e : Dk) (w : World) (h0 : DkI w v0 d) (h1 : DkI w v1 e) :
    Calls Tryd.prog 10 #[v0, v1] w fun x w' => x = .returned (.bool (sameD d e)) ∧ Below w.heap.size w w' := by
  obtain ⟨A0, c0, A2, c2, A3, c3, rfl, i0, i2, i3⟩ := h0.open
  obtain ⟨B0, d0, B2, d2, B3, d3, rfl, j0, j2, j3⟩ := h1.open
  clear h0 h1
  obtain ⟨_, _, e1, hm1, hl1, hc1⟩ := i3.cells
  cases e1
  obtain ⟨_, _, e1, hm2, hl2, hc2⟩ := j3.cells
  cases e1
  have HC1 := Lib.hid hc1; have HC2 := Lib.hid hc2; clear hc1 hc2
  go_enter Tryd.func10, Tryd.ntmps10
  go_wp2_with fail
  refine (l_samePlace _ _ d.now e.now _ (PlI.mk i0.at i2.at) (PlI.mk j0.at j2.at)).mono ?_
  rintro x w1 ⟨rfl, hb⟩
  obtain ⟨hc, hf⟩ := bcell hb
  haveI := Bel.step (w := w) hb
  have t0 : Hid (w1.cell? ⟨w.heap.size, 3, none⟩ = some (.slice A3 d.past.length c3)) := by show _ = _; rw [hc _ _ (by simp; omega)]; simp
  have t1 : Hid (w1.cell? ⟨w.heap.size + 1, 3, none⟩ = some (.slice B3 e.past.length d3)) := by show _ = _; rw [hc _ _ (by simp)]; simp
  have HB := Lib.hid hb; clear hb
  by_cases hp : sameP d.now e.now = true
  · by_cases hn : d.past.length = e.past.length
    · have hne : ((d.past.length : Int) != e.past.length) = false := by simp [hn]
      have hp' : (!sameP d.now e.now) = false := by simp [hp]
      have hab : (e.past.length : Int) ≤ d.past.length := by omega
      have hba : (d.past.length : Int) ≤ e.past.length := by omega
      have HN := Lib.hid hn; have HP := Lib.hid hp; clear hn hp
      go_wp2
      go_loopw [5] (fun i wr => ∃ k : Nat, k ≤ d.past.length ∧ i = .int .i64 k ∧ Hid (∀ j, j < k → d.past.getD j z0 = e.past.getD j z0) ∧ Hid (Below w1.heap.size w1 wr)) (fun i _ => d.past.length - (intOf i).toNat)
      case atStart => exact ⟨0, by omega, rfl, fun j hj => by omega, Below.refl _ _⟩
      case round =>
        obtain ⟨k, hk, rfl, hr, hB⟩ := hrel
        haveI := Bel.step (w := w) hB.out
        haveI : Bel w1 wr := ⟨hB.out⟩
        have s0 := cell_at t0.out (W := wr)
        have s1 := cell_at t1.out (W := wr)
        by_cases hlt : k < d.past.length
        · obtain ⟨b, o, X0, x0, X2, x2, rfl, q0, q1, q2, q3, q4⟩ := HC1.out k hlt
          obtain ⟨b', o', Y0, y0, Y2, y2, rfl, r0, r1, r2, r3, r4⟩ := HC2.out k (by omega)
          have hk0 : (0 : Int) ≤ k := by omega
          have hk1 : (k : Int) < d.past.length := by omega
          have hk2 : (k : Int) < e.past.length := by omega
          generalize hX : d.past.getD k z0 = p at *
          generalize hY : e.past.getD k z0 = q at *
          have HX := Lib.hid hX; have HY := Lib.hid hY; clear hX hY
          replace q0 := cell_at q0 (W := wr)
          replace q1 := cell_at q1 (W := wr)
          replace q2 := cell_at q2 (W := wr)
          replace r0 := cell_at r0 (W := wr)
          replace r1 := cell_at r1 (W := wr)
          replace r2 := cell_at r2 (W := wr)
          go_wp2_with fail
          go_region_held3 (fun w' => w'.cell? ⟨w.heap.size, 3, none⟩ = some (.slice (some ⟨b, o, none⟩) d.past.length c3) ∧ w'.cell? ⟨w.heap.size + 1, 3, none⟩ = some (.slice (some ⟨b', o', none⟩) e.past.length d3) ∧
              w'.cell? ⟨b, o + k * 3, none⟩ = some (.slice X0 p.st.length x0) ∧ w'.cell? ⟨b, o + k * 3 + 1, none⟩ = some (.int .i64 p.step) ∧ w'.cell? ⟨b, o + k * 3 + 2, none⟩ = some (.slice X2 p.word.length x2) ∧
              w'.cell? ⟨b', o' + k * 3, none⟩ = some (.slice Y0 q.st.length y0) ∧ w'.cell? ⟨b', o' + k * 3 + 1, none⟩ = some (.int .i64 q.step) ∧ w'.cell? ⟨b', o' + k * 3 + 2, none⟩ = some (.slice Y2 q.word.length y2)) (first | go_keep | exact ⟨cell_at s0, cell_at s1, cell_at q0, cell_at q1, cell_at q2, cell_at r0, cell_at r1, cell_at r2⟩)
            (first | (go_at_call 44; refine (l_samePlace _ _ p q _ (PlI.mk q3.at q4.at) (PlI.mk r3.at r4.at)).mono ?_; rintro x w2 ⟨rfl, hb2⟩; haveI : Bel wr w2 := Bel.step (w := wr) hb2))
          haveI : Bel w1 w2 := Bel.step (w := w1) (W := wr) (Bel.out : Below wr.heap.size wr w2)
          haveI : Bel w w2 := Bel.step (w := w) (W := wr) (Bel.out : Below wr.heap.size wr w2)
          go_wp2
          · have h5 : (!sameP p q) = true := by assumption
            go_ret
            refine ⟨?_, (Bel.out : Below w.heap.size w _)⟩
            rw [sameD_no3 k (by rw [HX.out, HY.out]; simpa using h5)]; rfl
          · have h5 : (!sameP p q) = false := by assumption
            refine ⟨⟨k + 1, by omega, by go_num, fun j hj => ?_, Bel.out⟩, by simp [intOf]; omega⟩
            by_cases e : j = k
            · rw [e, HX.out, HY.out]; exact sameP_iff.1 (by simpa using h5)
            · exact hr.out j (by omega)
        · go_wp2
          go_ret
          exact ⟨by rw [sameD_yes HP.out HN.out (fun j hj => hr.out j (by omega))]; rfl, (Bel.step (w := w) hB.out).out⟩
    · have hne : ((d.past.length : Int) != e.past.length) = true := by simp; omega
      have hp' : (!sameP d.now e.now) = false := by simp [hp]
      have HN := Lib.hid hn; clear hn hp
      go_wp2
      go_ret
      exact ⟨by rw [sameD_no2 HN.out]; rfl, (Bel.out : Below w.heap.size w _)⟩
  · have hp' : (!sameP d.now e.now) = true := by simp [hp]
    have HP := Lib.hid hp; clear hp
    go_wp2
    go_ret
    exact ⟨by rw [sameD_no1 (eq_false_of_ne_true HP.out)]; rfl, (Bel.out : Below w.heap.size w _)⟩
theorem ints_of_block {w : World} {g : Nat} {cs : Array Value} {t : TypeId} {fr : Nat × Nat} (h : w.heap[g]? = some (.cells cs t fr)) (xs : List Int) (e : cs.toList = nums xs) (hl : xs.length ≤ 100) : Ints w (.slice (some ⟨g, 0, none⟩) xs.length xs.length) xs := by
  refine ⟨by omega, some ⟨g, 0, none⟩, xs.length, rfl, Nat.le_refl _, fun h => (by cases h), fun j hj => ⟨g, 0, rfl, ?_⟩⟩
  rw [Nat.zero_add, cell_of_row w g j cs t fr h]
  have : cs.toList[j]? = some (.int .i64 (xs.getD j 0)) := by rw [e]; simp [nums, hj]
  simpa using this
set_option maxRecDepth 100000 in
theorem l_alive (w : World) : Calls Tryd.prog 12 #[] w fun x w' => x = .returned (.bool true) ∧ Below w.heap.size w w' := by
  have g1 : Ints (w.alloc (.cells #[.int .i64 1] 3)) (.slice (some ⟨w.heap.size, 0, none⟩) 1 1) [1] := ints_of_block (heap_alloc_new w _) [1] rfl (by decide)
  have g2 : Ints ((w.alloc (.cells #[.int .i64 1] 3)).alloc (.cells #[] 3)) (.slice (some ⟨w.heap.size + 1, 0, none⟩) 0 0) [] := by
    have := ints_of_block (heap_alloc_new (w.alloc (.cells #[.int .i64 1] 3)) (.cells #[] 3)) [] rfl (by decide)
    simpa using this
  have h1 : urnOk [1] = true := by decide
  have h2 : urnOk [] = false := by decide
  go_enter Tryd.func12, Tryd.ntmps12
  go_wp2_with fail
  refine (i_UrnOk _ [1] _ g1).mono ?_
  rintro e w1 ⟨rfl, rfl⟩
  go_wp2_with fail
  refine (i_UrnOk _ [] _ g2).mono ?_
  rintro e w1 ⟨rfl, rfl⟩
  go_wp2
  go_ret
  exact ⟨by simp [h2], (Bel.out : Below w.heap.size w _)⟩
end Go.Proofs.YtpfncjaclgcbnaaDoor.Ub
