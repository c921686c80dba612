/- Contracts of deeds, one after the other, both sides. -/
import Derived.Test.YtpfncjaclgcbnaaDoorR2
import Derived.Test.YtpfncjaclgcbnaaDoorF5
set_option linter.unusedVariables false
set_option linter.unusedSimpArgs false
namespace Go.Proofs.YtpfncjaclgcbnaaDoor.Ub
open Go.RowKit Go.Proofs.YtpfncjaclgcbnaaDoorW

def runOk (d : Dk) (l : List Dd) : Bool := deskOk d && decide (l.length ≤ 40)
def runD (d : Dk) (l : List Dd) : Dk := match runOk d l with
  | true => runDesk d l
  | false => zd
def runN (d : Dk) (l : List Dd) : Nat := match runOk d l with
  | true => runMany d l
  | false => 0
theorem run_ok {d : Dk} {l : List Dd} (h : runOk d l = true) : runD d l = runDesk d l ∧ runN d l = runMany d l := by simp [runD, runN, h]
theorem run_not {d : Dk} {l : List Dd} (h : runOk d l = false) : runD d l = zd ∧ runN d l = 0 := by simp [runD, runN, h]
theorem okI_isD {d : Dk} {b : Bool} (h : deskOk d = b) (v : Value) (w : World) (h0 : DkI w v d) :
    Calls Tryd.prog 11 #[v] w fun e w' => e = .returned (.bool b) ∧ Below w.heap.size w w' := by
  have := i_DeskOk v d w h0
  rw [h] at this; exact this
theorem okS_isD {d : Dk} {b : Bool} (h : deskOk d = b) (v : Value) (w : World) (h0 : DkI w v d) :
    Calls Tryd.prog 19 #[v] w fun e w' => e = .returned (.bool b) ∧ Below w.heap.size w w' := by
  have := s_DeskOk v d w h0
  rw [h] at this; exact this

set_option maxHeartbeats 2000000 in
set_option maxRecDepth 100000 in
theorem i_DeskRun (v vl : Value) (d : Dk) (l : List Dd) (w : World) (h : DkI w v d) (hl : Dds w vl l) (he : Env w) :
    Calls Tryd.prog 17 #[v, vl] w fun e w' => ∃ v', e = .returned (.tuple #[v', .int .i64 (runN d l)]) ∧ (∃ f, DkW w' w.heap.size w'.heap.size f v' (runD d l)) ∧ Below w.heap.size w w' := by
  obtain ⟨A0, c0, A2, c2, A3, c3, rfl, i0, i2, i3⟩ := h.open
  have HL := Lib.hid hl
  obtain ⟨hlm, A, cl, rfl, hlc, _⟩ := hl
  have HEN := Lib.hid he
  clear he
  clear h
  obtain ⟨ok, hok⟩ : ∃ ok, deskOk d = ok := ⟨_, rfl⟩
  have HOK := Lib.hid (okI_isD hok)
  cases ok with
  | false =>
    have HN := Lib.hid (run_not (d := d) (l := l) (by simp [runOk, hok]))
    clear hok
    obtain ⟨W0, hW0⟩ : ∃ W0, W0 = (w.alloc (.cells #[.slice A0 d.now.st.length c0, .int .i64 d.now.step, .slice A2 d.now.word.length c2, .slice A3 d.past.length c3] 28)).alloc (.cells #[.slice none 0 0, .int .i64 0, .slice none 0 0, .slice none 0 0] 28) := ⟨_, rfl⟩
    have hb0 : Below w.heap.size w W0 := by rw [hW0]; exact ((Below.refl _ _).alloc (Nat.le_refl _) _).alloc (by simp) _
    have BX : W0.heap[w.heap.size]? = some (.cells #[.slice A0 d.now.st.length c0, .int .i64 d.now.step, .slice A2 d.now.word.length c2, .slice A3 d.past.length c3] 28 (0, 0)) := by rw [hW0]; exact (heap_alloc_old _ _ (by simp)).trans (heap_alloc_new w _)
    have BR : W0.heap[w.heap.size + 1]? = some (.cells #[.slice none 0 0, .int .i64 0, .slice none 0 0, .slice none 0 0] 28 (0, 0)) := by rw [hW0]; simpa using heap_alloc_new (w.alloc (.cells #[.slice A0 d.now.st.length c0, .int .i64 d.now.step, .slice A2 d.now.word.length c2, .slice A3 d.past.length c3] 28)) _
    haveI b0 : Bel w W0 := ⟨hb0⟩
    have x0 := block_cell BX 0 rfl
    have x1 := block_cell BX 1 rfl
    have x2 := block_cell BX 2 rfl
    have x3 := block_cell BX 3 rfl
    have HZ0 := Lib.hid (show w.heap.size + 2 ≤ W0.heap.size by rw [hW0]; simp)
    go_enter Tryd.func17, Tryd.ntmps17
    go_upto_region 1 with (fail)
    rw [← hW0]
    clear hW0 hb0
    go_wp2_with fail
    refine (HOK.out _ _ (DkI.mk i0.at i2.at i3.at)).mono ?_
    rintro e w1 ⟨rfl, hb1⟩
    haveI b01 : Bel W0 w1 := Bel.step (w := W0) hb1
    haveI bw1 : Bel w w1 := Bel.step (w := w) b01.out
    have BX1 := block_at (W := w1) BX
    have BR1 := block_at (W := w1) BR
    clear x0 x1 x2 x3 BX BR hb1
    have HB1 := Lib.hid bw1.out
    have r0 := block_cell BR1 0 rfl
    have r1 := block_cell BR1 1 rfl
    have r2 := block_cell BR1 2 rfl
    have r3 := block_cell BR1 3 rfl
    have f0 := block_frozen BR1 0
    have f1 := block_frozen BR1 1
    have f2 := block_frozen BR1 2
    have f3 := block_frozen BR1 3
    have HB := Lib.hid (below_set4 HB1.out (by omega : w.heap.size ≤ w.heap.size + 1) (.slice none 0 0) (.int .i64 0) (.slice none 0 0) (.slice none 0 0))
    clear BX1 BR1
    go_wp2
    exact bodyPost_ret (v := .tuple #[.agg #[.slice none 0 0, .int .i64 0, .slice none 0 0, .slice none 0 0], .int .i64 0]) (by simp [results, Tryd.results17, go_sem, r0, r1, r2, r3]) rfl ⟨_, by rw [HN.out.2]; rfl, by rw [HN.out.1]; exact ⟨_, DkW.nil _ _ _⟩, HB.out⟩
  | true =>
    by_cases h40 : 40 < l.length
    · have HN := Lib.hid (run_not (d := d) (l := l) (by simp [runOk]; omega))
      clear hok
      obtain ⟨W0, hW0⟩ : ∃ W0, W0 = (w.alloc (.cells #[.slice A0 d.now.st.length c0, .int .i64 d.now.step, .slice A2 d.now.word.length c2, .slice A3 d.past.length c3] 28)).alloc (.cells #[.slice none 0 0, .int .i64 0, .slice none 0 0, .slice none 0 0] 28) := ⟨_, rfl⟩
      have hb0 : Below w.heap.size w W0 := by rw [hW0]; exact ((Below.refl _ _).alloc (Nat.le_refl _) _).alloc (by simp) _
      have BX : W0.heap[w.heap.size]? = some (.cells #[.slice A0 d.now.st.length c0, .int .i64 d.now.step, .slice A2 d.now.word.length c2, .slice A3 d.past.length c3] 28 (0, 0)) := by rw [hW0]; exact (heap_alloc_old _ _ (by simp)).trans (heap_alloc_new w _)
      have BR : W0.heap[w.heap.size + 1]? = some (.cells #[.slice none 0 0, .int .i64 0, .slice none 0 0, .slice none 0 0] 28 (0, 0)) := by rw [hW0]; simpa using heap_alloc_new (w.alloc (.cells #[.slice A0 d.now.st.length c0, .int .i64 d.now.step, .slice A2 d.now.word.length c2, .slice A3 d.past.length c3] 28)) _
      haveI b0 : Bel w W0 := ⟨hb0⟩
      have x0 := block_cell BX 0 rfl
      have x1 := block_cell BX 1 rfl
      have x2 := block_cell BX 2 rfl
      have x3 := block_cell BX 3 rfl
      have HZ0 := Lib.hid (show w.heap.size + 2 ≤ W0.heap.size by rw [hW0]; simp)
      go_enter Tryd.func17, Tryd.ntmps17
      go_upto_region 1 with (fail)
      rw [← hW0]
      clear hW0 hb0
      go_wp2_with fail
      refine (HOK.out _ _ (DkI.mk i0.at i2.at i3.at)).mono ?_
      rintro e w1 ⟨rfl, hb1⟩
      haveI b01 : Bel W0 w1 := Bel.step (w := W0) hb1
      haveI bw1 : Bel w w1 := Bel.step (w := w) b01.out
      have BX1 := block_at (W := w1) BX
      have BR1 := block_at (W := w1) BR
      clear x0 x1 x2 x3 BX BR hb1
      have HB1 := Lib.hid bw1.out
      have h40i : (40 : Int) < l.length := by omega
      have r0 := block_cell BR1 0 rfl
      have r1 := block_cell BR1 1 rfl
      have r2 := block_cell BR1 2 rfl
      have r3 := block_cell BR1 3 rfl
      have f0 := block_frozen BR1 0
      have f1 := block_frozen BR1 1
      have f2 := block_frozen BR1 2
      have f3 := block_frozen BR1 3
      have HB := Lib.hid (below_set4 HB1.out (by omega : w.heap.size ≤ w.heap.size + 1) (.slice none 0 0) (.int .i64 0) (.slice none 0 0) (.slice none 0 0))
      clear BX1 BR1
      go_wp2
      exact bodyPost_ret (v := .tuple #[.agg #[.slice none 0 0, .int .i64 0, .slice none 0 0, .slice none 0 0], .int .i64 0]) (by simp [results, Tryd.results17, go_sem, r0, r1, r2, r3]) rfl ⟨_, by rw [HN.out.2]; rfl, by rw [HN.out.1]; exact ⟨_, DkW.nil _ _ _⟩, HB.out⟩
    · have HN := Lib.hid (run_ok (d := d) (l := l) (by simp [runOk, hok]; omega))
      obtain ⟨s1, s2, s3, s4⟩ := desk_small hok
      have HSM := Lib.hid s4
      have HS1 := Lib.hid s1; have HS2 := Lib.hid s2; have HS3 := Lib.hid s3
      clear hok s1 s2 s3 s4
      obtain ⟨W0, hW0⟩ : ∃ W0, W0 = (w.alloc (.cells #[.slice A0 d.now.st.length c0, .int .i64 d.now.step, .slice A2 d.now.word.length c2, .slice A3 d.past.length c3] 28)).alloc (.cells #[.slice none 0 0, .int .i64 0, .slice none 0 0, .slice none 0 0] 28) := ⟨_, rfl⟩
      have hb0 : Below w.heap.size w W0 := by rw [hW0]; exact ((Below.refl _ _).alloc (Nat.le_refl _) _).alloc (by simp) _
      have BX : W0.heap[w.heap.size]? = some (.cells #[.slice A0 d.now.st.length c0, .int .i64 d.now.step, .slice A2 d.now.word.length c2, .slice A3 d.past.length c3] 28 (0, 0)) := by rw [hW0]; exact (heap_alloc_old _ _ (by simp)).trans (heap_alloc_new w _)
      have BR : W0.heap[w.heap.size + 1]? = some (.cells #[.slice none 0 0, .int .i64 0, .slice none 0 0, .slice none 0 0] 28 (0, 0)) := by rw [hW0]; simpa using heap_alloc_new (w.alloc (.cells #[.slice A0 d.now.st.length c0, .int .i64 d.now.step, .slice A2 d.now.word.length c2, .slice A3 d.past.length c3] 28)) _
      haveI b0 : Bel w W0 := ⟨hb0⟩
      have x0 := block_cell BX 0 rfl
      have x1 := block_cell BX 1 rfl
      have x2 := block_cell BX 2 rfl
      have x3 := block_cell BX 3 rfl
      have HZ0 := Lib.hid (show w.heap.size + 2 ≤ W0.heap.size by rw [hW0]; simp)
      go_enter Tryd.func17, Tryd.ntmps17
      go_upto_region 1 with (fail)
      rw [← hW0]
      clear hW0 hb0
      go_wp2_with fail
      refine (HOK.out _ _ (DkI.mk i0.at i2.at i3.at)).mono ?_
      rintro e w1 ⟨rfl, hb1⟩
      haveI b01 : Bel W0 w1 := Bel.step (w := W0) hb1
      haveI bw1 : Bel w w1 := Bel.step (w := w) b01.out
      have BX1 := block_at (W := w1) BX
      have BR1 := block_at (W := w1) BR
      clear x0 x1 x2 x3 BX BR hb1
      have HB1 := Lib.hid bw1.out
      have h40i : ¬ (40 : Int) < l.length := by omega
      have x0 := block_cell BX1 0 rfl
      have x1 := block_cell BX1 1 rfl
      have x2 := block_cell BX1 2 rfl
      have x3 := block_cell BX1 3 rfl
      have hs1 := HS1.out; have hs2 := HS2.out; have hs3 := HS3.out
      go_wp2_with fail
      refine (i_doAll _ _ d l _ (DkI.mk i0.at i2.at i3.at) HL.out.at HEN.out.at (by omega) (by omega) (by omega) (fun j hj => by have := HSM.out j hj; omega)).mono ?_
      rintro e w2 ⟨v2, rfl, ⟨f, hX⟩, hb2⟩
      obtain ⟨X0, x0', X2, x2', X3, x3', rfl⟩ : ∃ X0 x0 X2 x2 X3 x3, v2 = .agg #[.slice X0 (runDesk d l).now.st.length x0, .int .i64 (runDesk d l).now.step, .slice X2 (runDesk d l).now.word.length x2, .slice X3 (runDesk d l).past.length x3] := by
        obtain ⟨A0, c0, A2, c2, A3, c3, e, _⟩ := hX.dk.open
        exact ⟨_, _, _, _, _, _, e⟩
      haveI b12 : Bel w1 w2 := Bel.step (w := w1) hb2
      haveI bw2 : Bel w w2 := Bel.step (w := w) b12.out
      have BR2 := block_at (W := w2) BR1
      have HF := Lib.hid (((hX.set4 BR2 (by decide) (by decide) (.slice X0 (runDesk d l).now.st.length x0') (.int .i64 (runDesk d l).now.step) (.slice X2 (runDesk d l).now.word.length x2') (.slice X3 (runDesk d l).past.length x3')).lo (lo' := w.heap.size) bw1.out.size).hi (hi' := (set4 w2 (w.heap.size + 1) (.slice X0 (runDesk d l).now.st.length x0') (.int .i64 (runDesk d l).now.step) (.slice X2 (runDesk d l).now.word.length x2') (.slice X3 (runDesk d l).past.length x3')).heap.size) (by rw [size_set4]; exact Nat.le_refl _))
      have HB := Lib.hid (below_set4 bw2.out (by omega : w.heap.size ≤ w.heap.size + 1) (.slice X0 (runDesk d l).now.st.length x0') (.int .i64 (runDesk d l).now.step) (.slice X2 (runDesk d l).now.word.length x2') (.slice X3 (runDesk d l).past.length x3'))
      have r0 := block_cell BR2 0 rfl
      have r1 := block_cell BR2 1 rfl
      have r2 := block_cell BR2 2 rfl
      have r3 := block_cell BR2 3 rfl
      have f0 := block_frozen BR2 0
      have f1 := block_frozen BR2 1
      have f2 := block_frozen BR2 2
      have f3 := block_frozen BR2 3
      clear x0 x1 x2 x3 BX1 BR1 BR2 hX hb2 hs1 hs2 hs3
      go_wp2
      exact bodyPost_ret (v := .tuple #[.agg #[.slice X0 (runDesk d l).now.st.length x0', .int .i64 (runDesk d l).now.step, .slice X2 (runDesk d l).now.word.length x2', .slice X3 (runDesk d l).past.length x3'], .int .i64 (runMany d l)]) (by simp [results, Tryd.results17, go_sem, r0, r1, r2, r3]) rfl ⟨_, by rw [HN.out.2], by rw [HN.out.1]; exact ⟨f, HF.out⟩, HB.out⟩

set_option maxHeartbeats 2000000 in
set_option maxRecDepth 100000 in
theorem s_DeskRun (v vl : Value) (d : Dk) (l : List Dd) (w : World) (h : DkI w v d) (hl : Dds w vl l) :
    Calls Tryd.prog 18 #[v, vl] w fun e w' => ∃ v', e = .returned (.tuple #[v', .int .i64 (runN d l)]) ∧ DkS w' w.heap.size v' (runD d l) ∧ Below w.heap.size w w' := by
  obtain ⟨A0, c0, A2, c2, A3, c3, rfl, i0, i2, i3⟩ := h.open
  have HL := Lib.hid hl
  obtain ⟨hlm, A, cl, rfl, hlc, _⟩ := hl
  skip
  skip
  clear h
  obtain ⟨ok, hok⟩ : ∃ ok, deskOk d = ok := ⟨_, rfl⟩
  have HOK := Lib.hid (okS_isD hok)
  cases ok with
  | false =>
    have HN := Lib.hid (run_not (d := d) (l := l) (by simp [runOk, hok]))
    clear hok
    obtain ⟨W0, hW0⟩ : ∃ W0, W0 = (w.alloc (.cells #[.slice A0 d.now.st.length c0, .int .i64 d.now.step, .slice A2 d.now.word.length c2, .slice A3 d.past.length c3] 28)).alloc (.cells #[.slice none 0 0, .int .i64 0, .slice none 0 0, .slice none 0 0] 28) := ⟨_, rfl⟩
    have hb0 : Below w.heap.size w W0 := by rw [hW0]; exact ((Below.refl _ _).alloc (Nat.le_refl _) _).alloc (by simp) _
    have BX : W0.heap[w.heap.size]? = some (.cells #[.slice A0 d.now.st.length c0, .int .i64 d.now.step, .slice A2 d.now.word.length c2, .slice A3 d.past.length c3] 28 (0, 0)) := by rw [hW0]; exact (heap_alloc_old _ _ (by simp)).trans (heap_alloc_new w _)
    have BR : W0.heap[w.heap.size + 1]? = some (.cells #[.slice none 0 0, .int .i64 0, .slice none 0 0, .slice none 0 0] 28 (0, 0)) := by rw [hW0]; simpa using heap_alloc_new (w.alloc (.cells #[.slice A0 d.now.st.length c0, .int .i64 d.now.step, .slice A2 d.now.word.length c2, .slice A3 d.past.length c3] 28)) _
    haveI b0 : Bel w W0 := ⟨hb0⟩
    have x0 := block_cell BX 0 rfl
    have x1 := block_cell BX 1 rfl
    have x2 := block_cell BX 2 rfl
    have x3 := block_cell BX 3 rfl
    have HZ0 := Lib.hid (show w.heap.size + 2 ≤ W0.heap.size by rw [hW0]; simp)
    go_enter Tryd.func18, Tryd.ntmps18
    go_upto_region 1 with (fail)
    rw [← hW0]
    clear hW0 hb0
    go_wp2_with fail
    refine (HOK.out _ _ (DkI.mk i0.at i2.at i3.at)).mono ?_
    rintro e w1 ⟨rfl, hb1⟩
    haveI b01 : Bel W0 w1 := Bel.step (w := W0) hb1
    haveI bw1 : Bel w w1 := Bel.step (w := w) b01.out
    have BX1 := block_at (W := w1) BX
    have BR1 := block_at (W := w1) BR
    clear x0 x1 x2 x3 BX BR hb1
    have HB1 := Lib.hid bw1.out
    have r0 := block_cell BR1 0 rfl
    have r1 := block_cell BR1 1 rfl
    have r2 := block_cell BR1 2 rfl
    have r3 := block_cell BR1 3 rfl
    have f0 := block_frozen BR1 0
    have f1 := block_frozen BR1 1
    have f2 := block_frozen BR1 2
    have f3 := block_frozen BR1 3
    have HB := Lib.hid (below_set4 HB1.out (by omega : w.heap.size ≤ w.heap.size + 1) (.slice none 0 0) (.int .i64 0) (.slice none 0 0) (.slice none 0 0))
    clear BX1 BR1
    go_wp2
    exact bodyPost_ret (v := .tuple #[.agg #[.slice none 0 0, .int .i64 0, .slice none 0 0, .slice none 0 0], .int .i64 0]) (by simp [results, Tryd.results18, go_sem, r0, r1, r2, r3]) rfl ⟨_, by rw [HN.out.2]; rfl, by rw [HN.out.1]; exact DkS.nil _ _, HB.out⟩
  | true =>
    by_cases h40 : 40 < l.length
    · have HN := Lib.hid (run_not (d := d) (l := l) (by simp [runOk]; omega))
      clear hok
      obtain ⟨W0, hW0⟩ : ∃ W0, W0 = (w.alloc (.cells #[.slice A0 d.now.st.length c0, .int .i64 d.now.step, .slice A2 d.now.word.length c2, .slice A3 d.past.length c3] 28)).alloc (.cells #[.slice none 0 0, .int .i64 0, .slice none 0 0, .slice none 0 0] 28) := ⟨_, rfl⟩
      have hb0 : Below w.heap.size w W0 := by rw [hW0]; exact ((Below.refl _ _).alloc (Nat.le_refl _) _).alloc (by simp) _
      have BX : W0.heap[w.heap.size]? = some (.cells #[.slice A0 d.now.st.length c0, .int .i64 d.now.step, .slice A2 d.now.word.length c2, .slice A3 d.past.length c3] 28 (0, 0)) := by rw [hW0]; exact (heap_alloc_old _ _ (by simp)).trans (heap_alloc_new w _)
      have BR : W0.heap[w.heap.size + 1]? = some (.cells #[.slice none 0 0, .int .i64 0, .slice none 0 0, .slice none 0 0] 28 (0, 0)) := by rw [hW0]; simpa using heap_alloc_new (w.alloc (.cells #[.slice A0 d.now.st.length c0, .int .i64 d.now.step, .slice A2 d.now.word.length c2, .slice A3 d.past.length c3] 28)) _
      haveI b0 : Bel w W0 := ⟨hb0⟩
      have x0 := block_cell BX 0 rfl
      have x1 := block_cell BX 1 rfl
      have x2 := block_cell BX 2 rfl
      have x3 := block_cell BX 3 rfl
      have HZ0 := Lib.hid (show w.heap.size + 2 ≤ W0.heap.size by rw [hW0]; simp)
      go_enter Tryd.func18, Tryd.ntmps18
      go_upto_region 1 with (fail)
      rw [← hW0]
      clear hW0 hb0
      go_wp2_with fail
      refine (HOK.out _ _ (DkI.mk i0.at i2.at i3.at)).mono ?_
      rintro e w1 ⟨rfl, hb1⟩
      haveI b01 : Bel W0 w1 := Bel.step (w := W0) hb1
      haveI bw1 : Bel w w1 := Bel.step (w := w) b01.out
      have BX1 := block_at (W := w1) BX
      have BR1 := block_at (W := w1) BR
      clear x0 x1 x2 x3 BX BR hb1
      have HB1 := Lib.hid bw1.out
      have h40i : (40 : Int) < l.length := by omega
      have r0 := block_cell BR1 0 rfl
      have r1 := block_cell BR1 1 rfl
      have r2 := block_cell BR1 2 rfl
      have r3 := block_cell BR1 3 rfl
      have f0 := block_frozen BR1 0
      have f1 := block_frozen BR1 1
      have f2 := block_frozen BR1 2
      have f3 := block_frozen BR1 3
      have HB := Lib.hid (below_set4 HB1.out (by omega : w.heap.size ≤ w.heap.size + 1) (.slice none 0 0) (.int .i64 0) (.slice none 0 0) (.slice none 0 0))
      clear BX1 BR1
      go_wp2
      exact bodyPost_ret (v := .tuple #[.agg #[.slice none 0 0, .int .i64 0, .slice none 0 0, .slice none 0 0], .int .i64 0]) (by simp [results, Tryd.results18, go_sem, r0, r1, r2, r3]) rfl ⟨_, by rw [HN.out.2]; rfl, by rw [HN.out.1]; exact DkS.nil _ _, HB.out⟩
    · have HN := Lib.hid (run_ok (d := d) (l := l) (by simp [runOk, hok]; omega))
      obtain ⟨s1, s2, s3, s4⟩ := desk_small hok
      have HSM := Lib.hid s4
      have HS1 := Lib.hid s1; have HS2 := Lib.hid s2; have HS3 := Lib.hid s3
      clear hok s1 s2 s3 s4
      obtain ⟨W0, hW0⟩ : ∃ W0, W0 = (w.alloc (.cells #[.slice A0 d.now.st.length c0, .int .i64 d.now.step, .slice A2 d.now.word.length c2, .slice A3 d.past.length c3] 28)).alloc (.cells #[.slice none 0 0, .int .i64 0, .slice none 0 0, .slice none 0 0] 28) := ⟨_, rfl⟩
      have hb0 : Below w.heap.size w W0 := by rw [hW0]; exact ((Below.refl _ _).alloc (Nat.le_refl _) _).alloc (by simp) _
      have BX : W0.heap[w.heap.size]? = some (.cells #[.slice A0 d.now.st.length c0, .int .i64 d.now.step, .slice A2 d.now.word.length c2, .slice A3 d.past.length c3] 28 (0, 0)) := by rw [hW0]; exact (heap_alloc_old _ _ (by simp)).trans (heap_alloc_new w _)
      have BR : W0.heap[w.heap.size + 1]? = some (.cells #[.slice none 0 0, .int .i64 0, .slice none 0 0, .slice none 0 0] 28 (0, 0)) := by rw [hW0]; simpa using heap_alloc_new (w.alloc (.cells #[.slice A0 d.now.st.length c0, .int .i64 d.now.step, .slice A2 d.now.word.length c2, .slice A3 d.past.length c3] 28)) _
      haveI b0 : Bel w W0 := ⟨hb0⟩
      have x0 := block_cell BX 0 rfl
      have x1 := block_cell BX 1 rfl
      have x2 := block_cell BX 2 rfl
      have x3 := block_cell BX 3 rfl
      have HZ0 := Lib.hid (show w.heap.size + 2 ≤ W0.heap.size by rw [hW0]; simp)
      go_enter Tryd.func18, Tryd.ntmps18
      go_upto_region 1 with (fail)
      rw [← hW0]
      clear hW0 hb0
      go_wp2_with fail
      refine (HOK.out _ _ (DkI.mk i0.at i2.at i3.at)).mono ?_
      rintro e w1 ⟨rfl, hb1⟩
      haveI b01 : Bel W0 w1 := Bel.step (w := W0) hb1
      haveI bw1 : Bel w w1 := Bel.step (w := w) b01.out
      have BX1 := block_at (W := w1) BX
      have BR1 := block_at (W := w1) BR
      clear x0 x1 x2 x3 BX BR hb1
      have HB1 := Lib.hid bw1.out
      have h40i : ¬ (40 : Int) < l.length := by omega
      have x0 := block_cell BX1 0 rfl
      have x1 := block_cell BX1 1 rfl
      have x2 := block_cell BX1 2 rfl
      have x3 := block_cell BX1 3 rfl
      have hs1 := HS1.out; have hs2 := HS2.out; have hs3 := HS3.out
      go_wp2_with fail
      refine (s_l15Run _ _ d l _ (DkI.mk i0.at i2.at i3.at) HL.out.at (by omega) (by omega) (by omega) (fun j hj => by have := HSM.out j hj; omega)).mono ?_
      rintro e w2 ⟨v2, rfl, hX, hb2⟩
      obtain ⟨X0, x0', X2, x2', X3, x3', rfl⟩ : ∃ X0 x0 X2 x2 X3 x3, v2 = .agg #[.slice X0 (runDesk d l).now.st.length x0, .int .i64 (runDesk d l).now.step, .slice X2 (runDesk d l).now.word.length x2, .slice X3 (runDesk d l).past.length x3] := by
        obtain ⟨A0, c0, A2, c2, A3, c3, e, _⟩ := hX.dk.open
        exact ⟨_, _, _, _, _, _, e⟩
      haveI b12 : Bel w1 w2 := Bel.step (w := w1) hb2
      haveI bw2 : Bel w w2 := Bel.step (w := w) b12.out
      have BR2 := block_at (W := w2) BR1
      have HF := Lib.hid (show DkS (set4 w2 (w.heap.size + 1) (.slice X0 (runDesk d l).now.st.length x0') (.int .i64 (runDesk d l).now.step) (.slice X2 (runDesk d l).now.word.length x2') (.slice X3 (runDesk d l).past.length x3')) w.heap.size (.agg #[.slice X0 (runDesk d l).now.st.length x0', .int .i64 (runDesk d l).now.step, .slice X2 (runDesk d l).now.word.length x2', .slice X3 (runDesk d l).past.length x3']) (runDesk d l) from fun W hW => (hX.rd.set4 (g := w.heap.size + 1) (.inl (by have := HZ0.out; have := b01.out.size; omega)) (.slice X0 (runDesk d l).now.st.length x0') (.int .i64 (runDesk d l).now.step) (.slice X2 (runDesk d l).now.word.length x2') (.slice X3 (runDesk d l).past.length x3')) W (fun k a b => hW k (by have := bw1.out.size; omega) (by rw [size_set4]; exact b)))
      have HB := Lib.hid (below_set4 bw2.out (by omega : w.heap.size ≤ w.heap.size + 1) (.slice X0 (runDesk d l).now.st.length x0') (.int .i64 (runDesk d l).now.step) (.slice X2 (runDesk d l).now.word.length x2') (.slice X3 (runDesk d l).past.length x3'))
      have r0 := block_cell BR2 0 rfl
      have r1 := block_cell BR2 1 rfl
      have r2 := block_cell BR2 2 rfl
      have r3 := block_cell BR2 3 rfl
      have f0 := block_frozen BR2 0
      have f1 := block_frozen BR2 1
      have f2 := block_frozen BR2 2
      have f3 := block_frozen BR2 3
      clear x0 x1 x2 x3 BX1 BR1 BR2 hX hb2 hs1 hs2 hs3
      go_wp2
      exact bodyPost_ret (v := .tuple #[.agg #[.slice X0 (runDesk d l).now.st.length x0', .int .i64 (runDesk d l).now.step, .slice X2 (runDesk d l).now.word.length x2', .slice X3 (runDesk d l).past.length x3'], .int .i64 (runMany d l)]) (by simp [results, Tryd.results18, go_sem, r0, r1, r2, r3]) rfl ⟨_, by rw [HN.out.2], by rw [HN.out.1]; exact HF.out, HB.out⟩
end Go.Proofs.YtpfncjaclgcbnaaDoor.Ub
