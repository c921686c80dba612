/- Contract of what draws a desk and a deed. -/
import Derived.Test.YtpfncjaclgcbnaaDoorD7
set_option linter.unusedVariables false
set_option linter.unusedSimpArgs false
namespace Go.Proofs.YtpfncjaclgcbnaaDoor.Ub
open Go.RowKit Go.Proofs.YtpfncjaclgcbnaaDoorW

def DrawP (w : World) (e : Ending) (w' : World) : Prop := ∃ v d a, e = .returned (.tuple #[v, ddV a]) ∧ HasD w' w.heap.size v d ∧ d.now.st.length ≤ 3 ∧ d.past.length ≤ 6 ∧ Below w.heap.size w w'
theorem below_gr {B g : Nat} {w a b : World} (h : Below B w a) (k : Gr g a b) (hg : B ≤ g) (hs : B ≤ a.heap.size) : Below B w b :=
  ⟨k.out.os.trans h.os, k.out.tape.trans h.tape, k.out.output.trans h.output, Nat.le_trans h.size k.out.size, fun i hi => (k.out.block i (by omega) (fun e => by injection e with e; omega)).trans (h.block i hi)⟩

set_option maxHeartbeats 2000000 in
set_option maxRecDepth 100000 in
theorem s_DrawDeskDo (v : Value) (w : World) (h : Bys w v) : Calls Tryd.prog 7 #[v] w (DrawP w) := by
  obtain ⟨A, n, c, rfl, hn, hc, hx⟩ := h
  obtain ⟨W0, hW0⟩ : ∃ W0, W0 = (w.alloc (.cells #[.slice none 0 0, .int .i64 0, .slice none 0 0, .slice none 0 0] 28)).alloc (.cells #[.int .i64 0, .int .i64 0, .int .i64 0] 30) := ⟨_, rfl⟩
  have hb0 : Below w.heap.size w W0 := by rw [hW0]; exact ((Below.refl _ _).alloc (Nat.le_refl _) _).alloc (by simp) _
  have BR0 : W0.heap[w.heap.size]? = some (.cells #[.slice none 0 0, .int .i64 0, .slice none 0 0, .slice none 0 0] 28 (0, 0)) := by rw [hW0]; exact (heap_alloc_old _ _ (by simp)).trans (heap_alloc_new w _)
  have BS0 : W0.heap[w.heap.size + 1]? = some (.cells #[.int .i64 0, .int .i64 0, .int .i64 0] 30 (0, 0)) := by rw [hW0]; simpa using heap_alloc_new (w.alloc (.cells #[.slice none 0 0, .int .i64 0, .slice none 0 0, .slice none 0 0] 28)) _
  have hz0 : W0.heap.size = w.heap.size + 2 := by rw [hW0]; simp
  have hbys : Bys W0 (.slice A n c) := ⟨A, n, c, rfl, hn, hc, fun j hj => by
    obtain ⟨b, o, x, e, hq, h255⟩ := hx j hj
    exact ⟨b, o, x, e, (hb0.cell (World.block_lt_of_cell? w _ hq)).trans hq, h255⟩⟩
  have HBY := Lib.hid hbys
  have HZ0 := Lib.hid hz0
  clear hx hbys hz0
  go_enter Tryd.func7, Tryd.ntmps7
  go_wp2_with fail
  rw [← hW0]
  refine (s_l20Open _ _ HBY.out).mono ?_
  rintro e w1 ⟨rfl, hR1, hb1⟩
  obtain ⟨g, hg⟩ : ∃ g, g = W0.heap.size := ⟨_, rfl⟩
  rw [← hg] at hR1 ⊢
  have BR1 := (hb1.block _ (Array.getElem?_eq_some_iff.1 BR0).1).trans BR0
  have BS1 := (hb1.block _ (Array.getElem?_eq_some_iff.1 BS0).1).trans BS0
  have hw1 : Below w.heap.size w w1 := hb0.trans (hb1.mono hb0.size)
  have hgw : w.heap.size + 2 ≤ g := by have := HZ0.out; omega
  have hgl : g < w1.heap.size := hR1.lt
  have hg0 : w.heap.size ≠ g := by omega
  have hg1 : w.heap.size + 1 ≠ g := by omega
  clear hg HZ0
  clear BR0 BS0 hb0 hb1 hW0
  go_wp2_with fail
  refine (s_l20Desk g 0 _ hR1 (by omega)).mono ?_
  rintro e w2 ⟨v2, d, rfl, hD2, hds, hdp, hR2, hG2⟩
  obtain ⟨D0, e0, D2, e2, D3, e3, rfl⟩ := hD2.form
  have BR2 := (⟨hG2⟩ : Gr g w1 w2).block BR1 hg0
  have BS2 := (⟨hG2⟩ : Gr g w1 w2).block BS1 hg1
  have hw2 : Below w.heap.size w w2 := below_gr hw1 ⟨hG2⟩ (by omega) hw1.size
  have hz2 := hG2.size
  have HD2 := Lib.hid (hD2.lo (lo' := w.heap.size) hw1.size)
  clear BR1 BS1 hR1 hD2 hG2
  go_upto_region 3 with (fail)
  obtain ⟨W3, hW3⟩ : ∃ W3, W3 = w2.alloc (.cells #[.slice D0 d.now.st.length e0, .int .i64 d.now.step, .slice D2 d.now.word.length e2, .slice D3 d.past.length e3] 28) := ⟨_, rfl⟩
  rw [← hW3]
  have hb3 : Below w2.heap.size w2 W3 := by rw [hW3]; exact (Bel.alloc (w := w2) (W := w2)).out
  have BD3 : W3.heap[w2.heap.size]? = some (.cells #[.slice D0 d.now.st.length e0, .int .i64 d.now.step, .slice D2 d.now.word.length e2, .slice D3 d.past.length e3] 28 (0, 0)) := by rw [hW3]; exact heap_alloc_new _ _
  have BR3 := (hb3.block _ (Array.getElem?_eq_some_iff.1 BR2).1).trans BR2
  have BS3 := (hb3.block _ (Array.getElem?_eq_some_iff.1 BS2).1).trans BS2
  have HD3 := Lib.hid (HD2.out.bel hb3)
  have hR3 := hR2.bel hb3
  have hw3 : Below w.heap.size w W3 := hw2.trans (hb3.mono hw2.size)
  obtain ⟨gd, hgd⟩ : ∃ gd, gd = w2.heap.size := ⟨_, rfl⟩
  rw [← hgd] at BD3 ⊢
  have hgd2 : g < gd := by rw [hgd]; omega
  clear hW3 BR2 BS2 hR2 hw2 hw1 HD2 hb3 hgd hz2
  have o0 := block_cell BD3 0 rfl
  have o1 := block_cell BD3 1 rfl
  have o2 := block_cell BD3 2 rfl
  have o3 := block_cell BD3 3 rfl
  refine PrintLast.start_ (n := 7) (S := fun w' => w'.cell? ⟨gd, 0, none⟩ = some (.slice D0 d.now.st.length e0) ∧ w'.cell? ⟨gd, 1, none⟩ = some (.int .i64 d.now.step) ∧ w'.cell? ⟨gd, 2, none⟩ = some (.slice D2 d.now.word.length e2) ∧ w'.cell? ⟨gd, 3, none⟩ = some (.slice D3 d.past.length e3)) (ds := [5,6]) #[false, false, false, false, false, false, false] (by kernel_rfl) rfl rfl ⟨cell_at o0, cell_at o1, cell_at o2, cell_at o3⟩ (fun hHeld => ?_)
  refine PrintLast.take_ (i := 0) (N := (some 10)) (v := ?_) (a' := ?_) #[true, false, false, false, false, false, false] rfl rfl (by kernel_rfl) (fun _ _ _ h => h) (Or.inl ⟨by rfl, ?_⟩) hHeld ?_ ?_
  rotate_left
  · (rintro w' ⟨s0, s1, s2, s3⟩; go_simp; with_reducible rfl)
  rotate_left
  · (simp only [Act.put, List.setIfInBounds_toArray, List.set_cons_zero, List.set_cons_succ, PrintLast.i64_w, PrintLast.i32_w]; rfl)
  refine PrintLast.pure_ (i := 1) (N := (some 11)) (v := ?_) (a' := ?_) #[true, true, false, false, false, false, false] rfl rfl (by kernel_rfl) (fun _ _ _ h => h) (Or.inl ⟨by rfl, ?_⟩) ?_ ?_
  rotate_left
  · (intro w'; go_simp; with_reducible rfl)
  rotate_left
  · (simp only [Act.put, List.setIfInBounds_toArray, List.set_cons_zero, List.set_cons_succ, PrintLast.i64_w, PrintLast.i32_w]; rfl)
  refine PrintLast.pure_ (i := 2) (N := (some 12)) (v := ?_) (a' := ?_) #[true, true, true, false, false, false, false] rfl rfl (by kernel_rfl) (fun _ _ _ h => h) (Or.inl ⟨by rfl, ?_⟩) ?_ ?_
  rotate_left
  · (intro w'; go_simp; with_reducible rfl)
  rotate_left
  · (simp only [Act.put, List.setIfInBounds_toArray, List.set_cons_zero, List.set_cons_succ, PrintLast.i64_w, PrintLast.i32_w]; rfl)
  refine PrintLast.take_ (i := 3) (N := (some 13)) (v := ?_) (a' := ?_) #[true, true, true, true, false, false, false] rfl rfl (by kernel_rfl) (fun _ _ _ h => h) (Or.inl ⟨by rfl, ?_⟩) hHeld ?_ ?_
  rotate_left
  · (rintro w' ⟨s0, s1, s2, s3⟩; go_simp; with_reducible rfl)
  rotate_left
  · (simp only [Act.put, List.setIfInBounds_toArray, List.set_cons_zero, List.set_cons_succ, PrintLast.i64_w, PrintLast.i32_w]; rfl)
  refine PrintLast.one_ (i := 4) (N := (some 14)) #[true, true, true, true, true, false, false] rfl rfl (by kernel_rfl) (by decide) (fun K hK => ?_)
  refine PrintLast.goes_ Tryd.func33 (by kernel_rfl) rfl #[.pointer (some ⟨g, 0, none⟩), .agg #[.slice D0 d.now.st.length e0, .int .i64 d.now.step, .slice D2 d.now.word.length e2]] (by rfl) rfl rfl (by (try simp only [List.map_toArray, List.map_cons, List.map_nil]); first | done | rfl) ?_
  refine (s_l20Deed g _ d.now.st.length d.now.word.length e0 e2 D0 D2 d.now.step _ (hR3.bel (Bel.drew (w := W3) (W := W3)).out) (by omega) (by omega)).mono ?_
  rintro e w4 ⟨a, rfl, hR4, hG4⟩
  refine ⟨_, rfl, ?_⟩
  have hG34 : Gr g W3 w4 := (Gr.of_bel (Bel.drew (w := W3) (W := W3)).out).trans ⟨hG4⟩
  have BD4 := hG34.block BD3 (by omega)
  have BR4 := hG34.block BR3 hg0
  have BS4 := hG34.block BS3 hg1
  have HD4 := Lib.hid (HD3.out.gr hR3 hG34.out)
  have HW4 := Lib.hid (below_gr hw3 hG34 (by omega) hw3.size)
  refine hK.out _ _ ⟨block_cell BD4 0 rfl, block_cell BD4 1 rfl, block_cell BD4 2 rfl, block_cell BD4 3 rfl⟩ (fun hHeld => ?_)
  have HBR := Lib.hid BR4
  have HBS := Lib.hid BS4
  clear BD3 BR3 BS3 BD4 BR4 BS4 hG34 hG4 hR4 hR3 hw3 HD3 o0 o1 o2 o3
  clear hK K
  refine PrintLast.norm_ (a' := ?_) ?_ ?_
  rotate_left
  · (show Act.put _ (some 14) _ = _; simp only [Act.put, List.setIfInBounds_toArray, List.set_cons_zero, List.set_cons_succ, PrintLast.i64_w, PrintLast.i32_w]; rfl)
  obtain ⟨kd, aa, bb⟩ := a
  unfold ddV
  have q0 := block_cell HBR.out 0 rfl
  have q1 := block_cell HBR.out 1 rfl
  have q2 := block_cell HBR.out 2 rfl
  have q3 := block_cell HBR.out 3 rfl
  have f0 := block_frozen HBR.out 0
  have f1 := block_frozen HBR.out 1
  have f2 := block_frozen HBR.out 2
  have f3 := block_frozen HBR.out 3
  have s0 := block_cell HBS.out 0 rfl
  have s1 := block_cell HBS.out 1 rfl
  have s2 := block_cell HBS.out 2 rfl
  have t0 := block_frozen HBS.out 0
  have t1 := block_frozen HBS.out 1
  have t2 := block_frozen HBS.out 2
  have HFD := Lib.hid (HasD.set4 HD4.out HBR.out (by decide) (by decide) (.slice D0 d.now.st.length e0) (.int .i64 d.now.step) (.slice D2 d.now.word.length e2) (.slice D3 d.past.length e3))
  have HFS := Lib.hid (block_far4 HBS.out (by omega : w.heap.size + 1 ≠ w.heap.size) (.slice D0 d.now.st.length e0) (.int .i64 d.now.step) (.slice D2 d.now.word.length e2) (.slice D3 d.past.length e3))
  have HFD3 := Lib.hid (((HFD.out.set1 HFS.out (by decide) (by decide) 0 (.int .i64 kd)).set1 (block_set HFS.out 0 _) (by decide) (by decide) 1 (.int .i64 aa)).set1 (block_set (block_set HFS.out 0 _) 1 _) (by decide) (by decide) 2 (.int .i64 bb))
  have HFB := Lib.hid (below_set3 (below_set4 HW4.out (Nat.le_refl _) (.slice D0 d.now.st.length e0) (.int .i64 d.now.step) (.slice D2 d.now.word.length e2) (.slice D3 d.past.length e3)) (g := w.heap.size + 1) (by omega) (.int .i64 kd) (.int .i64 aa) (.int .i64 bb))
  refine PrintLast.last_ (i := 5) (N := none) #[true, true, true, true, true, true, false] rfl rfl (by kernel_rfl) (by decide) (fun K hK => ?_)
  refine PrintLast.skip_ (w1 := ?_) (by rfl) rfl ?_ ?_
  rotate_left
  · (go_simp; rfl)
  refine hK.out _ _ ?_
  clear hK K
  refine PrintLast.last_ (i := 6) (N := none) #[true, true, true, true, true, true, true] rfl rfl (by kernel_rfl) (by decide) (fun K hK => ?_)
  refine PrintLast.skip_ (w1 := ?_) (by rfl) rfl ?_ ?_
  rotate_left
  · (go_simp; rfl)
  refine hK.out _ _ ?_
  clear hK K
  refine PrintLast.done_ (by kernel_rfl) ?_
  go_wp2
  exact bodyPost_ret (v := .tuple #[.agg #[.slice D0 d.now.st.length e0, .int .i64 d.now.step, .slice D2 d.now.word.length e2, .slice D3 d.past.length e3], .agg #[.int .i64 kd, .int .i64 aa, .int .i64 bb]]) (by simp [results, Tryd.results7, go_sem, q0, q1, q2, q3, s0, s1, s2]) rfl ⟨_, d, ⟨kd, aa, bb⟩, rfl, HFD3.out, hds, hdp, HFB.out⟩
end Go.Proofs.YtpfncjaclgcbnaaDoor.Ub
