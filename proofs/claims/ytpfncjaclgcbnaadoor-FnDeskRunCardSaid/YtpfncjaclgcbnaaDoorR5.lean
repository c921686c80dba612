/- Contract of what draws a desk and deeds. -/
import Derived.Test.YtpfncjaclgcbnaaDoorR4
set_option linter.unusedVariables false
set_option linter.unusedSimpArgs false
namespace Go.Proofs.YtpfncjaclgcbnaaDoor.Ub
open Go.RowKit Go.Proofs.YtpfncjaclgcbnaaDoorW

theorem made_ds (n : Nat) (w' : World) (lo : Nat) (v : Value) (h : w'.ownsRow lo 30 3 v n (madeCells (Value.agg #[.int .i64 0, .int .i64 0, .int .i64 0]).cells (n * 3)).toList) : HasDs w' lo v (List.replicate n e0) := by
  refine ⟨_, by rw [List.length_replicate]; exact h, fun j hj => ?_⟩
  rw [List.length_replicate] at hj
  have e : (List.replicate n e0).getD j e0 = e0 := by rw [List.getD_eq_getElem?_getD, List.getElem?_replicate, if_pos hj]; rfl
  rw [e]
  have e1 : (j * 3) % 3 = 0 := by omega
  have e2 : (j * 3 + 1) % 3 = 1 := by omega
  have e3 : (j * 3 + 2) % 3 = 2 := by omega
  have h1 : j * 3 < n * 3 := by omega
  have h2 : j * 3 + 1 < n * 3 := by omega
  have h3 : j * 3 + 2 < n * 3 := by omega
  refine ⟨?_, ?_, ?_⟩ <;> simp [madeCells, Value.cells, e0, e1, e2, e3, h1, h2, h3]
theorem make_ds_step {w : World} {ops : Array Oper} {o : Oper} {a : Act} {K : Act → World → Prop} {Q : Exit → Act → World → Prop} {F : Prop} (n : Nat) (hn : n ≤ 1000) (hgd : o.guard = none) (l c : Operand)
    (ho : o.op = .makeSlice 44 l c) (lo : Nat) (hl : a.eval l = .int .i64 n) (hc : a.eval c = .int .i64 n) (hlo : lo ≤ w.heap.size)
    (h : ∀ w', HasDs w' lo (.slice (some ⟨w.heap.size, 0, none⟩) n n) (List.replicate n e0) → w.grownBy w' none → K (a.put o.dst (.slice (some ⟨w.heap.size, 0, none⟩) n n)) w') :
    if Region.wanted o (yielded ops a.tmps) = true then Oper.wp Tryd.prog o a w K Q else F := by
  have hw : Region.wanted o (yielded ops a.tmps) = true := by simp [Region.wanted, hgd]
  rw [if_pos hw]
  obtain ⟨i, i1, i2, i3, i4⟩ := eD.inf
  obtain ⟨w', hrun, r1, r2⟩ := run_make_full (P := Tryd.prog) w lo 44 30 i _ 3 eD.und i1 i2 i3 .i64 .i64 n (by rw [i4]; omega) (by unfold maxLen; omega) hlo
  unfold Oper.wp
  simp [execOp, ho, hl, hc, hrun, Result.andThen]
  exact h w' (made_ds n _ _ _ r1) r2
def RunP (w : World) (e : Ending) (w' : World) : Prop := ∃ v d ga c l, e = .returned (.tuple #[v, .slice (some ⟨ga, 0, none⟩) l.length c]) ∧ HasD w' w.heap.size v d ∧ HasDs w' w.heap.size (.slice (some ⟨ga, 0, none⟩) l.length c) l ∧ l.length ≤ 41 ∧ Below w.heap.size w w'

set_option maxHeartbeats 2000000 in
set_option maxRecDepth 100000 in
theorem s_DrawDeskRun (v : Value) (w : World) (h : Bys w v) : Calls Tryd.prog 16 #[v] w (RunP w) := by
  obtain ⟨A, n, c, rfl, hn, hc, hx⟩ := h
  obtain ⟨W0, hW0⟩ : ∃ W0, W0 = w.alloc (.cells #[.slice none 0 0, .int .i64 0, .slice none 0 0, .slice none 0 0] 28) := ⟨_, rfl⟩
  have hb0 : Below w.heap.size w W0 := by rw [hW0]; exact (Bel.alloc (w := w) (W := w)).out
  have BR0 : W0.heap[w.heap.size]? = some (.cells #[.slice none 0 0, .int .i64 0, .slice none 0 0, .slice none 0 0] 28 (0, 0)) := by rw [hW0]; exact heap_alloc_new _ _
  have hz0 : W0.heap.size = w.heap.size + 1 := by rw [hW0]; simp
  have hbys : Bys W0 (.slice A n c) := ⟨A, n, c, rfl, hn, hc, fun j hj => by
    obtain ⟨b, o, x, e, hq, h255⟩ := hx j hj
    exact ⟨b, o, x, e, (hb0.cell (World.block_lt_of_cell? w _ hq)).trans hq, h255⟩⟩
  have HBY := Lib.hid hbys
  have HZ0 := Lib.hid hz0
  clear hx hbys hz0
  go_enter Tryd.func16, Tryd.ntmps16
  go_wp2_with fail
  rw [← hW0]
  refine (s_l20Open _ _ HBY.out).mono ?_
  rintro e w1 ⟨rfl, hR1, hb1⟩
  obtain ⟨g, hg⟩ : ∃ g, g = W0.heap.size := ⟨_, rfl⟩
  rw [← hg] at hR1 ⊢
  have BR1 := (hb1.block _ (Array.getElem?_eq_some_iff.1 BR0).1).trans BR0
  have hw1 : Below w.heap.size w w1 := hb0.trans (hb1.mono hb0.size)
  have hgw : w.heap.size + 1 ≤ g := by have := HZ0.out; omega
  have hgl : g < w1.heap.size := hR1.lt
  have hg0 : w.heap.size ≠ g := by omega
  clear hg HZ0
  clear BR0 hb0 hb1 hW0
  go_wp2_with fail
  refine (s_l20Desk g 0 _ hR1 (by omega)).mono ?_
  rintro e w2 ⟨v2, d, rfl, hD2, hds, hdp, hR2, hG2⟩
  obtain ⟨D0, e0', D2, e2, D3, e3, rfl⟩ := hD2.form
  have BR2 := (⟨hG2⟩ : Gr g w1 w2).block BR1 hg0
  have hw2 : Below w.heap.size w w2 := below_gr hw1 ⟨hG2⟩ (by omega) hw1.size
  have hz2 := hG2.size
  have HD2 := Lib.hid (hD2.lo (lo' := w.heap.size) hw1.size)
  clear BR1 hR1 hD2 hG2
  go_upto_region 3 with (fail)
  obtain ⟨W3, hW3⟩ : ∃ W3, W3 = w2.alloc (.cells #[.slice D0 d.now.st.length e0', .int .i64 d.now.step, .slice D2 d.now.word.length e2, .slice D3 d.past.length e3] 28) := ⟨_, rfl⟩
  rw [← hW3]
  have hb3 : Below w2.heap.size w2 W3 := by rw [hW3]; exact (Bel.alloc (w := w2) (W := w2)).out
  have BD3 : W3.heap[w2.heap.size]? = some (.cells #[.slice D0 d.now.st.length e0', .int .i64 d.now.step, .slice D2 d.now.word.length e2, .slice D3 d.past.length e3] 28 (0, 0)) := by rw [hW3]; exact heap_alloc_new _ _
  have BR3 := (hb3.block _ (Array.getElem?_eq_some_iff.1 BR2).1).trans BR2
  have HD3 := Lib.hid (HD2.out.bel hb3)
  have hR3 := hR2.bel hb3
  have hw3 : Below w.heap.size w W3 := hw2.trans (hb3.mono hw2.size)
  obtain ⟨gd, hgd⟩ : ∃ gd, gd = w2.heap.size := ⟨_, rfl⟩
  rw [← hgd] at BD3 ⊢
  have hgd2 : g < gd := by rw [hgd]; omega
  clear hW3 BR2 hR2 hw2 hw1 HD2 hb3 hgd hz2
  go_wp2_with fail
  refine (s_odd g _ 30 _ hR3 (by omega) (by omega) (by omega)).mono ?_
  rintro e w4 ⟨b, rfl, hR4, hG4⟩
  have BD4 := (⟨hG4⟩ : Gr g W3 w4).block BD3 (by omega)
  have BR4 := (⟨hG4⟩ : Gr g W3 w4).block BR3 hg0
  have HD4 := Lib.hid (HD3.out.gr hR3 hG4)
  have HW4 := Lib.hid (below_gr hw3 ⟨hG4⟩ (by omega) hw3.size)
  clear BD3 BR3 HD3 hR3 hw3 hG4
  have o0 := block_cell BD4 0 rfl
  have o1 := block_cell BD4 1 rfl
  have o2 := block_cell BD4 2 rfl
  have o3 := block_cell BD4 3 rfl
  cases b with
  | true =>
    go_upto_region 4 with (fail)
    refine PrintLast.start_ (n := 4) (S := fun w' => w'.cell? ⟨gd, 0, none⟩ = some (.slice D0 d.now.st.length e0') ∧ w'.cell? ⟨gd, 1, none⟩ = some (.int .i64 d.now.step) ∧ w'.cell? ⟨gd, 2, none⟩ = some (.slice D2 d.now.word.length e2) ∧ w'.cell? ⟨gd, 3, none⟩ = some (.slice D3 d.past.length e3)) (ds := []) #[false, false, false, false] (by kernel_rfl) rfl rfl ⟨cell_at o0, cell_at o1, cell_at o2, cell_at o3⟩ (fun hHeld => ?_)
    obtain ⟨wd, hwd⟩ : ∃ wd, wd = w4.drew := ⟨_, rfl⟩
    rw [← hwd] at hHeld ⊢
    have bd : Below w4.heap.size w4 wd := by rw [hwd]; exact (Bel.drew (w := w4) (W := w4)).out
    clear hwd
    refine PrintLast.take_ (i := 0) (N := (some 12)) (v := ?_) (a' := ?_) #[true, false, false, false] rfl rfl (by kernel_rfl) (fun _ _ _ h => h) (Or.inl ⟨by rfl, ?_⟩) hHeld ?_ ?_
    rotate_left
    · (rintro w' ⟨s0, s1, s2, s3⟩; go_simp; with_reducible rfl)
    rotate_left
    · (simp only [Act.put, List.setIfInBounds_toArray, List.set_cons_zero, List.set_cons_succ, PrintLast.i64_w, PrintLast.i32_w]; rfl)
    refine PrintLast.two_ (i := 1) (j := 2) (Ni := some 13) (Nj := none) #[true, true, false, false] #[true, false, true, false] rfl rfl rfl rfl (by kernel_rfl) (by decide) (by decide) (fun K hK => ?_) (fun K hK => ?_)
    · skip
      refine make_ds_step 41 (by decide) (by rfl) _ _ (by rfl) w.heap.size (by rfl) (by rfl) (by have := HW4.out.size; have := bd.size; omega) ?_
      intro w5 hE5 hg5
      have b45 : Below w4.heap.size w4 w5 := bd.grown hg5 bd.size (fun k e => by cases e)
      have HBR := Lib.hid ((b45.block _ (Array.getElem?_eq_some_iff.1 BR4).1).trans BR4)
      have HD := Lib.hid (HD4.out.bel b45)
      have HW := Lib.hid (HW4.out.trans (b45.mono HW4.out.size))
      have HE := Lib.hid hE5
      have BD5 := (b45.block _ (Array.getElem?_eq_some_iff.1 BD4).1).trans BD4
      refine hK.out _ _ ⟨block_cell BD5 0 rfl, block_cell BD5 1 rfl, block_cell BD5 2 rfl, block_cell BD5 3 rfl⟩ (fun hHeld => ?_)
      have HBD := Lib.hid (block_far4 BD5 (by omega : gd ≠ w.heap.size) (.slice D0 d.now.st.length e0') (.int .i64 d.now.step) (.slice D2 d.now.word.length e2) (.slice D3 d.past.length e3))
      have HFD := Lib.hid (HasD.set4 HD.out HBR.out (by decide) (by decide) (.slice D0 d.now.st.length e0') (.int .i64 d.now.step) (.slice D2 d.now.word.length e2) (.slice D3 d.past.length e3))
      have HFL := Lib.hid (HasDs.set4 HE.out HBR.out (by decide) (.slice D0 d.now.st.length e0') (.int .i64 d.now.step) (.slice D2 d.now.word.length e2) (.slice D3 d.past.length e3))
      have HFB := Lib.hid (below_set4 HW.out (Nat.le_refl _) (.slice D0 d.now.st.length e0') (.int .i64 d.now.step) (.slice D2 d.now.word.length e2) (.slice D3 d.past.length e3))
      have HLE : Hid ((List.replicate 41 e0).length ≤ 41) := by show _ ≤ _; rw [List.length_replicate]; exact Nat.le_refl _
      clear BD4 BR4 BD5 hE5 hg5 b45 o0 o1 o2 o3 bd
      clear hK K
      refine PrintLast.norm_ (a' := ?_) ?_ ?_
      rotate_left
      · (show Act.put _ (some 13) _ = _; simp only [Act.put, List.setIfInBounds_toArray, List.set_cons_zero, List.set_cons_succ, PrintLast.i64_w, PrintLast.i32_w]; rfl)
      have q0 := block_cell HBR.out 0 rfl
      have q1 := block_cell HBR.out 1 rfl
      have q2 := block_cell HBR.out 2 rfl
      have q3 := block_cell HBR.out 3 rfl
      have f0 := block_frozen HBR.out 0
      have f1 := block_frozen HBR.out 1
      have f2 := block_frozen HBR.out 2
      have f3 := block_frozen HBR.out 3
      refine PrintLast.one_ (i := 2) (N := none) #[true, true, true, false] rfl rfl (by kernel_rfl) (by decide) (fun K hK => ?_)
      refine PrintLast.skip_ (w1 := ?_) (by rfl) rfl ?_ ?_
      rotate_left
      · (go_simp; rfl)
      refine hK.out _ _ ⟨block_cell HBD.out 0 rfl, block_cell HBD.out 1 rfl, block_cell HBD.out 2 rfl, block_cell HBD.out 3 rfl⟩ (fun hHeld => ?_)
      clear hK K
      refine PrintLast.pure_ (i := 3) (N := (some 3)) (v := ?_) (a' := ?_) #[true, true, true, true] rfl rfl (by kernel_rfl) (fun _ _ _ h => h) (Or.inl ⟨by rfl, ?_⟩) ?_ ?_
      rotate_left
      · (intro w'; go_simp; with_reducible rfl)
      rotate_left
      · (simp only [Act.put, List.setIfInBounds_toArray, List.set_cons_zero, List.set_cons_succ, PrintLast.i64_w, PrintLast.i32_w]; rfl)
      refine PrintLast.done_ (by kernel_rfl) ?_
      go_wp2
      exact bodyPost_ret (v := .tuple #[.agg #[.slice D0 d.now.st.length e0', .int .i64 d.now.step, .slice D2 d.now.word.length e2, .slice D3 d.past.length e3], .slice (some ⟨wd.heap.size, 0, none⟩) 41 41]) (by simp [results, Tryd.results16, go_sem, q0, q1, q2, q3]) rfl ⟨_, d, _, 41, List.replicate 41 e0, by rw [List.length_replicate], HFD.out, by rw [List.length_replicate]; exact HFL.out, HLE.out, HFB.out⟩
    · skip
      have HBR := Lib.hid ((bd.block _ (Array.getElem?_eq_some_iff.1 BR4).1).trans BR4)
      have BDd := (bd.block _ (Array.getElem?_eq_some_iff.1 BD4).1).trans BD4
      have HBD := Lib.hid (block_far4 BDd (by omega : gd ≠ w.heap.size) (.slice D0 d.now.st.length e0') (.int .i64 d.now.step) (.slice D2 d.now.word.length e2) (.slice D3 d.past.length e3))
      have HFD := Lib.hid (HasD.set4 (HD4.out.bel bd) HBR.out (by decide) (by decide) (.slice D0 d.now.st.length e0') (.int .i64 d.now.step) (.slice D2 d.now.word.length e2) (.slice D3 d.past.length e3))
      have HFB := Lib.hid (below_set4 (HW4.out.trans (bd.mono HW4.out.size)) (Nat.le_refl _) (.slice D0 d.now.st.length e0') (.int .i64 d.now.step) (.slice D2 d.now.word.length e2) (.slice D3 d.past.length e3))
      have HBF := Lib.hid (block_set4 HBR.out (.slice D0 d.now.st.length e0') (.int .i64 d.now.step) (.slice D2 d.now.word.length e2) (.slice D3 d.past.length e3))
      have q0 := block_cell HBR.out 0 rfl
      have q1 := block_cell HBR.out 1 rfl
      have q2 := block_cell HBR.out 2 rfl
      have q3 := block_cell HBR.out 3 rfl
      have f0 := block_frozen HBR.out 0
      have f1 := block_frozen HBR.out 1
      have f2 := block_frozen HBR.out 2
      have f3 := block_frozen HBR.out 3
      refine PrintLast.skip_ (w1 := ?_) (by rfl) rfl ?_ ?_
      rotate_left
      · (go_simp; rfl)
      refine hK.out _ _ ⟨block_cell HBD.out 0 rfl, block_cell HBD.out 1 rfl, block_cell HBD.out 2 rfl, block_cell HBD.out 3 rfl⟩ (fun hHeld => ?_)
      obtain ⟨W5, hW5⟩ : ∃ W5, W5 = set4 wd w.heap.size (.slice D0 d.now.st.length e0') (.int .i64 d.now.step) (.slice D2 d.now.word.length e2) (.slice D3 d.past.length e3) := ⟨_, rfl⟩
      have e5 := hW5
      unfold set4 at e5
      rw [← e5] at hHeld ⊢
      rw [← hW5] at HBD HFD HFB HBF
      clear hK K hW5 e5 q0 q1 q2 q3 f0 f1 f2 f3 o0 o1 o2 o3
      refine PrintLast.one_ (i := 1) (N := (some 13)) #[true, true, true, false] rfl rfl (by kernel_rfl) (by decide) (fun K hK => ?_)
      refine make_ds_step 41 (by decide) (by rfl) _ _ (by rfl) w.heap.size (by rfl) (by rfl) HFB.out.size ?_
      intro w6 hE6 hg6
      have b56 : Below W5.heap.size W5 w6 := (Below.refl _ _).grown hg6 (Nat.le_refl _) (fun k e => by cases e)
      have HBR6 := Lib.hid ((b56.block _ (Array.getElem?_eq_some_iff.1 HBF.out).1).trans HBF.out)
      have BD6 := (b56.block _ (Array.getElem?_eq_some_iff.1 HBD.out).1).trans HBD.out
      have HD6 := Lib.hid (HFD.out.bel b56)
      have HB6 := Lib.hid (HFB.out.trans (b56.mono HFB.out.size))
      have HE6 := Lib.hid hE6
      have HLE : Hid ((List.replicate 41 e0).length ≤ 41) := by show _ ≤ _; rw [List.length_replicate]; exact Nat.le_refl _
      refine hK.out _ _ ⟨block_cell BD6 0 rfl, block_cell BD6 1 rfl, block_cell BD6 2 rfl, block_cell BD6 3 rfl⟩ (fun hHeld => ?_)
      have q0 := block_cell HBR6.out 0 rfl
      have q1 := block_cell HBR6.out 1 rfl
      have q2 := block_cell HBR6.out 2 rfl
      have q3 := block_cell HBR6.out 3 rfl
      clear BD4 BR4 BDd BD6 hE6 hg6 b56 bd
      clear hK K
      refine PrintLast.norm_ (a' := ?_) ?_ ?_
      rotate_left
      · (show Act.put _ (some 13) _ = _; simp only [Act.put, List.setIfInBounds_toArray, List.set_cons_zero, List.set_cons_succ, PrintLast.i64_w, PrintLast.i32_w]; rfl)
      refine PrintLast.pure_ (i := 3) (N := (some 3)) (v := ?_) (a' := ?_) #[true, true, true, true] rfl rfl (by kernel_rfl) (fun _ _ _ h => h) (Or.inl ⟨by rfl, ?_⟩) ?_ ?_
      rotate_left
      · (intro w'; go_simp; with_reducible rfl)
      rotate_left
      · (simp only [Act.put, List.setIfInBounds_toArray, List.set_cons_zero, List.set_cons_succ, PrintLast.i64_w, PrintLast.i32_w]; rfl)
      refine PrintLast.done_ (by kernel_rfl) ?_
      go_wp2
      exact bodyPost_ret (v := .tuple #[.agg #[.slice D0 d.now.st.length e0', .int .i64 d.now.step, .slice D2 d.now.word.length e2, .slice D3 d.past.length e3], .slice (some ⟨W5.heap.size, 0, none⟩) 41 41]) (by simp [results, Tryd.results16, go_sem, q0, q1, q2, q3]) rfl ⟨_, d, _, 41, List.replicate 41 e0, by rw [List.length_replicate], HD6.out, by rw [List.length_replicate]; exact HE6.out, HLE.out, HB6.out⟩
  | false =>
    go_upto_region 5 with (fail)
    refine PrintLast.start_ (n := 7) (S := fun w' => w'.cell? ⟨gd, 0, none⟩ = some (.slice D0 d.now.st.length e0') ∧ w'.cell? ⟨gd, 1, none⟩ = some (.int .i64 d.now.step) ∧ w'.cell? ⟨gd, 2, none⟩ = some (.slice D2 d.now.word.length e2) ∧ w'.cell? ⟨gd, 3, none⟩ = some (.slice D3 d.past.length e3)) (ds := [5]) #[false, false, false, false, false, false, false] (by kernel_rfl) rfl rfl ⟨cell_at o0, cell_at o1, cell_at o2, cell_at o3⟩ (fun hHeld => ?_)
    refine PrintLast.take_ (i := 0) (N := (some 14)) (v := ?_) (a' := ?_) #[true, false, false, false, false, false, false] rfl rfl (by kernel_rfl) (fun _ _ _ h => h) (Or.inl ⟨by rfl, ?_⟩) hHeld ?_ ?_
    rotate_left
    · (rintro w' ⟨s0, s1, s2, s3⟩; go_simp; with_reducible rfl)
    rotate_left
    · (simp only [Act.put, List.setIfInBounds_toArray, List.set_cons_zero, List.set_cons_succ, PrintLast.i64_w, PrintLast.i32_w]; rfl)
    refine PrintLast.pure_ (i := 1) (N := (some 15)) (v := ?_) (a' := ?_) #[true, true, false, false, false, false, false] rfl rfl (by kernel_rfl) (fun _ _ _ h => h) (Or.inl ⟨by rfl, ?_⟩) ?_ ?_
    rotate_left
    · (intro w'; go_simp; with_reducible rfl)
    rotate_left
    · (simp only [Act.put, List.setIfInBounds_toArray, List.set_cons_zero, List.set_cons_succ, PrintLast.i64_w, PrintLast.i32_w]; rfl)
    refine PrintLast.pure_ (i := 2) (N := (some 16)) (v := ?_) (a' := ?_) #[true, true, true, false, false, false, false] rfl rfl (by kernel_rfl) (fun _ _ _ h => h) (Or.inl ⟨by rfl, ?_⟩) ?_ ?_
    rotate_left
    · (intro w'; go_simp; with_reducible rfl)
    rotate_left
    · (simp only [Act.put, List.setIfInBounds_toArray, List.set_cons_zero, List.set_cons_succ, PrintLast.i64_w, PrintLast.i32_w]; rfl)
    refine PrintLast.take_ (i := 3) (N := (some 17)) (v := ?_) (a' := ?_) #[true, true, true, true, false, false, false] rfl rfl (by kernel_rfl) (fun _ _ _ h => h) (Or.inl ⟨by rfl, ?_⟩) hHeld ?_ ?_
    rotate_left
    · (rintro w' ⟨s0, s1, s2, s3⟩; go_simp; with_reducible rfl)
    rotate_left
    · (simp only [Act.put, List.setIfInBounds_toArray, List.set_cons_zero, List.set_cons_succ, PrintLast.i64_w, PrintLast.i32_w]; rfl)
    refine PrintLast.one_ (i := 4) (N := (some 18)) #[true, true, true, true, true, false, false] rfl rfl (by kernel_rfl) (by decide) (fun K hK => ?_)
    refine PrintLast.goes_ Tryd.func52 (by kernel_rfl) rfl #[.pointer (some ⟨g, 0, none⟩), .agg #[.slice D0 d.now.st.length e0', .int .i64 d.now.step, .slice D2 d.now.word.length e2]] (by rfl) rfl rfl (by (try simp only [List.map_toArray, List.map_cons, List.map_nil]); first | done | rfl) ?_
    refine (s_l20Deeds g _ d.now.st.length d.now.word.length e0' e2 D0 D2 d.now.step _ (hR4.bel (Bel.drew (w := w4) (W := w4)).out) (by omega) (by omega)).mono ?_
    rintro e w5 ⟨gl, cl, l, rfl, hll, hE5, hR5, hG5⟩
    refine ⟨_, rfl, ?_⟩
    have hG45 : Gr g w4 w5 := (Gr.of_bel (Bel.drew (w := w4) (W := w4)).out).trans ⟨hG5⟩
    have BD5 := hG45.block BD4 (by omega)
    have HBR := Lib.hid (hG45.block BR4 hg0)
    have HD := Lib.hid (HD4.out.gr hR4 hG45.out)
    have HW := Lib.hid (below_gr HW4.out hG45 (by omega) HW4.out.size)
    have HE := Lib.hid (hE5.lo (lo' := w.heap.size) (by have := HW4.out.size; simp; omega))
    have HLEN : Hid (l.length ≤ 41) := hll
    refine hK.out _ _ ⟨block_cell BD5 0 rfl, block_cell BD5 1 rfl, block_cell BD5 2 rfl, block_cell BD5 3 rfl⟩ (fun hHeld => ?_)
    clear BD4 BR4 BD5 hE5 hG5 hG45 hR5 hR4 hll o0 o1 o2 o3
    clear hK K
    refine PrintLast.norm_ (a' := ?_) ?_ ?_
    rotate_left
    · (show Act.put _ (some 18) _ = _; simp only [Act.put, List.setIfInBounds_toArray, List.set_cons_zero, List.set_cons_succ, PrintLast.i64_w, PrintLast.i32_w]; rfl)
    have q0 := block_cell HBR.out 0 rfl
    have q1 := block_cell HBR.out 1 rfl
    have q2 := block_cell HBR.out 2 rfl
    have q3 := block_cell HBR.out 3 rfl
    have f0 := block_frozen HBR.out 0
    have f1 := block_frozen HBR.out 1
    have f2 := block_frozen HBR.out 2
    have f3 := block_frozen HBR.out 3
    have HFD := Lib.hid (HasD.set4 HD.out HBR.out (by decide) (by decide) (.slice D0 d.now.st.length e0') (.int .i64 d.now.step) (.slice D2 d.now.word.length e2) (.slice D3 d.past.length e3))
    have HFL := Lib.hid (HasDs.set4 HE.out HBR.out (by decide) (.slice D0 d.now.st.length e0') (.int .i64 d.now.step) (.slice D2 d.now.word.length e2) (.slice D3 d.past.length e3))
    have HFB := Lib.hid (below_set4 HW.out (Nat.le_refl _) (.slice D0 d.now.st.length e0') (.int .i64 d.now.step) (.slice D2 d.now.word.length e2) (.slice D3 d.past.length e3))
    refine PrintLast.last_ (i := 5) (N := none) #[true, true, true, true, true, true, false] rfl rfl (by kernel_rfl) (by decide) (fun K hK => ?_)
    refine PrintLast.skip_ (w1 := ?_) (by rfl) rfl ?_ ?_
    rotate_left
    · (go_simp; rfl)
    refine hK.out _ _ ?_
    clear hK K
    refine PrintLast.pure_ (i := 6) (N := (some 3)) (v := ?_) (a' := ?_) #[true, true, true, true, true, true, true] rfl rfl (by kernel_rfl) (fun _ _ _ h => h) (Or.inl ⟨by rfl, ?_⟩) ?_ ?_
    rotate_left
    · (intro w'; go_simp; with_reducible rfl)
    rotate_left
    · (simp only [Act.put, List.setIfInBounds_toArray, List.set_cons_zero, List.set_cons_succ, PrintLast.i64_w, PrintLast.i32_w]; rfl)
    refine PrintLast.done_ (by kernel_rfl) ?_
    go_wp2
    exact bodyPost_ret (v := .tuple #[.agg #[.slice D0 d.now.st.length e0', .int .i64 d.now.step, .slice D2 d.now.word.length e2, .slice D3 d.past.length e3], (.slice (some ⟨gl, 0, none⟩) l.length cl)]) (by simp [results, Tryd.results16, go_sem, q0, q1, q2, q3]) rfl ⟨_, d, _, _, l, rfl, HFD.out, HFL.out, HLEN.out, HFB.out⟩
end Go.Proofs.YtpfncjaclgcbnaaDoor.Ub
