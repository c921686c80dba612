/- Contracts of copies of places and desks. -/
import Derived.Test.YtpfncjaclgcbnaaDoorF6
import Derived.Test.YtpfncjaclgcbnaaDoorOwn
import Derived.Test.YtpfncjaclgcbnaaDoorWLast
set_option linter.unusedVariables false
set_option linter.unusedSimpArgs false
namespace Go.Proofs.YtpfncjaclgcbnaaDoor.Ub
open Go.RowKit Go.Proofs.YtpfncjaclgcbnaaDoorW

set_option maxHeartbeats 1000000 in
set_option maxRecDepth 100000 in
theorem i_copyPlace (v : Value) (p : Pl) (w : World) (h : PlI w v p) (hs : p.st.length ≤ 1000) (hw : p.word.length ≤ 1000) :
    Calls Tryd.prog 39 #[v] w fun e w' => ∃ v', e = .returned v' ∧ PlO w' w.heap.size v' p ∧ Below w.heap.size w w' := by
  obtain ⟨A0, c0, A2, c2, rfl, i0, i2⟩ := h.open
  go_enter Tryd.func39, Tryd.ntmps39
  go_wp2_with fail
  obtain ⟨W0, hW0⟩ : ∃ W0, W0 = (w.alloc (.cells #[.slice A0 p.st.length c0, .int .i64 p.step, .slice A2 p.word.length c2] 25)).alloc (.cells #[.slice none 0 0, .int .i64 0, .slice none 0 0] 25) := ⟨_, rfl⟩
  have t0 : W0.cell? ⟨w.heap.size, 0, none⟩ = some (.slice A0 p.st.length c0) := by rw [hW0]; simp
  have t1 : W0.cell? ⟨w.heap.size, 1, none⟩ = some (.int .i64 p.step) := by rw [hW0]; simp
  have t2 : W0.cell? ⟨w.heap.size, 2, none⟩ = some (.slice A2 p.word.length c2) := by rw [hW0]; simp
  haveI b0 : Bel w W0 := by rw [hW0]; exact Bel.alloc
  have hz : W0.heap.size = w.heap.size + 2 := by rw [hW0]; simp
  have z0' : ∀ i, i < 3 → W0.frozen? ⟨w.heap.size + 1, i, none⟩ = false := by intro i _; rw [hW0]; simp
  have y0 : W0.cell? ⟨w.heap.size + 1, 0, none⟩ = some (.slice none 0 0) := by rw [hW0]; simp
  have y1 : W0.cell? ⟨w.heap.size + 1, 1, none⟩ = some (.int .i64 0) := by rw [hW0]; simp
  have y2 : W0.cell? ⟨w.heap.size + 1, 2, none⟩ = some (.slice none 0 0) := by rw [hW0]; simp
  rw [← hW0]
  have Y0 := Lib.hid y0; have Y1 := Lib.hid y1; have Y2 := Lib.hid y2; have Z0 := Lib.hid z0'; have HZ := Lib.hid hz
  clear y0 y1 y2 z0' hW0 hz
  go_region_held3 (fun w' => w'.cell? ⟨w.heap.size, 0, none⟩ = some (.slice A0 p.st.length c0) ∧ w'.cell? ⟨w.heap.size, 1, none⟩ = some (.int .i64 p.step) ∧ w'.cell? ⟨w.heap.size, 2, none⟩ = some (.slice A2 p.word.length c2))
    (first | go_keep | exact ⟨cell_at t0, cell_at t1, cell_at t2⟩)
    (first
      | (go_at_call_of 69 (Value.slice A0 p.st.length c0); refine (i_Clone _ p.st _ i0.at (by omega)).mono ?_; rintro e w1 ⟨v1, rfl, hO1, hb1⟩; obtain ⟨B1, d1, rfl⟩ := hO1.ints.form; haveI : Bel W0 w1 := Bel.step (w := W0) hb1; haveI : Bel w w1 := Bel.step (w := w) hb1)
      | (go_at_call_of 69 (Value.slice A2 p.word.length c2); refine (i_Clone _ p.word _ i2.at (by omega)).mono ?_; rintro e w2 ⟨v2, rfl, hO2, hb2⟩; obtain ⟨B2, d2, rfl⟩ := hO2.ints.form; haveI : Bel W0 w2 := Bel.step (w := W0) hb2; haveI : Bel w w2 := Bel.step (w := w) hb2; have y0 := cell_at Y0.out (W := w2); have y1 := cell_at Y1.out (W := w2); have y2 := cell_at Y2.out (W := w2); have f0 := frozen_at Y0.out (Z0.out 0 (by decide)) (W := w2); have f1 := frozen_at Y1.out (Z0.out 1 (by decide)) (W := w2); have f2 := frozen_at Y2.out (Z0.out 2 (by decide)) (W := w2)))
  have hs0 : W0.drew.heap.size = w.heap.size + 2 := HZ.out
  have hw1 := hb1.size
  have hap : ∀ k, (Value.slice B1 p.st.length d1).ownBlock = some k → (Value.slice B2 p.word.length d2).ownBlock ≠ some k := fun k e1 e2 => by
    have := hO1.lt k e1; have := hO2.lt k e2; omega
  have hP1 : OwnI w2 w.heap.size (.slice B1 p.st.length d1) p.st := (hO1.bel hb2).mono (by omega)
  have hP2 : OwnI w2 w.heap.size (.slice B2 p.word.length d2) p.word := hO2.mono (by omega)
  have hf1 : ∀ k, (Value.slice B1 p.st.length d1).ownBlock = some k → k ≠ w.heap.size + 1 := fun k e1 => by have := (hO1.lt k e1).1; omega
  have hf2 : ∀ k, (Value.slice B2 p.word.length d2).ownBlock = some k → k ≠ w.heap.size + 1 := fun k e1 => by have := (hO2.lt k e1).1; omega
  have HP1 := Lib.hid ((((hP1.far (p := ⟨w.heap.size + 1, 0, none⟩) (u := .slice B1 p.st.length d1) hf1).far (p := ⟨w.heap.size + 1, 1, none⟩) (u := .int .i64 p.step) hf1).far (p := ⟨w.heap.size + 1, 2, none⟩) (u := .slice B2 p.word.length d2) hf1))
  have HP2 := Lib.hid ((((hP2.far (p := ⟨w.heap.size + 1, 0, none⟩) (u := .slice B1 p.st.length d1) hf2).far (p := ⟨w.heap.size + 1, 1, none⟩) (u := .int .i64 p.step) hf2).far (p := ⟨w.heap.size + 1, 2, none⟩) (u := .slice B2 p.word.length d2) hf2))
  have HAP := Lib.hid hap
  have HB := Lib.hid ((((Bel.out : Below w.heap.size w w2).setCell (p := ⟨w.heap.size + 1, 0, none⟩) (by simp) (.slice B1 p.st.length d1)).setCell (p := ⟨w.heap.size + 1, 1, none⟩) (by simp) (.int .i64 p.step)).setCell (p := ⟨w.heap.size + 1, 2, none⟩) (by simp) (.slice B2 p.word.length d2))
  clear hap hP1 hP2 hf1 hf2 hO1 hO2 hb1 hb2 hs0 hw1
  go_wp2
  exact bodyPost_ret (v := .agg #[.slice B1 p.st.length d1, .int .i64 p.step, .slice B2 p.word.length d2]) (by simp [results, Tryd.results39, go_sem, y0, y1, y2]) rfl ⟨_, rfl, ⟨_, _, rfl, HP1.out, HP2.out, HAP.out⟩, HB.out⟩

set_option maxHeartbeats 2000000 in
set_option maxRecDepth 100000 in
theorem i_copyDesk (v : Value) (d : Dk) (w : World) (h : DkI w v d) (hs : d.now.st.length ≤ 1000) (hw : d.now.word.length ≤ 1000) (hp : d.past.length ≤ 1000) (hps : ∀ j, j < d.past.length → (d.past.getD j z0).st.length ≤ 1000 ∧ (d.past.getD j z0).word.length ≤ 1000) :
    Calls Tryd.prog 34 #[v] w fun e w' => ∃ v', e = .returned v' ∧ (∃ f, DkO w' w.heap.size w'.heap.size f v' d) ∧ Below w.heap.size w w' := by
  obtain ⟨A0, c0, A2, c2, A3, c3, rfl, i0, i2, i3⟩ := h.open
  clear h
  obtain ⟨_, _, e1, hm1, hl1, hc1⟩ := i3.cells
  cases e1
  have HC := Lib.hid hc1; have HPS := Lib.hid hps; clear hc1 hps
  go_enter Tryd.func34, Tryd.ntmps34
  go_wp2_with fail
  refine (i_copyPlace _ d.now _ (PlI.mk i0.at i2.at) hs hw).mono ?_
  rintro e w1 ⟨v1, rfl, ⟨y0, y2, rfl, hO0, hO2, hap⟩, hb1⟩
  obtain ⟨B0, e0, rfl⟩ := hO0.ints.form
  obtain ⟨B2, e2, rfl⟩ := hO2.ints.form
  have hz : w.heap.size + 1 < w1.heap.size := by have := hb1.size; simp at this; omega
  have ne0 : w.heap.size ≠ w1.heap.size := by omega
  have ne1 : w.heap.size + 1 ≠ w1.heap.size := by omega
  have BX : w1.heap[w.heap.size]? = some (.cells #[.slice A0 d.now.st.length c0, .int .i64 d.now.step, .slice A2 d.now.word.length c2, .slice A3 d.past.length c3] 28 (0, 0)) := (hb1.block _ (by simp; omega)).trans ((heap_alloc_old _ _ (by simp)).trans (heap_alloc_new w _))
  have BR : w1.heap[w.heap.size + 1]? = some (.cells #[.slice none 0 0, .int .i64 0, .slice none 0 0, .slice none 0 0] 28 (0, 0)) := (hb1.block _ (by simp)).trans (by simpa using heap_alloc_new (w.alloc (.cells #[.slice A0 d.now.st.length c0, .int .i64 d.now.step, .slice A2 d.now.word.length c2, .slice A3 d.past.length c3] 28)) _)
  have x3 : ∀ o, (w1.alloc o).cell? ⟨w.heap.size, 3, none⟩ = some (.slice A3 d.past.length c3) := fun o => cell_at (block_cell BX 3 rfl)
  haveI bw1 : Bel w w1 := Bel.step (w := w) hb1
  have HBX := Lib.hid BX; have HBR := Lib.hid BR; have HO0 := Lib.hid hO0; have HO2 := Lib.hid hO2; have HAP := Lib.hid hap
  clear BX BR hO0 hO2 hap hb1
  go_wp2
  go_loopw [13] (fun i wr => ∃ k : Nat, k ≤ d.past.length ∧ i = .int .i64 k ∧ ∃ f vp, Hid (wr.heap[w1.heap.size]? = some (.cells #[.slice B0 d.now.st.length e0, .int .i64 d.now.step, .slice B2 d.now.word.length e2, vp] 28 (0, 0)) ∧ OwnT wr w.heap.size wr.heap.size f 0 (.slice B0 d.now.st.length e0) d.now.st ∧ OwnT wr w.heap.size wr.heap.size f 1 (.slice B2 d.now.word.length e2) d.now.word ∧ OwnPs wr w1.heap.size wr.heap.size f vp (d.past.take k)) ∧ Hid (Below w1.heap.size w1 wr)) (fun i _ => d.past.length - (intOf i).toNat)
  case atStart =>
    refine ⟨0, by omega, rfl, retag (fun _ => 0) 0 (.slice B0 d.now.st.length e0) 0, .slice none 0 0, ⟨heap_alloc_new _ _, ?_, ?_, OwnPs.nil _ _ _ _⟩, (Bel.out : Below w1.heap.size w1 _)⟩
    · exact (HO0.out.bel (Bel.out : Below w1.heap.size w1 (w1.alloc _))).tag (by simp; omega) (Nat.le_refl _) (fun k e => retag_one (Nat.zero_le _) e)
    · exact (HO2.out.bel (Bel.out : Below w1.heap.size w1 (w1.alloc _))).tag (by simp; omega) (Nat.le_refl _) (fun k e => retag_two (Nat.zero_le _) (fun e2 => HAP.out k e2 e))
  case round =>
    clear x3
    obtain ⟨k, hk, rfl, f, vp, hR, hB⟩ := hrel
    haveI : Bel w1 wr := ⟨hB.out⟩
    haveI : Bel w wr := Bel.step (w := w) hB.out
    have hpt : (d.past.take k).length = k := by rw [List.length_take]; omega
    by_cases hlt : k < d.past.length
    · obtain ⟨b, o, X0, x0, X2, x2, rfl, q0, q1, q2, q3, q4⟩ := HC.out k hlt
      have hpk := HPS.out k hlt
      have HT := Lib.hid (take_getD d.past z0 k hlt)
      generalize d.past.getD k z0 = p at *
      replace q0 := cell_at q0 (W := wr)
      replace q1 := cell_at q1 (W := wr)
      replace q2 := cell_at q2 (W := wr)
      obtain ⟨VA, vc, e⟩ := hR.out.2.2.2.pls.form
      rw [hpt] at e
      subst e
      have HPT := Lib.hid hpt; clear hpt
      go_wp2_with fail
      obtain ⟨W5, hW5⟩ : ∃ W5, W5 = wr.alloc (.cells #[.slice X0 p.st.length x0, .int .i64 p.step, .slice X2 p.word.length x2] 25) := ⟨_, rfl⟩
      rw [← hW5]
      haveI bW5 : Bel wr W5 := by rw [hW5]; exact Bel.alloc
      haveI : Bel w W5 := Bel.step (w := w) bW5.out
      have BG := block_at (W := W5) hR.out.1
      have BT : W5.heap[wr.heap.size]? = some (.cells #[.slice X0 p.st.length x0, .int .i64 p.step, .slice X2 p.word.length x2] 25 (0, 0)) := by rw [hW5]; exact heap_alloc_new _ _
      have hsz5 : W5.heap.size = wr.heap.size + 1 := by rw [hW5]; simp
      have hwr := hB.out.size
      have hGlt : w1.heap.size < wr.heap.size := (Array.getElem?_eq_some_iff.1 hR.out.1).1
      have HGT := Lib.hid (And.intro BG BT); have HSZ := Lib.hid hsz5
      clear hW5 hsz5
      refine PrintLast.start_ (n := 8) (S := fun w' => w'.cell? ⟨w1.heap.size, 3, none⟩ = some (.slice VA k vc) ∧ w'.cell? ⟨wr.heap.size, 0, none⟩ = some (.slice X0 p.st.length x0) ∧ w'.cell? ⟨wr.heap.size, 1, none⟩ = some (.int .i64 p.step) ∧ w'.cell? ⟨wr.heap.size, 2, none⟩ = some (.slice X2 p.word.length x2)) (ds := [7]) #[false, false, false, false, false, false, false, false] (by kernel_rfl) rfl rfl ⟨block_cell BG 3 rfl, block_cell BT 0 rfl, block_cell BT 1 rfl, block_cell BT 2 rfl⟩ (fun hHeld => ?_)
      clear BG BT
      refine PrintLast.pure_ (i := 0) (N := (some 17)) (v := ?_) (a' := ?_) #[true, false, false, false, false, false, false, false] rfl rfl (by kernel_rfl) (fun _ _ _ h => h) (Or.inl ⟨by rfl, ?_⟩) ?_ ?_
      rotate_left
      · (intro w'; go_simp; with_reducible rfl)
      rotate_left
      · (simp only [Act.put, List.setIfInBounds_toArray, List.set_cons_zero, List.set_cons_succ, PrintLast.i64_w, PrintLast.i32_w]; rfl)
      refine PrintLast.take_ (i := 1) (N := (some 18)) (v := ?_) (a' := ?_) #[true, true, false, false, false, false, false, false] rfl rfl (by kernel_rfl) (fun _ _ _ h => h) (Or.inl ⟨by rfl, ?_⟩) hHeld ?_ ?_
      rotate_left
      · (rintro w' ⟨s0, s1, s2, s3⟩; go_simp; with_reducible rfl)
      rotate_left
      · (simp only [Act.put, List.setIfInBounds_toArray, List.set_cons_zero, List.set_cons_succ, PrintLast.i64_w, PrintLast.i32_w]; rfl)
      refine PrintLast.take_ (i := 2) (N := (some 19)) (v := ?_) (a' := ?_) #[true, true, true, false, false, false, false, false] rfl rfl (by kernel_rfl) (fun _ _ _ h => h) (Or.inl ⟨by rfl, ?_⟩) hHeld ?_ ?_
      rotate_left
      · (rintro w' ⟨s0, s1, s2, s3⟩; go_simp; with_reducible rfl)
      rotate_left
      · (simp only [Act.put, List.setIfInBounds_toArray, List.set_cons_zero, List.set_cons_succ, PrintLast.i64_w, PrintLast.i32_w]; rfl)
      refine PrintLast.one_ (i := 3) (N := (some 20)) #[true, true, true, true, false, false, false, false] rfl rfl (by kernel_rfl) (by decide) (fun K hK => ?_)
      refine PrintLast.goes_ Tryd.func39 (by kernel_rfl) rfl #[.agg #[.slice X0 p.st.length x0, .int .i64 p.step, .slice X2 p.word.length x2]] (by rfl) rfl rfl (by (try simp only [List.map_toArray, List.map_cons, List.map_nil]); first | done | rfl) ?_
      refine (i_copyPlace _ p _ (PlI.mk q3.at q4.at) hpk.1 hpk.2).mono ?_
      rintro e w2 ⟨v2, rfl, ⟨z0', z2', rfl, hP0, hP2, hap2⟩, hb2⟩
      obtain ⟨C0, g0, rfl⟩ := hP0.ints.form
      obtain ⟨C2, g2, rfl⟩ := hP2.ints.form
      refine ⟨_, rfl, ?_⟩
      haveI b2 : Bel W5 w2 := Bel.step (w := W5) hb2
      have BG2 := block_at (W := w2) HGT.out.1
      have BT2 := block_at (W := w2) HGT.out.2
      refine hK.out _ _ ⟨block_cell BG2 3 rfl, block_cell BT2 0 rfl, block_cell BT2 1 rfl, block_cell BT2 2 rfl⟩ (fun hHeld => ?_)
      clear hK K
      refine PrintLast.norm_ (a' := ?_) ?_ ?_
      rotate_left
      · (show Act.put _ (some 20) _ = _; simp only [Act.put, List.setIfInBounds_toArray, List.set_cons_zero, List.set_cons_succ, PrintLast.i64_w, PrintLast.i32_w]; rfl)
      refine PrintLast.one_ (i := 4) (N := (some 21)) #[true, true, true, true, true, false, false, false] rfl rfl (by kernel_rfl) (by decide) (fun K hK => ?_)
      refine PrintLast.value_ (w1 := ?_) (v := ?_) (by rfl) rfl ?_ ?_
      rotate_left 2
      · (go_simp; constructor <;> rfl)
      refine hK.out _ _ ⟨block_cell (block_at BG2) 3 rfl, block_cell (block_at BT2) 0 rfl, block_cell (block_at BT2) 1 rfl, block_cell (block_at BT2) 2 rfl⟩ (fun hHeld => ?_)
      clear hK K
      refine PrintLast.norm_ (a' := ?_) ?_ ?_
      rotate_left
      · (show Act.put _ (some 21) _ = _; simp only [Act.put, List.setIfInBounds_toArray, List.set_cons_zero, List.set_cons_succ, PrintLast.i64_w, PrintLast.i32_w]; rfl)
      refine PrintLast.one_ (i := 5) (N := (some 22)) #[true, true, true, true, true, true, false, false] rfl rfl (by kernel_rfl) (by decide) (fun K hK => ?_)
      have hes := hR.out.2.2.2
      obtain ⟨es, hes1, hes2, hes3⟩ := hes
      rw [HPT.out] at hes1 hes3
      haveI bwr2 : Bel wr w2 := Bel.step (w := wr) b2.out
      haveI bw2 : Bel w w2 := Bel.step (w := w) bwr2.out
      have hN : Hid (wr.heap.size ≤ W5.drew.heap.size) := by show _ ≤ _; have := HSZ.out; simp; omega
      have hown := own_below hes1 (Bel.alloc (w := wr) (W := w2) (o := .cells #[.slice C0 p.st.length g0, .int .i64 p.step, .slice C2 p.word.length g2] 25)).out
      refine app_step eP (by rfl) _ _ (by rfl) w1.heap.size (.slice VA k vc) k es (by rfl) hown w2.heap.size 1 1 #[.slice C0 p.st.length g0, .int .i64 p.step, .slice C2 p.word.length g2] (by rfl) (heap_alloc_new w2 _) (by rfl) (by simp [Value.oneCell']) (by omega) (by omega) (by omega) (by have := bwr2.out.size; simp; omega) ?_
      intro g cap w3 hown3 hgr hat
      have BG3 := block_other (block_at (W := w2.alloc (.cells #[.slice C0 p.st.length g0, .int .i64 p.step, .slice C2 p.word.length g2] 25)) BG2) hown hgr (by decide)
      have BT3 : w3.heap[wr.heap.size]? = some (.cells #[.slice X0 p.st.length x0, .int .i64 p.step, .slice X2 p.word.length x2] 25 (0, 0)) :=
        (hgr.block _ (by have := (Array.getElem?_eq_some_iff.1 BT2).1; simp; omega) (fun e => by have := hes2 _ e.symm; omega)).trans (block_at BT2)
      have hP0' : OwnI (w2.alloc (.cells #[.slice C0 p.st.length g0, .int .i64 p.step, .slice C2 p.word.length g2] 25)) W5.drew.heap.size (.slice C0 p.st.length g0) p.st := hP0.at
      have hP2' : OwnI (w2.alloc (.cells #[.slice C0 p.st.length g0, .int .i64 p.step, .slice C2 p.word.length g2] 25)) W5.drew.heap.size (.slice C2 p.word.length g2) p.word := hP2.at
      have hpush := OwnPs.push (f := f) (p := p) (ps := d.past.take k) (by rw [HPT.out]; exact hown) hes2
        (fun j hj => by
          rw [HPT.out] at hj
          obtain ⟨a0, a2, k0, k1, k2, k3, k4⟩ := hes3 j hj
          exact ⟨a0, a2, k0, k1, k2, k3.kept (fun i _ hi => (Bel.out : Below wr.heap.size wr (w2.alloc _)).block i hi), k4.kept (fun i _ hi => (Bel.out : Below wr.heap.size wr (w2.alloc _)).block i hi)⟩)
        hP0' hP2' hap2 hN.out (by have := hN.out; omega) hgr (by rw [HPT.out]; exact hown3)
      have keep : ∀ {t : Nat} {u : Value} {xs : List Int}, t < 2 → OwnT wr w.heap.size wr.heap.size f t u xs → OwnT w3 w.heap.size w3.heap.size (retag f W5.drew.heap.size (.slice C0 p.st.length g0) (2 * (d.past.take k).length + 2)) t u xs := fun {t u xs} _ h =>
        ⟨own_other (own_below h.1 (Bel.out : Below wr.heap.size wr (w2.alloc (.cells #[.slice C0 p.st.length g0, .int .i64 p.step, .slice C2 p.word.length g2] 25)))) hown hgr (by decide), fun i e => by
          obtain ⟨a, b⟩ := h.2 i e
          have h1 := hN.out
          have h2 := hgr.size
          have h3 := bwr2.out.size
          exact ⟨by rw [retag_old (by omega)]; exact a, by simp at h2; omega⟩⟩
      have hT0 := keep (by decide) hR.out.2.1
      have hT2 := keep (by decide) hR.out.2.2.1
      have hB3 : Below w1.heap.size w1 w3 := (Below.trans hB.out ((Bel.out : Below wr.heap.size wr (w2.alloc (.cells #[.slice C0 p.st.length g0, .int .i64 p.step, .slice C2 p.word.length g2] 25))).mono hB.out.size)).grown hgr (by have := bwr2.out.size; simp; omega) (fun q e => (World.ownsRow.lt hown q e).1)
      have H := Lib.hid (And.intro hpush (And.intro hT0 (And.intro hT2 hB3)))
      have HBG3 := Lib.hid BG3
      clear hpush hT0 hT2 hB3 keep hP0' hP2'
      refine hK.out _ _ ⟨block_cell BG3 3 rfl, block_cell BT3 0 rfl, block_cell BT3 1 rfl, block_cell BT3 2 rfl⟩ (fun hHeld => ?_)
      clear hK K
      refine PrintLast.norm_ (a' := ?_) ?_ ?_
      rotate_left
      · (show Act.put _ (some 22) _ = _; simp only [Act.put, List.setIfInBounds_toArray, List.set_cons_zero, List.set_cons_succ, PrintLast.i64_w, PrintLast.i32_w]; rfl)
      refine PrintLast.pure_ (i := 6) (N := (some 23)) (v := ?_) (a' := ?_) #[true, true, true, true, true, true, true, false] rfl rfl (by kernel_rfl) (fun _ _ _ h => h) (Or.inl ⟨by rfl, ?_⟩) ?_ ?_
      rotate_left
      · (intro w'; go_simp; with_reducible rfl)
      rotate_left
      · (simp only [Act.put, List.setIfInBounds_toArray, List.set_cons_zero, List.set_cons_succ, PrintLast.i64_w, PrintLast.i32_w]; rfl)
      refine PrintLast.last_ (i := 7) (N := none) #[true, true, true, true, true, true, true, true] rfl rfl (by kernel_rfl) (by decide) (fun K hK => ?_)
      have hs3 := block_cell BG3 3 rfl
      have hf3 := block_frozen BG3 3
      refine PrintLast.skip_ (w1 := ?_) (by rfl) rfl ?_ ?_
      rotate_left
      · (go_simp; rfl)
      refine hK.out _ _ ?_
      clear hK K
      refine PrintLast.done_ (by kernel_rfl) ?_
      have BG4 := Lib.hid (block_set HBG3.out 3 (.slice (some ⟨g, 0, none⟩) (k + 1) cap))
      have H0 := Lib.hid (H.out.2.1.set HBG3.out (by decide) 3 (.slice (some ⟨g, 0, none⟩) (k + 1) cap))
      have H2 := Lib.hid (H.out.2.2.1.set HBG3.out (by decide) 3 (.slice (some ⟨g, 0, none⟩) (k + 1) cap))
      have H3 := Lib.hid (H.out.1.set HBG3.out (by decide) (by decide) 3 (.slice (some ⟨g, 0, none⟩) (k + 1) cap))
      have H4 := Lib.hid (H.out.2.2.2.setCell (p := ⟨w1.heap.size, 3, none⟩) (Nat.le_refl _) (.slice (some ⟨g, 0, none⟩) (k + 1) cap))
      have HSZ4 : Hid ((w3.setCell ⟨w1.heap.size, 3, none⟩ (.slice (some ⟨g, 0, none⟩) (k + 1) cap)).heap.size = w3.heap.size) := by show _ = _; simp
      go_wp2
      exact ⟨⟨k + 1, by omega, by go_num, _, _, ⟨BG4.out, by rw [HSZ4.out]; exact H0.out, by rw [HSZ4.out]; exact H2.out, by rw [HSZ4.out, HT.out]; exact H3.out⟩, H4.out⟩, by simp [intOf]; omega⟩
    · have BGX := block_at (W := wr) HBX.out
      have BRX := block_at (W := wr) HBR.out
      have g0 := block_cell hR.out.1 0 rfl
      have g1 := block_cell hR.out.1 1 rfl
      have g2 := block_cell hR.out.1 2 rfl
      have g3 := block_cell hR.out.1 3 rfl
      have r0 := block_cell BRX 0 rfl
      have r1 := block_cell BRX 1 rfl
      have r2 := block_cell BRX 2 rfl
      have r3 := block_cell BRX 3 rfl
      have f0 := block_frozen BRX 0
      have f1 := block_frozen BRX 1
      have f2 := block_frozen BRX 2
      have f3 := block_frozen BRX 3
      have HPS := hR.out.2.2.2
      rw [List.take_of_length_le (by omega)] at HPS
      obtain ⟨VA, vc, e⟩ := HPS.pls.form
      subst e
      have HH := Lib.hid (And.intro hR.out.2.1 (And.intro hR.out.2.2.1 HPS))
      clear HPS BGX BRX hpt
      have HB : Hid (Below w.heap.size w wr) := (Bel.out : Below w.heap.size w wr)
      have hlw : Hid (w.heap.size ≤ w1.heap.size) := by show _ ≤ _; omega
      have HBR2 := Lib.hid (block_at (W := wr) HBR.out)
      have SZ : Hid (w.heap.size + 1 < wr.heap.size) := (Array.getElem?_eq_some_iff.1 HBR2.out).1
      go_wp2
      refine bodyPost_ret (v := .agg #[.slice B0 d.now.st.length e0, .int .i64 d.now.step, .slice B2 d.now.word.length e2, .slice VA d.past.length vc]) (by simp [results, Tryd.results34, go_sem, r0, r1, r2, r3]) rfl ⟨_, rfl, ⟨f, ?_⟩, ?_⟩
      · have h := DkO.set4 (⟨_, _, _, rfl, HH.out.1, HH.out.2.1, HH.out.2.2.lo hlw.out⟩ : DkO wr w.heap.size wr.heap.size f _ d) HBR2.out (by decide) (by decide) (.slice B0 d.now.st.length e0) (.int .i64 d.now.step) (.slice B2 d.now.word.length e2) (.slice VA d.past.length vc)
        simpa only [World.size_setCell] using h
      · exact (((HB.out.setCell (p := ⟨w.heap.size + 1, 0, none⟩) (by simp) _).setCell (p := ⟨w.heap.size + 1, 1, none⟩) (by simp) _).setCell (p := ⟨w.heap.size + 1, 2, none⟩) (by simp) _).setCell (p := ⟨w.heap.size + 1, 3, none⟩) (by simp) _

theorem block_new2 (w : World) (o p : Obj) : ((w.alloc o).alloc p).heap[w.heap.size + 1]? = some p := by
  have h := heap_alloc_new (w.alloc o) p
  simpa using h

set_option maxHeartbeats 2000000 in
set_option maxRecDepth 100000 in
theorem s_l15Place (v : Value) (p : Pl) (w : World) (h : PlI w v p) (hs : p.st.length ≤ 1000) (hw : p.word.length ≤ 1000) :
    Calls Tryd.prog 73 #[v] w fun e w' => ∃ v', e = .returned v' ∧ PlO w' w.heap.size v' p ∧ Below w.heap.size w w' := by
  obtain ⟨A0, c0, A2, c2, rfl, i0, i2⟩ := h.open
  go_enter Tryd.func73, Tryd.ntmps73
  go_wp2_with fail
  obtain ⟨W0, hW0⟩ : ∃ W0, W0 = (w.alloc (.cells #[.slice A0 p.st.length c0, .int .i64 p.step, .slice A2 p.word.length c2] 25)).alloc (.cells #[.slice none 0 0, .int .i64 0, .slice none 0 0] 25) := ⟨_, rfl⟩
  have t0 : W0.cell? ⟨w.heap.size, 0, none⟩ = some (.slice A0 p.st.length c0) := by rw [hW0]; simp
  have t1 : W0.cell? ⟨w.heap.size, 1, none⟩ = some (.int .i64 p.step) := by rw [hW0]; simp
  have t2 : W0.cell? ⟨w.heap.size, 2, none⟩ = some (.slice A2 p.word.length c2) := by rw [hW0]; simp
  haveI b0 : Bel w W0 := by rw [hW0]; exact Bel.alloc
  have hz : W0.heap.size = w.heap.size + 2 := by rw [hW0]; simp
  have hbr : W0.heap[w.heap.size + 1]? = some (.cells #[.slice none 0 0, .int .i64 0, .slice none 0 0] 25 (0, 0)) := by rw [hW0]; simpa using heap_alloc_new (w.alloc (.cells #[.slice A0 p.st.length c0, .int .i64 p.step, .slice A2 p.word.length c2] 25)) (.cells #[.slice none 0 0, .int .i64 0, .slice none 0 0] 25)
  rw [← hW0]
  have HBR := Lib.hid hbr
  have HZ := Lib.hid hz
  clear hW0 hz hbr
  refine PrintLast.start_ (n := 12) (S := fun w' => w'.cell? ⟨w.heap.size, 0, none⟩ = some (.slice A0 p.st.length c0) ∧ w'.cell? ⟨w.heap.size, 1, none⟩ = some (.int .i64 p.step) ∧ w'.cell? ⟨w.heap.size, 2, none⟩ = some (.slice A2 p.word.length c2)) (ds := [11]) #[false, false, false, false, false, false, false, false, false, false, false, false] (by kernel_rfl) rfl rfl ⟨cell_at t0, cell_at t1, cell_at t2⟩ (fun hHeld => ?_)
  refine PrintLast.pure_ (i := 1) (N := (some 4)) (v := ?_) (a' := ?_) #[false, true, false, false, false, false, false, false, false, false, false, false] rfl rfl (by kernel_rfl) (fun _ _ _ h => h) (Or.inl ⟨by rfl, ?_⟩) ?_ ?_
  rotate_left
  · (intro w'; go_simp; with_reducible rfl)
  rotate_left
  · (simp only [Act.put, List.setIfInBounds_toArray, List.set_cons_zero, List.set_cons_succ, PrintLast.i64_w, PrintLast.i32_w]; rfl)
  refine PrintLast.take_ (i := 2) (N := (some 5)) (v := ?_) (a' := ?_) #[false, true, true, false, false, false, false, false, false, false, false, false] rfl rfl (by kernel_rfl) (fun _ _ _ h => h) (Or.inl ⟨by rfl, ?_⟩) hHeld ?_ ?_
  rotate_left
  · (rintro w' ⟨s0, s1, s2⟩; go_simp; with_reducible rfl)
  rotate_left
  · (simp only [Act.put, List.setIfInBounds_toArray, List.set_cons_zero, List.set_cons_succ, PrintLast.i64_w, PrintLast.i32_w]; rfl)
  refine PrintLast.pure_ (i := 4) (N := (some 7)) (v := ?_) (a' := ?_) #[false, true, true, false, true, false, false, false, false, false, false, false] rfl rfl (by kernel_rfl) (fun _ _ _ h => h) (Or.inl ⟨by rfl, ?_⟩) ?_ ?_
  rotate_left
  · (intro w'; go_simp; with_reducible rfl)
  rotate_left
  · (simp only [Act.put, List.setIfInBounds_toArray, List.set_cons_zero, List.set_cons_succ, PrintLast.i64_w, PrintLast.i32_w]; rfl)
  refine PrintLast.take_ (i := 5) (N := (some 8)) (v := ?_) (a' := ?_) #[false, true, true, false, true, true, false, false, false, false, false, false] rfl rfl (by kernel_rfl) (fun _ _ _ h => h) (Or.inl ⟨by rfl, ?_⟩) hHeld ?_ ?_
  rotate_left
  · (rintro w' ⟨s0, s1, s2⟩; go_simp; with_reducible rfl)
  rotate_left
  · (simp only [Act.put, List.setIfInBounds_toArray, List.set_cons_zero, List.set_cons_succ, PrintLast.i64_w, PrintLast.i32_w]; rfl)
  refine PrintLast.pure_ (i := 7) (N := (some 10)) (v := ?_) (a' := ?_) #[false, true, true, false, true, true, false, true, false, false, false, false] rfl rfl (by kernel_rfl) (fun _ _ _ h => h) (Or.inl ⟨by rfl, ?_⟩) ?_ ?_
  rotate_left
  · (intro w'; go_simp; with_reducible rfl)
  rotate_left
  · (simp only [Act.put, List.setIfInBounds_toArray, List.set_cons_zero, List.set_cons_succ, PrintLast.i64_w, PrintLast.i32_w]; rfl)
  refine PrintLast.take_ (i := 8) (N := (some 11)) (v := ?_) (a' := ?_) #[false, true, true, false, true, true, false, true, true, false, false, false] rfl rfl (by kernel_rfl) (fun _ _ _ h => h) (Or.inl ⟨by rfl, ?_⟩) hHeld ?_ ?_
  rotate_left
  · (rintro w' ⟨s0, s1, s2⟩; go_simp; with_reducible rfl)
  rotate_left
  · (simp only [Act.put, List.setIfInBounds_toArray, List.set_cons_zero, List.set_cons_succ, PrintLast.i64_w, PrintLast.i32_w]; rfl)
  refine PrintLast.join_ (σ := Value × Value × Value) 3 #[true, true, true, true, true, true, true, true, true, false, false, false] (fun s_ => [(3, s_.1), (6, s_.2.1), (9, s_.2.2)]) (fun s_ w' => (w'.cell? ⟨w.heap.size, 0, none⟩ = some (.slice A0 p.st.length c0) ∧ w'.cell? ⟨w.heap.size, 1, none⟩ = some (.int .i64 p.step) ∧ w'.cell? ⟨w.heap.size, 2, none⟩ = some (.slice A2 p.word.length c2)) ∧ OwnI w' (w.heap.size + 2) s_.2.1 p.st ∧ OwnI w' (w.heap.size + 2) s_.2.2 [] ∧ (∃ gb, s_.2.2 = .slice (some ⟨gb, 0, none⟩) 0 0 ∧ s_.2.1.ownBlock ≠ some gb) ∧ Below W0.heap.size W0 w') ?_ ?_
  rotate_left
  · intro hCont
    refine PrintLast.two_ (i := 0) (j := 6) (Ni := some 3) (Nj := some 9) #[true, true, true, false, true, true, false, true, true, false, false, false] #[false, true, true, false, true, true, true, true, true, false, false, false] rfl rfl rfl rfl (by kernel_rfl) (by decide) (by decide) (fun K hK => ?_) (fun K hK => ?_)
    · skip
      refine PrintLast.value_ (w1 := ?_) (v := ?_) (by rfl) rfl ?_ ?_
      rotate_left 2
      · (go_simp; constructor <;> rfl)
      refine hK.out _ _ ⟨cell_at t0, cell_at t1, cell_at t2⟩ (fun hHeld => ?_)
      clear hK K
      refine PrintLast.norm_ (a' := ?_) ?_ ?_
      rotate_left
      · (show Act.put _ (some 3) _ = _; simp only [Act.put, List.setIfInBounds_toArray, List.set_cons_zero, List.set_cons_succ, PrintLast.i64_w, PrintLast.i32_w]; rfl)
      refine PrintLast.two_ (i := 3) (j := 6) (Ni := some 6) (Nj := some 9) #[true, true, true, true, true, true, false, true, true, false, false, false] #[true, true, true, false, true, true, true, true, true, false, false, false] rfl rfl rfl rfl (by kernel_rfl) (by decide) (by decide) (fun K hK => ?_) (fun K hK => ?_)
      · skip
        refine app_all_step (by rfl) (.tmp 3) (.tmp 5) (by rfl) (w.heap.size + 2) (.slice (some ⟨W0.heap.size, 0, none⟩) 0 0) [] (by rfl) (empty_block (heap_alloc_new W0 _) (by have := HZ.out; (try simp) <;> omega)) _ p.st (by rfl) i0.at (by have := HZ.out; (try simp) <;> omega) (by have := HZ.out; (try simp) <;> omega) ?_
        intro v6 w1 hO1 hg1 hat1
        rw [List.nil_append] at hO1
        haveI : Bel W0 w1 := ⟨(Bel.out : Below W0.heap.size W0 (W0.alloc (.cells #[] 3)).drew).grown hg1 (by have := HZ.out; (try simp) <;> omega) (fun k e => by (try simp [Value.ownBlock] at e); omega)⟩
        refine hK.out _ _ ⟨cell_at t0, cell_at t1, cell_at t2⟩ (fun hHeld => ?_)
        clear hK K
        refine PrintLast.norm_ (a' := ?_) ?_ ?_
        rotate_left
        · (show Act.put _ (some 6) _ = _; simp only [Act.put, List.setIfInBounds_toArray, List.set_cons_zero, List.set_cons_succ, PrintLast.i64_w, PrintLast.i32_w]; rfl)
        refine PrintLast.one_ (i := 6) (N := (some 9)) #[true, true, true, true, true, true, true, true, true, false, false, false] rfl rfl (by kernel_rfl) (by decide) (fun K hK => ?_)
        refine PrintLast.value_ (w1 := ?_) (v := ?_) (by rfl) rfl ?_ ?_
        rotate_left 2
        · (go_simp; constructor <;> rfl)
        refine hK.out _ _ ⟨cell_at t0, cell_at t1, cell_at t2⟩ (fun hHeld => ?_)
        clear hK K
        refine PrintLast.norm_ (a' := ?_) ?_ ?_
        rotate_left
        · (show Act.put _ (some 9) _ = _; simp only [Act.put, List.setIfInBounds_toArray, List.set_cons_zero, List.set_cons_succ, PrintLast.i64_w, PrintLast.i32_w]; rfl)
        exact PrintLast.norm_ (by simp only [PrintLast.putAll, Act.put, List.setIfInBounds_toArray, List.set_cons_zero, List.set_cons_succ]) (hCont (.slice (some ⟨W0.heap.size, 0, none⟩) 0 0, v6, .slice (some ⟨w1.heap.size, 0, none⟩) 0 0) _ ⟨hHeld, hO1.at, empty_block (heap_alloc_new w1 _) (by have := (Bel.out : Below W0.heap.size W0 w1).size; have := HZ.out; omega), ⟨w1.heap.size, rfl, fun e => by have := (hO1.lt _ e).2; have := HZ.out; omega⟩, Bel.out⟩)
      · skip
        refine PrintLast.value_ (w1 := ?_) (v := ?_) (by rfl) rfl ?_ ?_
        rotate_left 2
        · (go_simp; constructor <;> rfl)
        refine hK.out _ _ ⟨cell_at t0, cell_at t1, cell_at t2⟩ (fun hHeld => ?_)
        clear hK K
        refine PrintLast.norm_ (a' := ?_) ?_ ?_
        rotate_left
        · (show Act.put _ (some 9) _ = _; simp only [Act.put, List.setIfInBounds_toArray, List.set_cons_zero, List.set_cons_succ, PrintLast.i64_w, PrintLast.i32_w]; rfl)
        refine PrintLast.one_ (i := 3) (N := (some 6)) #[true, true, true, true, true, true, true, true, true, false, false, false] rfl rfl (by kernel_rfl) (by decide) (fun K hK => ?_)
        refine app_all_step (by rfl) (.tmp 3) (.tmp 5) (by rfl) (w.heap.size + 2) (.slice (some ⟨W0.heap.size, 0, none⟩) 0 0) [] (by rfl) (empty_block (block_at (heap_alloc_new W0 _)) (by have := HZ.out; (try simp) <;> omega)) _ p.st (by rfl) i0.at (by have := HZ.out; (try simp) <;> omega) (by have := HZ.out; (try simp) <;> omega) ?_
        intro v6 w1 hO1 hg1 hat1
        rw [List.nil_append] at hO1
        haveI : Bel W0 w1 := ⟨(Bel.out : Below W0.heap.size W0 ((W0.alloc (.cells #[] 3)).alloc (.cells #[] 3)).drew).grown hg1 (by have := HZ.out; (try simp) <;> omega) (fun k e => by (try simp [Value.ownBlock] at e); omega)⟩
        refine hK.out _ _ ⟨cell_at t0, cell_at t1, cell_at t2⟩ (fun hHeld => ?_)
        clear hK K
        refine PrintLast.norm_ (a' := ?_) ?_ ?_
        rotate_left
        · (show Act.put _ (some 6) _ = _; simp only [Act.put, List.setIfInBounds_toArray, List.set_cons_zero, List.set_cons_succ, PrintLast.i64_w, PrintLast.i32_w]; rfl)
        refine PrintLast.norm_ (by simp only [PrintLast.putAll, Act.put, List.setIfInBounds_toArray, List.set_cons_zero, List.set_cons_succ]) (hCont (.slice (some ⟨W0.heap.size, 0, none⟩) 0 0, v6, .slice (some ⟨W0.heap.size + 1, 0, none⟩) 0 0) _ ⟨hHeld, hO1, empty_block ?_ (by have := HZ.out; (try simp) <;> omega), ⟨W0.heap.size + 1, rfl, fun e => ?_⟩, Bel.out⟩)
        · exact (hg1.block _ (by simp) (by simp [Value.ownBlock])).trans (block_new2 W0 (.cells #[] 3) (.cells #[] 3))
        · rcases hat1 with h | ⟨g, h, hge⟩
          · rw [h] at e; simp [Value.ownBlock] at e
          · rw [h] at e; simp at e hge; omega
    · skip
      refine PrintLast.value_ (w1 := ?_) (v := ?_) (by rfl) rfl ?_ ?_
      rotate_left 2
      · (go_simp; constructor <;> rfl)
      refine hK.out _ _ ⟨cell_at t0, cell_at t1, cell_at t2⟩ (fun hHeld => ?_)
      clear hK K
      refine PrintLast.norm_ (a' := ?_) ?_ ?_
      rotate_left
      · (show Act.put _ (some 9) _ = _; simp only [Act.put, List.setIfInBounds_toArray, List.set_cons_zero, List.set_cons_succ, PrintLast.i64_w, PrintLast.i32_w]; rfl)
      refine PrintLast.one_ (i := 0) (N := (some 3)) #[true, true, true, false, true, true, true, true, true, false, false, false] rfl rfl (by kernel_rfl) (by decide) (fun K hK => ?_)
      refine PrintLast.value_ (w1 := ?_) (v := ?_) (by rfl) rfl ?_ ?_
      rotate_left 2
      · (go_simp; constructor <;> rfl)
      refine hK.out _ _ ⟨cell_at t0, cell_at t1, cell_at t2⟩ (fun hHeld => ?_)
      clear hK K
      refine PrintLast.norm_ (a' := ?_) ?_ ?_
      rotate_left
      · (show Act.put _ (some 3) _ = _; simp only [Act.put, List.setIfInBounds_toArray, List.set_cons_zero, List.set_cons_succ, PrintLast.i64_w, PrintLast.i32_w]; rfl)
      refine PrintLast.one_ (i := 3) (N := (some 6)) #[true, true, true, true, true, true, true, true, true, false, false, false] rfl rfl (by kernel_rfl) (by decide) (fun K hK => ?_)
      refine app_all_step (by rfl) (.tmp 3) (.tmp 5) (by rfl) (w.heap.size + 2) (.slice (some ⟨W0.heap.size + 1, 0, none⟩) 0 0) [] (by rfl) (empty_block (block_new2 W0 (.cells #[] 3) (.cells #[] 3)) (by have := HZ.out; (try simp) <;> omega)) _ p.st (by rfl) i0.at (by have := HZ.out; (try simp) <;> omega) (by have := HZ.out; (try simp) <;> omega) ?_
      intro v6 w1 hO1 hg1 hat1
      rw [List.nil_append] at hO1
      haveI : Bel W0 w1 := ⟨(Bel.out : Below W0.heap.size W0 ((W0.alloc (.cells #[] 3)).alloc (.cells #[] 3)).drew).grown hg1 (by have := HZ.out; (try simp) <;> omega) (fun k e => by (try simp [Value.ownBlock] at e); omega)⟩
      refine hK.out _ _ ⟨cell_at t0, cell_at t1, cell_at t2⟩ (fun hHeld => ?_)
      clear hK K
      refine PrintLast.norm_ (a' := ?_) ?_ ?_
      rotate_left
      · (show Act.put _ (some 6) _ = _; simp only [Act.put, List.setIfInBounds_toArray, List.set_cons_zero, List.set_cons_succ, PrintLast.i64_w, PrintLast.i32_w]; rfl)
      refine PrintLast.norm_ (by simp only [PrintLast.putAll, Act.put, List.setIfInBounds_toArray, List.set_cons_zero, List.set_cons_succ]) (hCont (.slice (some ⟨W0.heap.size + 1, 0, none⟩) 0 0, v6, .slice (some ⟨W0.heap.size, 0, none⟩) 0 0) _ ⟨hHeld, hO1, empty_block ?_ (by have := HZ.out; (try simp) <;> omega), ⟨W0.heap.size, rfl, fun e => ?_⟩, Bel.out⟩)
      · exact (hg1.block _ (by have := HZ.out; (try simp) <;> omega) (by simp [Value.ownBlock])).trans (block_at (heap_alloc_new W0 _))
      · rcases hat1 with h | ⟨g, h, hge⟩
        · rw [h] at e; simp [Value.ownBlock] at e
        · rw [h] at e; simp at e hge; omega
  · rintro ⟨s1, s2, s3⟩ wj ⟨hHeld, hO1, hO2, ⟨gb, rfl, hap⟩, hbj⟩
    haveI bj : Bel W0 wj := ⟨hbj⟩
    haveI : Bel w wj := ⟨Below.trans b0.out (hbj.mono b0.out.size)⟩
    have hgb := (hO2.lt gb rfl).1
    have hzj := hbj.size
    simp only [PrintLast.putAll, Act.put, List.setIfInBounds_toArray, List.set_cons_zero, List.set_cons_succ]
    refine PrintLast.one_ (i := 9) (N := (some 12)) #[true, true, true, true, true, true, true, true, true, true, false, false] rfl rfl (by kernel_rfl) (by decide) (fun K hK => ?_)
    refine app_all_step (by rfl) (.tmp 9) (.tmp 11) (by rfl) (w.heap.size + 2) (.slice (some ⟨gb, 0, none⟩) 0 0) [] (by rfl) hO2 _ p.word (by rfl) i2.at (by simp; omega) (by have := HZ.out; omega) ?_
    intro v12 w2 hO3 hg2 hat2
    rw [List.nil_append] at hO3
    have hgk : ∀ k, (Value.slice (some ⟨gb, 0, none⟩) 0 0).ownBlock = some k → W0.heap.size ≤ k := fun k e => by
      have e' : gb = k := by simpa [Value.ownBlock] using e
      have := HZ.out
      omega
    haveI b2 : Bel W0 w2 := ⟨hbj.grown hg2 hzj (fun k e => hgk k e)⟩
    haveI : Bel w w2 := ⟨Below.trans b0.out (b2.out.mono b0.out.size)⟩
    have hO1' : OwnI w2 (w.heap.size + 2) s2 p.st := World.ownsRow.kept hO1 hg2 (.inr hap)
    have hap' : ∀ k, s2.ownBlock = some k → v12.ownBlock ≠ some k := fun k e1 e2 => by
      rcases hat2 with h | ⟨g, h, hge⟩
      · rw [e2] at h; exact hap (e1.trans h)
      · rw [e2] at h; cases h; have := (hO1.lt _ e1).2; omega
    obtain ⟨B1, d1, rfl⟩ := hO1'.ints.form
    obtain ⟨B2, d2, rfl⟩ := hO3.ints.form
    have BR := block_at (W := w2) HBR.out
    have y0 := block_cell BR 0 rfl
    have y1 := block_cell BR 1 rfl
    have y2 := block_cell BR 2 rfl
    have f0 := block_frozen BR 0
    have f1 := block_frozen BR 1
    have f2 := block_frozen BR 2
    have hP1 : OwnI w2 w.heap.size (.slice B1 p.st.length d1) p.st := hO1'.mono (by omega)
    have hP2 : OwnI w2 w.heap.size (.slice B2 p.word.length d2) p.word := hO3.mono (by omega)
    have hf1 : ∀ k, (Value.slice B1 p.st.length d1).ownBlock = some k → k ≠ w.heap.size + 1 := fun k e1 => by have := (hO1'.lt k e1).1; omega
    have hf2 : ∀ k, (Value.slice B2 p.word.length d2).ownBlock = some k → k ≠ w.heap.size + 1 := fun k e1 => by have := (hO3.lt k e1).1; omega
    have HP1 := Lib.hid ((((hP1.far (p := ⟨w.heap.size + 1, 0, none⟩) (u := .slice B1 p.st.length d1) hf1).far (p := ⟨w.heap.size + 1, 1, none⟩) (u := .int .i64 p.step) hf1).far (p := ⟨w.heap.size + 1, 2, none⟩) (u := .slice B2 p.word.length d2) hf1))
    have HP2 := Lib.hid ((((hP2.far (p := ⟨w.heap.size + 1, 0, none⟩) (u := .slice B1 p.st.length d1) hf2).far (p := ⟨w.heap.size + 1, 1, none⟩) (u := .int .i64 p.step) hf2).far (p := ⟨w.heap.size + 1, 2, none⟩) (u := .slice B2 p.word.length d2) hf2))
    have HAP := Lib.hid hap'
    have HB := Lib.hid ((((Bel.out : Below w.heap.size w w2).setCell (p := ⟨w.heap.size + 1, 0, none⟩) (by simp) (.slice B1 p.st.length d1)).setCell (p := ⟨w.heap.size + 1, 1, none⟩) (by simp) (.int .i64 p.step)).setCell (p := ⟨w.heap.size + 1, 2, none⟩) (by simp) (.slice B2 p.word.length d2))
    clear hgk hap' hap hP1 hP2 hf1 hf2 hO1 hO1' hO2 hO3 hat2 hg2 hbj hgb hzj BR
    refine hK.out _ _ ⟨cell_at t0, cell_at t1, cell_at t2⟩ (fun hHeld => ?_)
    clear hK K
    refine PrintLast.norm_ (a' := ?_) ?_ ?_
    rotate_left
    · (show Act.put _ (some 12) _ = _; simp only [Act.put, List.setIfInBounds_toArray, List.set_cons_zero, List.set_cons_succ, PrintLast.i64_w, PrintLast.i32_w]; rfl)
    refine PrintLast.one_ (i := 10) (N := (some 13)) #[true, true, true, true, true, true, true, true, true, true, true, false] rfl rfl (by kernel_rfl) (by decide) (fun K hK => ?_)
    refine PrintLast.value_ (w1 := ?_) (v := ?_) (by rfl) rfl ?_ ?_
    rotate_left 2
    · (go_simp; constructor <;> rfl)
    refine hK.out _ _ ⟨cell_at t0, cell_at t1, cell_at t2⟩ (fun hHeld => ?_)
    clear hK K
    refine PrintLast.norm_ (a' := ?_) ?_ ?_
    rotate_left
    · (show Act.put _ (some 13) _ = _; simp only [Act.put, List.setIfInBounds_toArray, List.set_cons_zero, List.set_cons_succ, PrintLast.i64_w, PrintLast.i32_w]; rfl)
    refine PrintLast.last_ (i := 11) (N := none) #[true, true, true, true, true, true, true, true, true, true, true, true] rfl rfl (by kernel_rfl) (by decide) (fun K hK => ?_)
    refine PrintLast.skip_ (w1 := ?_) (by rfl) rfl ?_ ?_
    rotate_left
    · (go_simp; rfl)
    refine hK.out _ _ ?_
    clear hK K
    refine PrintLast.done_ (by kernel_rfl) ?_
    go_wp2
    exact bodyPost_ret (v := .agg #[.slice B1 p.st.length d1, .int .i64 p.step, .slice B2 p.word.length d2]) (by simp [results, Tryd.results73, go_sem, y0, y1, y2]) rfl ⟨_, rfl, ⟨_, _, rfl, HP1.out, HP2.out, HAP.out⟩, HB.out⟩

end Go.Proofs.YtpfncjaclgcbnaaDoor.Ub
