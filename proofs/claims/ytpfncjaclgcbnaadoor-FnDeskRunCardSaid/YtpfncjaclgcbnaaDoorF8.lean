/- Contract of the copy of a desk. -/
import Derived.Test.YtpfncjaclgcbnaaDoorF7
set_option linter.unusedVariables false
set_option linter.unusedSimpArgs false
namespace Go.Proofs.YtpfncjaclgcbnaaDoor.Ub
open Go.RowKit Go.Proofs.YtpfncjaclgcbnaaDoorW

set_option maxHeartbeats 2000000 in
set_option maxRecDepth 100000 in
theorem s_l15Copy (v : Value) (d : Dk) (w : World) (h : DkI w v d) (hs : d.now.st.length ≤ 1000) (hw : d.now.word.length ≤ 1000) (hp : d.past.length ≤ 1000) (hps : ∀ j, j < d.past.length → (d.past.getD j z0).st.length ≤ 1000 ∧ (d.past.getD j z0).word.length ≤ 1000) :
    Calls Tryd.prog 40 #[v] w fun e w' => ∃ v', e = .returned v' ∧ (∃ f, DkO w' w.heap.size w'.heap.size f v' d) ∧ Below w.heap.size w w' := by
  obtain ⟨A0, c0, A2, c2, A3, c3, rfl, i0, i2, i3⟩ := h.open
  clear h
  obtain ⟨_, _, e1, hm1, hl1, hc1⟩ := i3.cells
  cases e1
  have HC := Lib.hid hc1; have HPS := Lib.hid hps; clear hc1 hps
  go_enter Tryd.func40, Tryd.ntmps40
  go_wp2_with fail
  refine (s_l15Place _ d.now _ (PlI.mk i0.at i2.at) hs hw).mono ?_
  rintro e w1 ⟨v1, rfl, ⟨y0, y2, rfl, hO0, hO2, hap⟩, hb1⟩
  obtain ⟨B0, e0, rfl⟩ := hO0.ints.form
  obtain ⟨B2, e2, rfl⟩ := hO2.ints.form
  have hz : w.heap.size + 1 < w1.heap.size := by have := hb1.size; simp at this; omega
  have ne0 : w.heap.size ≠ w1.heap.size := by omega
  have ne1 : w.heap.size + 1 ≠ w1.heap.size := by omega
  have BX : w1.heap[w.heap.size]? = some (.cells #[.slice A0 d.now.st.length c0, .int .i64 d.now.step, .slice A2 d.now.word.length c2, .slice A3 d.past.length c3] 28 (0, 0)) := (hb1.block _ (by simp; omega)).trans ((heap_alloc_old _ _ (by simp)).trans (heap_alloc_new w _))
  have BR : w1.heap[w.heap.size + 1]? = some (.cells #[.slice none 0 0, .int .i64 0, .slice none 0 0, .slice none 0 0] 28 (0, 0)) := (hb1.block _ (by simp)).trans (by simpa using heap_alloc_new (w.alloc (.cells #[.slice A0 d.now.st.length c0, .int .i64 d.now.step, .slice A2 d.now.word.length c2, .slice A3 d.past.length c3] 28)) _)
  haveI bw1 : Bel w w1 := Bel.step (w := w) hb1
  have HBX := Lib.hid BX; have HBR := Lib.hid BR; have HO0 := Lib.hid hO0; have HO2 := Lib.hid hO2; have HAP := Lib.hid hap
  clear BX BR hO0 hO2 hap hb1
  go_wp2
  go_loopw [4] (fun i wr => ∃ k : Nat, k ≤ d.past.length ∧ i = .int .i64 k ∧ ∃ f vp, Hid (wr.heap[w1.heap.size]? = some (.cells #[.slice B0 d.now.st.length e0, .int .i64 d.now.step, .slice B2 d.now.word.length e2, vp] 28 (0, 0)) ∧ OwnT wr w.heap.size wr.heap.size f 0 (.slice B0 d.now.st.length e0) d.now.st ∧ OwnT wr w.heap.size wr.heap.size f 1 (.slice B2 d.now.word.length e2) d.now.word ∧ OwnPs wr w1.heap.size wr.heap.size f vp (d.past.take k)) ∧ Hid (Below w1.heap.size w1 wr)) (fun i _ => d.past.length - (intOf i).toNat)
  case atStart =>
    refine ⟨0, by omega, rfl, retag (fun _ => 0) 0 (.slice B0 d.now.st.length e0) 0, .slice none 0 0, ⟨heap_alloc_new _ _, ?_, ?_, OwnPs.nil _ _ _ _⟩, (Bel.out : Below w1.heap.size w1 _)⟩
    · exact (HO0.out.bel (Bel.out : Below w1.heap.size w1 (w1.alloc _))).tag (by simp; omega) (Nat.le_refl _) (fun k e => retag_one (Nat.zero_le _) e)
    · exact (HO2.out.bel (Bel.out : Below w1.heap.size w1 (w1.alloc _))).tag (by simp; omega) (Nat.le_refl _) (fun k e => retag_two (Nat.zero_le _) (fun e2 => HAP.out k e2 e))
  case round =>
    obtain ⟨k, hk, rfl, f, vp, hR, hB⟩ := hrel
    haveI : Bel w1 wr := ⟨hB.out⟩
    haveI : Bel w wr := Bel.step (w := w) hB.out
    have hpt : (d.past.take k).length = k := by rw [List.length_take]; omega
    by_cases hlt : k < d.past.length
    · obtain ⟨b, o, X0, x0, X2, x2, rfl, q0, q1, q2, q3, q4⟩ := HC.out k hlt
      have hpk := HPS.out k hlt
      have HT := Lib.hid (take_getD d.past z0 k hlt)
      generalize d.past.getD k z0 = p at *
      have x3 := block_cell HBX.out 3 rfl
      replace q0 := cell_at q0 (W := w1)
      replace q1 := cell_at q1 (W := w1)
      replace q2 := cell_at q2 (W := w1)
      obtain ⟨VA, vc, e⟩ := hR.out.2.2.2.pls.form
      rw [hpt] at e
      subst e
      have HPT := Lib.hid hpt; clear hpt
      have x3' := cell_at x3 (W := wr)
      go_wp2_with fail
      clear x3'
      have BG := hR.out.1
      have hwr := hB.out.size
      have hGlt : w1.heap.size < wr.heap.size := (Array.getElem?_eq_some_iff.1 hR.out.1).1
      have HGT := Lib.hid BG
      refine PrintLast.start_ (n := 12) (S := fun w' => w'.cell? ⟨w1.heap.size, 3, none⟩ = some (.slice VA k vc) ∧ w'.cell? ⟨w.heap.size, 3, none⟩ = some (.slice (some ⟨b, o, none⟩) d.past.length c3) ∧ w'.cell? ⟨b, o + k * 3, none⟩ = some (.slice X0 p.st.length x0) ∧ w'.cell? ⟨b, o + k * 3 + 1, none⟩ = some (.int .i64 p.step) ∧ w'.cell? ⟨b, o + k * 3 + 2, none⟩ = some (.slice X2 p.word.length x2)) (ds := [11]) #[false, false, false, false, false, false, false, false, false, false, false, false] (by kernel_rfl) rfl rfl ⟨block_cell BG 3 rfl, cell_at x3, cell_at q0, cell_at q1, cell_at q2⟩ (fun hHeld => ?_)
      clear BG
      refine PrintLast.pure_ (i := 0) (N := (some 16)) (v := ?_) (a' := ?_) #[true, false, false, false, false, false, false, false, false, false, false, false] rfl rfl (by kernel_rfl) (fun _ _ _ h => h) (Or.inl ⟨by rfl, ?_⟩) ?_ ?_
      rotate_left
      · (intro w'; go_simp; with_reducible rfl)
      rotate_left
      · (simp only [Act.put, List.setIfInBounds_toArray, List.set_cons_zero, List.set_cons_succ, PrintLast.i64_w, PrintLast.i32_w]; rfl)
      refine PrintLast.pure_ (i := 2) (N := (some 18)) (v := ?_) (a' := ?_) #[true, false, true, false, false, false, false, false, false, false, false, false] rfl rfl (by kernel_rfl) (fun _ _ _ h => h) (Or.inl ⟨by rfl, ?_⟩) ?_ ?_
      rotate_left
      · (intro w'; go_simp; with_reducible rfl)
      rotate_left
      · (simp only [Act.put, List.setIfInBounds_toArray, List.set_cons_zero, List.set_cons_succ, PrintLast.i64_w, PrintLast.i32_w]; rfl)
      refine PrintLast.pure_ (i := 4) (N := (some 20)) (v := ?_) (a' := ?_) #[true, false, true, false, true, false, false, false, false, false, false, false] rfl rfl (by kernel_rfl) (fun _ _ _ h => h) (Or.inl ⟨by rfl, ?_⟩) ?_ ?_
      rotate_left
      · (intro w'; go_simp; with_reducible rfl)
      rotate_left
      · (simp only [Act.put, List.setIfInBounds_toArray, List.set_cons_zero, List.set_cons_succ, PrintLast.i64_w, PrintLast.i32_w]; rfl)
      refine PrintLast.take_ (i := 1) (N := (some 17)) (v := ?_) (a' := ?_) #[true, true, true, false, true, false, false, false, false, false, false, false] rfl rfl (by kernel_rfl) (fun _ _ _ h => h) (Or.inl ⟨by rfl, ?_⟩) hHeld ?_ ?_
      rotate_left
      · (rintro w' ⟨s0, s1, s2, s3, s4⟩; go_simp; with_reducible rfl)
      rotate_left
      · (simp only [Act.put, List.setIfInBounds_toArray, List.set_cons_zero, List.set_cons_succ, PrintLast.i64_w, PrintLast.i32_w]; rfl)
      refine PrintLast.take_ (i := 3) (N := (some 19)) (v := ?_) (a' := ?_) #[true, true, true, true, true, false, false, false, false, false, false, false] rfl rfl (by kernel_rfl) (fun _ _ _ h => h) (Or.inl ⟨by rfl, ?_⟩) hHeld ?_ ?_
      rotate_left
      · (rintro w' ⟨s0, s1, s2, s3, s4⟩; go_simp; with_reducible rfl)
      rotate_left
      · (simp only [Act.put, List.setIfInBounds_toArray, List.set_cons_zero, List.set_cons_succ, PrintLast.i64_w, PrintLast.i32_w]; rfl)
      refine PrintLast.pure_ (i := 5) (N := (some 21)) (v := ?_) (a' := ?_) #[true, true, true, true, true, true, false, false, false, false, false, false] rfl rfl (by kernel_rfl) (fun _ _ _ h => h) (Or.inl ⟨by rfl, ?_⟩) ?_ ?_
      rotate_left
      · (intro w'; go_simp; with_reducible rfl)
      rotate_left
      · (simp only [Act.put, List.setIfInBounds_toArray, List.set_cons_zero, List.set_cons_succ, PrintLast.i64_w, PrintLast.i32_w]; rfl)
      refine PrintLast.take_ (i := 6) (N := (some 22)) (v := ?_) (a' := ?_) #[true, true, true, true, true, true, true, false, false, false, false, false] rfl rfl (by kernel_rfl) (fun _ _ _ h => h) (Or.inl ⟨by rfl, ?_⟩) hHeld ?_ ?_
      rotate_left
      · (rintro w' ⟨s0, s1, s2, s3, s4⟩; go_simp; with_reducible rfl)
      rotate_left
      · (simp only [Act.put, List.setIfInBounds_toArray, List.set_cons_zero, List.set_cons_succ, PrintLast.i64_w, PrintLast.i32_w]; rfl)
      refine PrintLast.one_ (i := 7) (N := (some 23)) #[true, true, true, true, true, true, true, true, false, false, false, false] rfl rfl (by kernel_rfl) (by decide) (fun K hK => ?_)
      refine PrintLast.goes_ Tryd.func73 (by kernel_rfl) rfl #[.agg #[.slice X0 p.st.length x0, .int .i64 p.step, .slice X2 p.word.length x2]] (by rfl) rfl rfl (by (try simp only [List.map_toArray, List.map_cons, List.map_nil]); first | done | rfl) ?_
      refine (s_l15Place _ p _ (PlI.mk q3.at q4.at) hpk.1 hpk.2).mono ?_
      rintro e w2 ⟨v2, rfl, ⟨z0', z2', rfl, hP0, hP2, hap2⟩, hb2⟩
      obtain ⟨C0, g0, rfl⟩ := hP0.ints.form
      obtain ⟨C2, g2, rfl⟩ := hP2.ints.form
      refine ⟨_, rfl, ?_⟩
      haveI b2 : Bel wr w2 := Bel.step (w := wr) hb2
      haveI : Bel w1 w2 := Bel.step (w := w1) b2.out
      have BG2 := block_at (W := w2) HGT.out
      refine hK.out _ _ ⟨block_cell BG2 3 rfl, cell_at x3, cell_at q0, cell_at q1, cell_at q2⟩ (fun hHeld => ?_)
      clear hK K
      refine PrintLast.norm_ (a' := ?_) ?_ ?_
      rotate_left
      · (show Act.put _ (some 23) _ = _; simp only [Act.put, List.setIfInBounds_toArray, List.set_cons_zero, List.set_cons_succ, PrintLast.i64_w, PrintLast.i32_w]; rfl)
      refine PrintLast.one_ (i := 8) (N := (some 24)) #[true, true, true, true, true, true, true, true, true, false, false, false] rfl rfl (by kernel_rfl) (by decide) (fun K hK => ?_)
      refine PrintLast.value_ (w1 := ?_) (v := ?_) (by rfl) rfl ?_ ?_
      rotate_left 2
      · (go_simp; constructor <;> rfl)
      refine hK.out _ _ ⟨block_cell (block_at BG2) 3 rfl, cell_at x3, cell_at q0, cell_at q1, cell_at q2⟩ (fun hHeld => ?_)
      clear hK K
      refine PrintLast.norm_ (a' := ?_) ?_ ?_
      rotate_left
      · (show Act.put _ (some 24) _ = _; simp only [Act.put, List.setIfInBounds_toArray, List.set_cons_zero, List.set_cons_succ, PrintLast.i64_w, PrintLast.i32_w]; rfl)
      refine PrintLast.one_ (i := 9) (N := (some 25)) #[true, true, true, true, true, true, true, true, true, true, false, false] rfl rfl (by kernel_rfl) (by decide) (fun K hK => ?_)
      have hes := hR.out.2.2.2
      obtain ⟨es, hes1, hes2, hes3⟩ := hes
      rw [HPT.out] at hes1 hes3
      have bwr2 := b2
      haveI bw2 : Bel w w2 := Bel.step (w := w) bwr2.out
      have hN : Hid (wr.heap.size ≤ wr.drew.heap.size) := by show _ ≤ _; exact Nat.le_refl _
      have hown := own_below hes1 (Bel.alloc (w := wr) (W := w2) (o := .cells #[.slice C0 p.st.length g0, .int .i64 p.step, .slice C2 p.word.length g2] 25)).out
      refine app_step eP (by rfl) _ _ (by rfl) w1.heap.size (.slice VA k vc) k es (by rfl) hown w2.heap.size 1 1 #[.slice C0 p.st.length g0, .int .i64 p.step, .slice C2 p.word.length g2] (by rfl) (heap_alloc_new w2 _) (by rfl) (by simp [Value.oneCell']) (by omega) (by omega) (by omega) (by have := bwr2.out.size; simp; omega) ?_
      intro g cap w3 hown3 hgr hat
      have BG3 := block_other (block_at (W := w2.alloc (.cells #[.slice C0 p.st.length g0, .int .i64 p.step, .slice C2 p.word.length g2] 25)) BG2) hown hgr (by decide)
      have hP0' : OwnI (w2.alloc (.cells #[.slice C0 p.st.length g0, .int .i64 p.step, .slice C2 p.word.length g2] 25)) wr.drew.heap.size (.slice C0 p.st.length g0) p.st := hP0.at
      have hP2' : OwnI (w2.alloc (.cells #[.slice C0 p.st.length g0, .int .i64 p.step, .slice C2 p.word.length g2] 25)) wr.drew.heap.size (.slice C2 p.word.length g2) p.word := hP2.at
      have hpush := OwnPs.push (f := f) (p := p) (ps := d.past.take k) (by rw [HPT.out]; exact hown) hes2
        (fun j hj => by
          rw [HPT.out] at hj
          obtain ⟨a0, a2, k0, k1, k2, k3, k4⟩ := hes3 j hj
          exact ⟨a0, a2, k0, k1, k2, k3.kept (fun i _ hi => (Bel.out : Below wr.heap.size wr (w2.alloc _)).block i hi), k4.kept (fun i _ hi => (Bel.out : Below wr.heap.size wr (w2.alloc _)).block i hi)⟩)
        hP0' hP2' hap2 hN.out (by have := hN.out; omega) hgr (by rw [HPT.out]; exact hown3)
      have keep : ∀ {t : Nat} {u : Value} {xs : List Int}, t < 2 → OwnT wr w.heap.size wr.heap.size f t u xs → OwnT w3 w.heap.size w3.heap.size (retag f wr.drew.heap.size (.slice C0 p.st.length g0) (2 * (d.past.take k).length + 2)) t u xs := fun {t u xs} _ h =>
        ⟨own_other (own_below h.1 (Bel.out : Below wr.heap.size wr (w2.alloc (.cells #[.slice C0 p.st.length g0, .int .i64 p.step, .slice C2 p.word.length g2] 25)))) hown hgr (by decide), fun i e => by
          obtain ⟨a, b⟩ := h.2 i e
          have h1 := hN.out
          have h2 := hgr.size
          have h3 := bwr2.out.size
          exact ⟨by rw [retag_old (by omega)]; exact a, by simp at h2; omega⟩⟩
      have hT0 := keep (by decide) hR.out.2.1
      have hT2 := keep (by decide) hR.out.2.2.1
      have hB3 : Below w1.heap.size w1 w3 := (Below.trans hB.out ((Bel.out : Below wr.heap.size wr (w2.alloc (.cells #[.slice C0 p.st.length g0, .int .i64 p.step, .slice C2 p.word.length g2] 25))).mono hB.out.size)).grown hgr (by have := bwr2.out.size; simp; omega) (fun q e => (World.ownsRow.lt hown q e).1)
      have H := Lib.hid (And.intro hpush (And.intro hT0 (And.intro hT2 hB3)))
      have HBG3 := Lib.hid BG3
      clear hpush hT0 hT2 hB3 keep hP0' hP2'
      haveI : Bel w1 w3 := ⟨H.out.2.2.2⟩
      refine hK.out _ _ ⟨block_cell BG3 3 rfl, cell_at x3, cell_at q0, cell_at q1, cell_at q2⟩ (fun hHeld => ?_)
      clear hK K
      refine PrintLast.norm_ (a' := ?_) ?_ ?_
      rotate_left
      · (show Act.put _ (some 25) _ = _; simp only [Act.put, List.setIfInBounds_toArray, List.set_cons_zero, List.set_cons_succ, PrintLast.i64_w, PrintLast.i32_w]; rfl)
      refine PrintLast.pure_ (i := 10) (N := (some 26)) (v := ?_) (a' := ?_) #[true, true, true, true, true, true, true, true, true, true, true, false] rfl rfl (by kernel_rfl) (fun _ _ _ h => h) (Or.inl ⟨by rfl, ?_⟩) ?_ ?_
      rotate_left
      · (intro w'; go_simp; with_reducible rfl)
      rotate_left
      · (simp only [Act.put, List.setIfInBounds_toArray, List.set_cons_zero, List.set_cons_succ, PrintLast.i64_w, PrintLast.i32_w]; rfl)
      refine PrintLast.last_ (i := 11) (N := none) #[true, true, true, true, true, true, true, true, true, true, true, true] rfl rfl (by kernel_rfl) (by decide) (fun K hK => ?_)
      have hs3 := block_cell BG3 3 rfl
      have hf3 := block_frozen BG3 3
      refine PrintLast.skip_ (w1 := ?_) (by rfl) rfl ?_ ?_
      rotate_left
      · (go_simp; rfl)
      refine hK.out _ _ ?_
      clear hK K
      refine PrintLast.done_ (by kernel_rfl) ?_
      have BG4 := Lib.hid (block_set HBG3.out 3 (.slice (some ⟨g, 0, none⟩) (k + 1) cap))
      have H0 := Lib.hid (H.out.2.1.set HBG3.out (by decide) 3 (.slice (some ⟨g, 0, none⟩) (k + 1) cap))
      have H2 := Lib.hid (H.out.2.2.1.set HBG3.out (by decide) 3 (.slice (some ⟨g, 0, none⟩) (k + 1) cap))
      have H3 := Lib.hid (H.out.1.set HBG3.out (by decide) (by decide) 3 (.slice (some ⟨g, 0, none⟩) (k + 1) cap))
      have H4 := Lib.hid (H.out.2.2.2.setCell (p := ⟨w1.heap.size, 3, none⟩) (Nat.le_refl _) (.slice (some ⟨g, 0, none⟩) (k + 1) cap))
      have HSZ4 : Hid ((w3.setCell ⟨w1.heap.size, 3, none⟩ (.slice (some ⟨g, 0, none⟩) (k + 1) cap)).heap.size = w3.heap.size) := by show _ = _; simp
      go_wp2
      exact ⟨⟨k + 1, by omega, by go_num, _, _, ⟨BG4.out, by rw [HSZ4.out]; exact H0.out, by rw [HSZ4.out]; exact H2.out, by rw [HSZ4.out, HT.out]; exact H3.out⟩, H4.out⟩, by simp [intOf]; omega⟩
    · have BGX := block_at (W := wr) HBX.out
      have BRX := block_at (W := wr) HBR.out
      have x3 := block_cell BGX 3 rfl
      have g0 := block_cell hR.out.1 0 rfl
      have g1 := block_cell hR.out.1 1 rfl
      have g2 := block_cell hR.out.1 2 rfl
      have g3 := block_cell hR.out.1 3 rfl
      have r0 := block_cell BRX 0 rfl
      have r1 := block_cell BRX 1 rfl
      have r2 := block_cell BRX 2 rfl
      have r3 := block_cell BRX 3 rfl
      have f0 := block_frozen BRX 0
      have f1 := block_frozen BRX 1
      have f2 := block_frozen BRX 2
      have f3 := block_frozen BRX 3
      have HPS := hR.out.2.2.2
      rw [List.take_of_length_le (by omega)] at HPS
      obtain ⟨VA, vc, e⟩ := HPS.pls.form
      subst e
      have HH := Lib.hid (And.intro hR.out.2.1 (And.intro hR.out.2.2.1 HPS))
      clear HPS BGX BRX hpt
      have HB : Hid (Below w.heap.size w wr) := (Bel.out : Below w.heap.size w wr)
      have hlw : Hid (w.heap.size ≤ w1.heap.size) := by show _ ≤ _; omega
      have HBR2 := Lib.hid (block_at (W := wr) HBR.out)
      have SZ : Hid (w.heap.size + 1 < wr.heap.size) := (Array.getElem?_eq_some_iff.1 HBR2.out).1
      go_wp2
      refine bodyPost_ret (v := .agg #[.slice B0 d.now.st.length e0, .int .i64 d.now.step, .slice B2 d.now.word.length e2, .slice VA d.past.length vc]) (by simp [results, Tryd.results40, go_sem, r0, r1, r2, r3]) rfl ⟨_, rfl, ⟨f, ?_⟩, ?_⟩
      · have h := DkO.set4 (⟨_, _, _, rfl, HH.out.1, HH.out.2.1, HH.out.2.2.lo hlw.out⟩ : DkO wr w.heap.size wr.heap.size f _ d) HBR2.out (by decide) (by decide) (.slice B0 d.now.st.length e0) (.int .i64 d.now.step) (.slice B2 d.now.word.length e2) (.slice VA d.past.length vc)
        simpa only [World.size_setCell] using h
      · exact (((HB.out.setCell (p := ⟨w.heap.size + 1, 0, none⟩) (by simp) _).setCell (p := ⟨w.heap.size + 1, 1, none⟩) (by simp) _).setCell (p := ⟨w.heap.size + 1, 2, none⟩) (by simp) _).setCell (p := ⟨w.heap.size + 1, 3, none⟩) (by simp) _

end Go.Proofs.YtpfncjaclgcbnaaDoor.Ub
