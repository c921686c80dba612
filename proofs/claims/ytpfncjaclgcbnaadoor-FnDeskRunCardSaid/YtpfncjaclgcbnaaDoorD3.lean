/- Contract of what draws places. -/
import Derived.Test.YtpfncjaclgcbnaaDoorD2
set_option linter.unusedVariables false
set_option linter.unusedSimpArgs false
namespace Go.Proofs.YtpfncjaclgcbnaaDoor.Ub
open Go.RowKit Go.Proofs.YtpfncjaclgcbnaaDoorW

def PlaceP (g P : Nat) (w : World) (e : Ending) (w' : World) : Prop := ∃ v p, e = .returned v ∧ PlW w' w.heap.size v p ∧ p.st.length ≤ 3 ∧ p.word.length ≤ 10 ∧ Rd w' g (P + 20) ∧ w.grownBy w' (some g)
theorem OwnI.gr {g P : Nat} {w w1 : World} {lo : Nat} {v : Value} {xs : List Int} (h : OwnI w lo v xs) (hr : Rd w g P) (hg : w.grownBy w1 (some g)) : OwnI w1 lo v xs := h.pick hr.block.choose_spec (by decide) hg
set_option maxHeartbeats 1000000 in
set_option maxRecDepth 100000 in
theorem s_l20Place (g P : Nat) (w : World) (h : Rd w g P) (hP : P ≤ 80000) : Calls Tryd.prog 67 #[.pointer (some ⟨g, 0, none⟩), .int .i64 0] w (PlaceP g P w) := by
  have HBG : Hid (g < w.heap.size) := h.lt
  obtain ⟨W0, hW0⟩ : ∃ W0, W0 = w.alloc (.cells #[.slice none 0 0, .int .i64 0, .slice none 0 0] 25) := ⟨_, rfl⟩
  have hb0 : Below w.heap.size w W0 := by rw [hW0]; exact (Bel.alloc (w := w) (W := w)).out
  have BR0 : W0.heap[w.heap.size]? = some (.cells #[.slice none 0 0, .int .i64 0, .slice none 0 0] 25 (0, 0)) := by rw [hW0]; exact heap_alloc_new _ _
  have hz0 : W0.heap.size = w.heap.size + 1 := by rw [hW0]; simp
  go_enter Tryd.func67, Tryd.ntmps67
  go_wp2_with fail
  rw [← hW0]
  refine (s_l20Urn g P _ (h.bel hb0) (by omega)).mono ?_
  rintro e w1 ⟨v, u, rfl, hU, hul, hR1, hG1⟩
  obtain ⟨A0, c0, rfl⟩ := hU.ints.form
  have hg0 : w.heap.size ≠ g := by have := HBG.out; omega
  have BR1 := (⟨hG1⟩ : Gr g W0 w1).block BR0 hg0
  have hz1 := hG1.size
  clear BR0 h
  go_wp2_with fail
  refine (s_pick g _ 5 _ hR1 (by omega) (by omega) (by omega)).mono ?_
  rintro e w2 ⟨k, rfl, hk, hR2, hG2⟩
  have BR2 := (⟨hG2⟩ : Gr g w1 w2).block BR1 hg0
  have hU2 := hU.gr hR1 hG2
  have hz2 := hG2.size
  have hkk5 : (k : Int) < 5 := hk (by omega)
  clear hk BR1 hU hR1
  go_upto_region 2 with (fail)
  obtain ⟨W3, hW3⟩ : ∃ W3, W3 = w2.alloc (.cells #[.slice A0 u.length c0, .int .i64 ((k : Int) - 1), .slice none 0 0] 25) := ⟨_, rfl⟩
  rw [← hW3]
  have hb3 : Below w2.heap.size w2 W3 := by rw [hW3]; exact (Bel.alloc (w := w2) (W := w2)).out
  have BP3 : W3.heap[w2.heap.size]? = some (.cells #[.slice A0 u.length c0, .int .i64 ((k : Int) - 1), .slice none 0 0] 25 (0, 0)) := by rw [hW3]; exact heap_alloc_new _ _
  have BR3 := (hb3.block _ (Array.getElem?_eq_some_iff.1 BR2).1).trans BR2
  have hU3 := hU2.bel hb3
  have hR3 := hR2.bel hb3
  have hz3 : W3.heap.size = w2.heap.size + 1 := by rw [hW3]; simp
  have hG03 : Gr g w W3 := ((Gr.of_bel hb0).trans ((⟨hG1⟩ : Gr g W0 w1).trans (⟨hG2⟩ : Gr g w1 w2))).trans (Gr.of_bel hb3)
  clear hW3 BR2 hU2 hR2 hb3 hG1 hG2
  go_wp2_with fail
  refine (s_pick g _ 5 _ hR3 (by omega) (by omega) (by omega)).mono ?_
  rintro e w4 ⟨k2, rfl, hk2, hR4, hG4⟩
  have hk5 : (k2 : Int) < 5 := hk2 (by omega)
  have hgp : w2.heap.size ≠ g := by have := HBG.out; omega
  have HP4 := Lib.hid ((⟨hG4⟩ : Gr g W3 w4).block BP3 hgp)
  have HR4 := Lib.hid ((⟨hG4⟩ : Gr g W3 w4).block BR3 hg0)
  have HU4 := Lib.hid (OwnI.mono (lo' := w.heap.size) (hU3.gr hR3 hG4) (by omega))
  have HG4 := Lib.hid (hG03.trans ⟨hG4⟩)
  have HRd4 := Lib.hid hR4
  have hz4 := hG4.size
  obtain ⟨gp, hgpe⟩ : ∃ gp, gp = w2.heap.size := ⟨_, rfl⟩
  rw [← hgpe] at HP4
  have hgp2 : w.heap.size < gp := by omega
  have hgp3 : gp ≠ g := by omega
  rw [← hgpe]
  clear hk2 BP3 BR3 hU3 hR3 hR4 hG4 hG03 hgp hz0 hz1 hz2 hz3 hz4 hb0 hW0 hgpe hg0
  go_wp2
  go_loopw [6, 7] (fun i _ wr => ∃ (m : Nat) (xs : List Int) (A2 : Option Addr) (c2 : Nat), i = .int .i64 m ∧ xs.length + m ≤ 5 ∧ Hid (wr.heap[gp]? = some (.cells #[.slice A0 u.length c0, .int .i64 ((k : Int) - 1), .slice A2 xs.length c2] 25 (0, 0))) ∧ Hid (wr.heap[w.heap.size]? = some (.cells #[.slice none 0 0, .int .i64 0, .slice none 0 0] 25 (0, 0))) ∧
    Hid (OwnI wr w.heap.size (.slice A0 u.length c0) u) ∧ Hid (OwnI wr w.heap.size (.slice A2 xs.length c2) xs) ∧ Hid (Rd wr g (P + 20 - m)) ∧ Hid (Gr g w wr)) (fun i _ _ => (intOf i).toNat)
  case atStart => exact ⟨k2, [], none, 0, rfl, by simp; omega, HP4.out, HR4.out, HU4.out, OwnI.nil _ _, HRd4.out.mono (by omega), HG4.out⟩
  case round =>
    obtain ⟨m, xs, A2, c2, rfl, hm, hP4, hR4, hU4, hX, hRd, hG⟩ := hrel
    clear HP4 HR4 HU4 HG4 HRd4
    have p0 := block_cell hP4.out 0 rfl
    have p1 := block_cell hP4.out 1 rfl
    have p2 := block_cell hP4.out 2 rfl
    by_cases h0 : 0 < m
    · go_upto_region 5 with (fail)
      have hgg : w.heap.size < gp ∧ g < w.heap.size := ⟨hgp2, HBG.out⟩
      have hwz := hG.out.size
      refine PrintLast.start_ (n := 12) (S := fun w' => w'.cell? ⟨gp, 2, none⟩ = some (.slice A2 xs.length c2) ∧ w'.cell? ⟨gp, 0, none⟩ = some (.slice A0 u.length c0)) (ds := []) #[false, false, false, false, false, false, false, false, false, false, false, false] (by kernel_rfl) rfl rfl ⟨cell_at p2, cell_at p0⟩ (fun hHeld => ?_)
      refine PrintLast.pure_ (i := 1) (N := (some 21)) (v := ?_) (a' := ?_) #[false, true, false, false, false, false, false, false, false, false, false, false] rfl rfl (by kernel_rfl) (fun _ _ _ h => h) (Or.inl ⟨by rfl, ?_⟩) ?_ ?_
      rotate_left
      · (intro w'; go_simp; with_reducible rfl)
      rotate_left
      · (simp only [Act.put, List.setIfInBounds_toArray, List.set_cons_zero, List.set_cons_succ, PrintLast.i64_w, PrintLast.i32_w]; rfl)
      refine PrintLast.pure_ (i := 4) (N := (some 24)) (v := ?_) (a' := ?_) #[false, true, false, false, true, false, false, false, false, false, false, false] rfl rfl (by kernel_rfl) (fun _ _ _ h => h) (Or.inl ⟨by rfl, ?_⟩) ?_ ?_
      rotate_left
      · (intro w'; go_simp; with_reducible rfl)
      rotate_left
      · (simp only [Act.put, List.setIfInBounds_toArray, List.set_cons_zero, List.set_cons_succ, PrintLast.i64_w, PrintLast.i32_w]; rfl)
      refine PrintLast.pure_ (i := 5) (N := (some 25)) (v := ?_) (a' := ?_) #[false, true, false, false, true, true, false, false, false, false, false, false] rfl rfl (by kernel_rfl) (fun _ _ _ h => h) (Or.inl ⟨by rfl, ?_⟩) ?_ ?_
      rotate_left
      · (intro w'; go_simp; with_reducible rfl)
      rotate_left
      · (simp only [Act.put, List.setIfInBounds_toArray, List.set_cons_zero, List.set_cons_succ, PrintLast.i64_w, PrintLast.i32_w]; rfl)
      refine PrintLast.take_ (i := 2) (N := (some 22)) (v := ?_) (a' := ?_) #[false, true, true, false, true, true, false, false, false, false, false, false] rfl rfl (by kernel_rfl) (fun _ _ _ h => h) (Or.inl ⟨by rfl, ?_⟩) hHeld ?_ ?_
      rotate_left
      · (rintro w' ⟨s0, s1⟩; go_simp; with_reducible rfl)
      rotate_left
      · (simp only [Act.put, List.setIfInBounds_toArray, List.set_cons_zero, List.set_cons_succ, PrintLast.i64_w, PrintLast.i32_w]; rfl)
      refine PrintLast.take_ (i := 6) (N := (some 26)) (v := ?_) (a' := ?_) #[false, true, true, false, true, true, true, false, false, false, false, false] rfl rfl (by kernel_rfl) (fun _ _ _ h => h) (Or.inl ⟨by rfl, ?_⟩) hHeld ?_ ?_
      rotate_left
      · (rintro w' ⟨s0, s1⟩; go_simp; with_reducible rfl)
      rotate_left
      · (simp only [Act.put, List.setIfInBounds_toArray, List.set_cons_zero, List.set_cons_succ, PrintLast.i64_w, PrintLast.i32_w]; rfl)
      refine PrintLast.pure_ (i := 7) (N := (some 27)) (v := ?_) (a' := ?_) #[false, true, true, false, true, true, true, true, false, false, false, false] rfl rfl (by kernel_rfl) (fun _ _ _ h => h) (Or.inl ⟨by rfl, ?_⟩) ?_ ?_
      rotate_left
      · (intro w'; go_simp; with_reducible rfl)
      rotate_left
      · (simp only [Act.put, List.setIfInBounds_toArray, List.set_cons_zero, List.set_cons_succ, PrintLast.i64_w, PrintLast.i32_w]; rfl)
      refine PrintLast.one_ (i := 0) (N := (some 20)) #[true, true, true, false, true, true, true, true, false, false, false, false] rfl rfl (by kernel_rfl) (by decide) (fun K hK => ?_)
      refine PrintLast.value_ (w1 := ?_) (v := ?_) (by rfl) rfl ?_ ?_
      rotate_left 2
      · (go_simp; constructor <;> rfl)
      refine hK.out _ _ ⟨cell_at p2, cell_at p0⟩ (fun hHeld => ?_)
      clear hK K
      refine PrintLast.norm_ (a' := ?_) ?_ ?_
      rotate_left
      · (show Act.put _ (some 20) _ = _; simp only [Act.put, List.setIfInBounds_toArray, List.set_cons_zero, List.set_cons_succ, PrintLast.i64_w, PrintLast.i32_w]; rfl)
      refine PrintLast.one_ (i := 3) (N := (some 23)) #[true, true, true, true, true, true, true, true, false, false, false, false] rfl rfl (by kernel_rfl) (by decide) (fun K hK => ?_)
      have b1 : Bel wr (wr.drew.alloc (.cells #[] 3)) := Bel.alloc
      refine app_all_step (by rfl) _ _ (by rfl) wr.drew.heap.size (.slice (some ⟨wr.drew.heap.size, 0, none⟩) 0 0) [] (by rfl) (emptyI wr.drew) _ xs (by rfl) ((OwnI.ints hX.out).ext (Bel.ext wr)) (by simp; omega) (by simp) ?_
      intro v2 d2 hO2 hg2 _
      rw [List.nil_append] at hO2
      have hgr2 : Gr g wr d2 := (Gr.of_bel b1.out).own hg2 (fun i e => by
        have e' : wr.drew.heap.size = i := by simpa [Value.ownBlock] using e
        have : wr.drew.heap.size = wr.heap.size := rfl
        omega)
      have hkeep : ∀ i, i < wr.heap.size → d2.heap[i]? = wr.heap[i]? := fun i hi => (hg2.block i (by simp; omega) (fun e => by
        have e' : wr.drew.heap.size = i := by simpa [Value.ownBlock] using e.symm
        have : wr.drew.heap.size = wr.heap.size := rfl
        omega)).trans (b1.out.block i hi)
      have hR2 := hRd.out.kept (w1 := d2) (fun i hi => hkeep i (by have := hRd.out.lt; omega))
      obtain ⟨A5, c5, rfl⟩ := hO2.ints.form
      have BP2 := hgr2.block hP4.out (by omega)
      refine hK.out _ _ ⟨block_cell BP2 2 rfl, block_cell BP2 0 rfl⟩ (fun hHeld => ?_)
      clear hK K
      refine PrintLast.norm_ (a' := ?_) ?_ ?_
      rotate_left
      · (show Act.put _ (some 23) _ = _; simp only [Act.put, List.setIfInBounds_toArray, List.set_cons_zero, List.set_cons_succ, PrintLast.i64_w, PrintLast.i32_w]; rfl)
      refine PrintLast.one_ (i := 8) (N := (some 28)) #[true, true, true, true, true, true, true, true, true, false, false, false] rfl rfl (by kernel_rfl) (by decide) (fun K hK => ?_)
      refine PrintLast.goes_ Tryd.func68 (by kernel_rfl) rfl #[.pointer (some ⟨g, 0, none⟩), .int .i64 (u.length : Int)] (by rfl) rfl rfl (by (try simp only [List.map_toArray, List.map_cons, List.map_nil]); first | done | rfl) ?_
      refine (s_pick g _ u.length _ hR2 (by omega) (by omega) (by omega)).mono ?_
      rintro e d3 ⟨x, rfl, _, hR3, hG3⟩
      refine ⟨_, rfl, ?_⟩
      have hgr3 : Gr g wr d3 := hgr2.trans ⟨hG3⟩
      have BP3 := hgr3.block hP4.out (by omega)
      have hO3 := hO2.gr hR2 hG3
      refine hK.out _ _ ⟨block_cell BP3 2 rfl, block_cell BP3 0 rfl⟩ (fun hHeld => ?_)
      clear hK K
      refine PrintLast.norm_ (a' := ?_) ?_ ?_
      rotate_left
      · (show Act.put _ (some 28) _ = _; simp only [Act.put, List.setIfInBounds_toArray, List.set_cons_zero, List.set_cons_succ, PrintLast.i64_w, PrintLast.i32_w]; rfl)
      refine PrintLast.one_ (i := 9) (N := (some 29)) #[true, true, true, true, true, true, true, true, true, true, false, false] rfl rfl (by kernel_rfl) (by decide) (fun K hK => ?_)
      refine PrintLast.value_ (w1 := ?_) (v := ?_) (by rfl) rfl ?_ ?_
      rotate_left 2
      · (go_simp; constructor <;> rfl)
      have b4 : Bel d3 (d3.alloc (.cells #[.int .i64 x] 3)) := Bel.alloc
      refine hK.out _ _ ⟨block_cell (block_at (b := b4) BP3) 2 rfl, block_cell (block_at (b := b4) BP3) 0 rfl⟩ (fun hHeld => ?_)
      clear hK K
      refine PrintLast.norm_ (a' := ?_) ?_ ?_
      rotate_left
      · (show Act.put _ (some 29) _ = _; simp only [Act.put, List.setIfInBounds_toArray, List.set_cons_zero, List.set_cons_succ, PrintLast.i64_w, PrintLast.i32_w]; rfl)
      refine PrintLast.one_ (i := 10) (N := (some 30)) #[true, true, true, true, true, true, true, true, true, true, true, false] rfl rfl (by kernel_rfl) (by decide) (fun K hK => ?_)
      have hown := OwnI.at hO3 (b := b4)
      have hz3 := hgr3.size
      have hzd : wr.drew.heap.size = wr.heap.size := rfl
      refine app_step eI (by rfl) _ _ (by rfl) wr.drew.heap.size (.slice A5 xs.length c5) xs.length (nums xs) (by rfl) hown d3.heap.size 1 1 #[.int .i64 x] (by rfl) (heap_alloc_new d3 _) (by rfl) (by simp [Value.oneCell']) (by omega) (by omega) (by omega) (by simp; omega) ?_
      intro gb cap d5 hown5 hgr5 hat
      have hgr4 : Gr g wr d5 := (hgr3.trans (Gr.of_bel b4.out)).own hgr5 (fun i e => by have := (World.ownsRow.lt hown i e).1; omega)
      have HBP := Lib.hid (hgr4.block hP4.out (by omega))
      have HBR := Lib.hid (hgr4.block hR4.out (by omega))
      have hpre : ∀ i, i < wr.heap.size → d5.heap[i]? = d3.heap[i]? := fun i hi => (hgr5.block i (by simp; omega) (fun e => by have := (World.ownsRow.lt hown i e.symm).1; omega)).trans (b4.out.block i (by omega))
      have HR5 := Lib.hid (hR3.kept (w1 := d5) (fun i hi => hpre i (by have := hRd.out.lt; omega)))
      have HU5 := Lib.hid (own_kept (w1 := d5) (hi := wr.heap.size) (hU4.out.gr hRd.out hgr3.out) (fun i e => (World.ownsRow.lt hU4.out i e).2) (fun i _ hi => hpre i hi))
      have HX5 := Lib.hid (own_kept (w1 := d5) (hi := wr.heap.size) (hX.out.gr hRd.out hgr3.out) (fun i e => (World.ownsRow.lt hX.out i e).2) (fun i _ hi => hpre i hi))
      have HN5 := Lib.hid (OwnI.mono (lo' := w.heap.size) (OwnI.push hown5 rfl) (by omega))
      have HG5 := Lib.hid (hG.out.trans hgr4)
      refine hK.out _ _ ⟨block_cell HBP.out 2 rfl, block_cell HBP.out 0 rfl⟩ (fun hHeld => ?_)
      clear hown hown5 hgr5 hat hgr4 hpre hgr3 hgr2 hkeep BP2 BP3 hO2 hO3 hR2 hR3 hg2 hG3 b1 b4 hz3 hzd p0 p1 p2
      clear hK K
      refine PrintLast.norm_ (a' := ?_) ?_ ?_
      rotate_left
      · (show Act.put _ (some 30) _ = _; simp only [Act.put, List.setIfInBounds_toArray, List.set_cons_zero, List.set_cons_succ, PrintLast.i64_w, PrintLast.i32_w]; rfl)
      refine PrintLast.pure_ (i := 11) (N := (some 7)) (v := ?_) (a' := ?_) #[true, true, true, true, true, true, true, true, true, true, true, true] rfl rfl (by kernel_rfl) (fun _ _ _ h => h) (Or.inl ⟨by rfl, ?_⟩) ?_ ?_
      rotate_left
      · (intro w'; go_simp; with_reducible rfl)
      rotate_left
      · (simp only [Act.put, List.setIfInBounds_toArray, List.set_cons_zero, List.set_cons_succ, PrintLast.i64_w, PrintLast.i32_w]; rfl)
      refine PrintLast.done_ (by kernel_rfl) ?_
      have p0 := block_cell HBP.out 0 rfl
      have p1 := block_cell HBP.out 1 rfl
      go_wp2_with fail
      refine (s_PlaceOk _ ⟨u, (k : Int) - 1, xs ++ [(x : Int)]⟩ _ ⟨_, _, rfl, OwnI.ints HU5.out, OwnI.ints HN5.out⟩).mono ?_
      generalize placeOk ⟨u, (k : Int) - 1, xs ++ [(x : Int)]⟩ = ok
      rintro e w6 ⟨rfl, hb6⟩
      have HBP6 := Lib.hid ((hb6.block _ (Array.getElem?_eq_some_iff.1 HBP.out).1).trans HBP.out)
      have HBR6 := Lib.hid ((hb6.block _ (Array.getElem?_eq_some_iff.1 HBR.out).1).trans HBR.out)
      have HR6 := Lib.hid (HR5.out.bel hb6)
      have HU6 := Lib.hid (OwnI.bel HU5.out hb6)
      have HX6 := Lib.hid (OwnI.bel HX5.out hb6)
      have HN6 := Lib.hid (OwnI.bel HN5.out hb6)
      have HG6 := Lib.hid (HG5.out.trans (Gr.of_bel hb6))
      clear hb6 p0 p1
      have hms : (m : Int) - 1 = ((m - 1 : Nat) : Int) := by omega
      have HMS := Lib.hid hms; clear hms
      cases ok with
      | true =>
        have f2 := block_frozen HBP6.out 2
        have c2' := block_cell HBP6.out 2 rfl
        have HY1 := Lib.hid (block_set HBP6.out 2 (.slice (some ⟨gb, 0, none⟩) (xs.length + 1) cap))
        have HY2 := Lib.hid (block_far (p := ⟨gp, 2, none⟩) (u := .slice (some ⟨gb, 0, none⟩) (xs.length + 1) cap) HBR6.out (by simp; omega))
        have HY3 := Lib.hid (OwnI.set1 HU6.out HBP6.out (by decide) 2 (.slice (some ⟨gb, 0, none⟩) (xs.length + 1) cap))
        have HY4 := Lib.hid (OwnI.set1 HN6.out HBP6.out (by decide) 2 (.slice (some ⟨gb, 0, none⟩) (xs.length + 1) cap))
        have HY5 := Lib.hid (HR6.out.kept (w1 := w6.setCell ⟨gp, 2, none⟩ (.slice (some ⟨gb, 0, none⟩) (xs.length + 1) cap)) (fun i hi => Below.heap_setCell _ _ _ _ (by simp; omega)))
        have HY6 := Lib.hid (HG6.out.set (p := ⟨gp, 2, none⟩) (by simp; omega) (.slice (some ⟨gb, 0, none⟩) (xs.length + 1) cap))
        go_wp2
        refine ⟨⟨m - 1, xs ++ [(x : Int)], some ⟨gb, 0, none⟩, cap, ?_, ?_, ?_, HY2.out, HY3.out, ?_, ?_, HY6.out⟩, ?_⟩
        · rw [HMS.out]
        · simp; omega
        · show _ = _
          rw [List.length_append, List.length_singleton]; exact HY1.out
        · show OwnI _ _ _ _
          rw [List.length_append, List.length_singleton]; exact HY4.out
        · exact HY5.out.mono (by omega)
        · simp [intOf]; omega
      | false =>
        go_wp2
        refine ⟨⟨m - 1, xs, A2, c2, ?_, ?_, HBP6.out, HBR6.out, HU6.out, HX6.out, ?_, HG6.out⟩, ?_⟩
        · rw [HMS.out]
        · omega
        · exact HR6.out.mono (by omega)
        · simp [intOf]; omega
    · have hm0 : (m : Int) ≤ 0 := by omega
      have q0 := block_cell hR4.out 0 rfl
      have q1 := block_cell hR4.out 1 rfl
      have q2 := block_cell hR4.out 2 rfl
      have f0 := block_frozen hR4.out 0
      have f1 := block_frozen hR4.out 1
      have f2 := block_frozen hR4.out 2
      go_wp2_with fail
      refine (s_odd0 g _ _ hRd.out).mono ?_
      rintro e w2 ⟨rfl, rfl⟩
      have HF0 := Lib.hid (OwnI.set3 hU4.out hR4.out (by decide) (.slice A0 u.length c0) (.int .i64 ((k : Int) - 1)) (.slice A2 xs.length c2))
      have HF2 := Lib.hid (OwnI.set3 hX.out hR4.out (by decide) (.slice A0 u.length c0) (.int .i64 ((k : Int) - 1)) (.slice A2 xs.length c2))
      have HFR := Lib.hid (hRd.out.kept (w1 := ((wr.setCell ⟨w.heap.size, 0, none⟩ (.slice A0 u.length c0)).setCell ⟨w.heap.size, 1, none⟩ (.int .i64 ((k : Int) - 1))).setCell ⟨w.heap.size, 2, none⟩ (.slice A2 xs.length c2)) (fun i hi => by
        have := HBG.out
        rw [Below.heap_setCell _ _ _ _ (by simp; omega), Below.heap_setCell _ _ _ _ (by simp; omega), Below.heap_setCell _ _ _ _ (by simp; omega)]))
      have HFG := Lib.hid ((((hG.out.set (p := ⟨w.heap.size, 0, none⟩) (Nat.le_refl _) (.slice A0 u.length c0)).set (p := ⟨w.heap.size, 1, none⟩) (Nat.le_refl _) (.int .i64 ((k : Int) - 1))).set (p := ⟨w.heap.size, 2, none⟩) (Nat.le_refl _) (.slice A2 xs.length c2)))
      go_wp2
      exact bodyPost_ret (v := .agg #[.slice A0 u.length c0, .int .i64 ((k : Int) - 1), .slice A2 xs.length c2]) (by simp [results, Tryd.results67, go_sem, q0, q1, q2]) rfl ⟨_, ⟨u, (k : Int) - 1, xs⟩, rfl, ⟨_, _, rfl, HF0.out, HF2.out⟩, hul, by show xs.length ≤ 10; omega, HFR.out.mono (by omega), HFG.out.out⟩
end Go.Proofs.YtpfncjaclgcbnaaDoor.Ub
