/- The law of runs of deeds: whatever is drawn, it answers true. -/
import Derived.Test.YtpfncjaclgcbnaaDoorL1
import Derived.Test.YtpfncjaclgcbnaaDoorR5
set_option linter.unusedVariables false
set_option linter.unusedSimpArgs false
namespace Go.Proofs.YtpfncjaclgcbnaaDoor.Ub
open Go.RowKit Go.Proofs.YtpfncjaclgcbnaaDoorW

theorem run_halves {d : Dk} {l : List Dd} (h : deskOk d = true) (hl : l.length ≤ 40) (k : Nat) :
    runN d l ≤ 40 ∧ runN d (l.take k) ≤ 40 ∧ runN (runD d (l.take k)) (l.drop k) ≤ 40 ∧ runD (runD d (l.take k)) (l.drop k) = runD d l ∧ runN d (l.take k) + runN (runD d (l.take k)) (l.drop k) = runN d l ∧ deskOk (runD d l) = true := by
  have k0 : runOk d l = true := by simp [runOk, h, hl]
  have k1 : runOk d (l.take k) = true := by simp [runOk, h]; omega
  obtain ⟨a1, a2⟩ := run_ok k0
  obtain ⟨b1, b2⟩ := run_ok k1
  have hd := run_desk d (l.take k) h
  have k2 : runOk (runDesk d (l.take k)) (l.drop k) = true := by simp [runOk, hd]; omega
  obtain ⟨c1, c2⟩ := run_ok k2
  obtain ⟨e1, e2⟩ := run_append d (l.take k) (l.drop k)
  rw [List.take_append_drop] at e1 e2
  have f1 := runMany_le d (l.take k)
  have f2 := runMany_le (runDesk d (l.take k)) (l.drop k)
  have f3 := runMany_le d l
  rw [List.length_take] at f1
  rw [List.length_drop] at f2
  rw [a1, a2, b1, b2, c1, c2]
  exact ⟨by omega, by omega, by omega, e1.symm, e2.symm, run_desk d l h⟩
theorem Dds.take {w : World} {A : Option Addr} {c : Nat} {l : List Dd} (h : Dds w (.slice A l.length c) l) (k : Nat) (hk : k ≤ l.length) : Dds w (.slice A k c) (l.take k) := by
  obtain ⟨hm, A', c', e, hl, hc⟩ := h
  injection e with e1 e2 e3
  subst e1; subst e3
  have hlk : (l.take k).length = k := by rw [List.length_take]; omega
  refine ⟨by omega, A, c, by rw [hlk], by omega, fun j hj => ?_⟩
  rw [hlk] at hj
  have e : (l.take k).getD j e0 = l.getD j e0 := by simp [List.getD, List.getElem?_take, hj]
  rw [e]
  exact hc j (by omega)
theorem Dds.drop {w : World} {b o c : Nat} {l : List Dd} (h : Dds w (.slice (some ⟨b, o, none⟩) l.length c) l) (k : Nat) (hk : k ≤ l.length) : Dds w (.slice (some ⟨b, o + k * 3, none⟩) (l.length - k) (c - k)) (l.drop k) := by
  obtain ⟨hm, A', c', e, hl, hc⟩ := h
  injection e with e1 e2 e3
  subst e1; subst e3
  have hlk : (l.drop k).length = l.length - k := by rw [List.length_drop]
  refine ⟨by omega, _, c - k, by rw [hlk], by omega, fun j hj => ?_⟩
  rw [hlk] at hj
  have e : (l.drop k).getD j e0 = l.getD (k + j) e0 := by simp [List.getD, List.getElem?_drop]
  rw [e]
  obtain ⟨b', o', e', q0, q1, q2⟩ := hc (k + j) (by omega)
  injection e' with e'
  injection e' with e1 e2 e3
  subst e1; subst e2
  refine ⟨b, o + k * 3, rfl, ?_, ?_, ?_⟩
  · rw [show o + k * 3 + j * 3 = o + (k + j) * 3 by omega]; exact q0
  · rw [show o + k * 3 + j * 3 + 1 = o + (k + j) * 3 + 1 by omega]; exact q1
  · rw [show o + k * 3 + j * 3 + 2 = o + (k + j) * 3 + 2 by omega]; exact q2
theorem Dds.drop0 {w : World} (k c : Nat) : Dds w (.slice none 0 0) (([] : List Dd).drop k) := by
  rw [List.drop_nil]
  exact ⟨by simp, none, 0, rfl, by simp, fun j hj => by simp at hj⟩
set_option maxHeartbeats 1000000 in
theorem l_noDesk (v : Value) (d : Dk) (w : World) (h : DkI w v d) : Calls Tryd.prog 20 #[v] w fun x w' => x = .returned (.bool (sameD d zd)) ∧ Below w.heap.size w w' := by
  obtain ⟨A0, c0, A2, c2, A3, c3, rfl, i0, i2, i3⟩ := h.open
  go_enter Tryd.func20, Tryd.ntmps20
  go_wp2_with fail
  refine (l_sameDesk _ _ d zd _ (DkI.mk i0.at i2.at i3.at) (DkI.nil _)).mono ?_
  rintro e w1 ⟨rfl, hb1⟩
  have HB := Lib.hid (Bel.step (w := w) hb1).out
  clear hb1
  go_wp2
  go_ret
  exact ⟨rfl, HB.out⟩


structure Nx2 where
  X0 : Option Addr
  x0 : Nat
  X2 : Option Addr
  x2 : Nat
  X3 : Option Addr
  x3 : Nat
  g9 : Nat
def Nx2.v (t : Nx2) (d : Dk) : Value := .agg #[.slice t.X0 d.now.st.length t.x0, .int .i64 d.now.step, .slice t.X2 d.now.word.length t.x2, .slice t.X3 d.past.length t.x3]

set_option maxHeartbeats 4000000 in
set_option maxRecDepth 100000 in
theorem l_FnDeskRun (v : Value) (w : World) (h : Bys w v) (he : Env w) : Calls Tryd.prog 4 #[v] w fun e w' => e = .returned (.bool true) ∧ Below w.heap.size w w' := by
  have HBY := Lib.hid h
  have HEN := Lib.hid he
  obtain ⟨A, n, c, rfl, hn, hc, _⟩ := h
  clear he
  by_cases hl : 1048576 < n
  · go_enter Tryd.func4, Tryd.ntmps4
    go_wp2
    go_ret
    exact ⟨rfl, Below.refl _ _⟩
  · go_enter Tryd.func4, Tryd.ntmps4
    go_wp2_with fail
    refine (s_DrawDeskRun _ _ HBY.out).mono ?_
    rintro e w1 ⟨v1, d, gl, cl, l, rfl, hD1, hE1, hll, hb1⟩
    obtain ⟨D0, e0', D2, e2, D3, e3, rfl⟩ := hD1.form
    haveI b1 : Bel w w1 := ⟨hb1⟩
    have HDI := Lib.hid hD1.dk
    have HLI := Lib.hid hE1
    clear hD1 hE1 hb1
    go_upto_region 4 with (fail)
    obtain ⟨W3, hW3⟩ : ∃ W3, W3 = w1.alloc (.cells #[.slice D0 d.now.st.length e0', .int .i64 d.now.step, .slice D2 d.now.word.length e2, .slice D3 d.past.length e3] 28) := ⟨_, rfl⟩
    rw [← hW3]
    haveI b3 : Bel w1 W3 := by rw [hW3]; exact Bel.alloc
    haveI bw3 : Bel w W3 := Bel.step (w := w) b3.out
    have BD : Hid (W3.heap[w1.heap.size]? = some (.cells #[.slice D0 d.now.st.length e0', .int .i64 d.now.step, .slice D2 d.now.word.length e2, .slice D3 d.past.length e3] 28 (0, 0))) := by show _ = _; rw [hW3]; exact heap_alloc_new _ _
    have HD := Lib.hid (HDI.out.at (W := W3))
    have HL := Lib.hid (HLI.out.dds.at (W := W3))
    clear hW3 HDI
    have d0 := block_cell (block_at (W := W3) BD.out) 0 rfl
    have d1 := block_cell (block_at (W := W3) BD.out) 1 rfl
    have d2 := block_cell (block_at (W := W3) BD.out) 2 rfl
    have d3 := block_cell (block_at (W := W3) BD.out) 3 rfl
    go_wp2_with fail
    clear d0 d1 d2 d3
    refine (i_DeskRun _ _ d l _ HD.out HL.out (HEN.out.at)).mono ?_
    rintro e w4 ⟨vx, rfl, ⟨f, hX⟩, hb4⟩
    obtain ⟨X0, x0, X2, x2, X3, x3, rfl⟩ := dk_form hX.dk
    haveI b4 : Bel W3 w4 := Bel.step (w := W3) hb4
    have HX4 := Lib.hid hX.dk
    clear hX hb4
    go_upto_region 5 with (fail)
    obtain ⟨W5, hW5⟩ : ∃ W5, W5 = w4.alloc (.cells #[.slice X0 (runD d l).now.st.length x0, .int .i64 (runD d l).now.step, .slice X2 (runD d l).now.word.length x2, .slice X3 (runD d l).past.length x3] 28) := ⟨_, rfl⟩
    rw [← hW5]
    haveI b5 : Bel w4 W5 := by rw [hW5]; exact Bel.alloc
    haveI b35 : Bel W3 W5 := Bel.step (w := W3) b5.out
    haveI bw5 : Bel w W5 := Bel.step (w := w) b35.out
    have BX : Hid (W5.heap[w4.heap.size]? = some (.cells #[.slice X0 (runD d l).now.st.length x0, .int .i64 (runD d l).now.step, .slice X2 (runD d l).now.word.length x2, .slice X3 (runD d l).past.length x3] 28 (0, 0))) := by show _ = _; rw [hW5]; exact heap_alloc_new _ _
    have HX := Lib.hid (HX4.out.at (W := W5))
    clear hW5 HX4
    have d0 := block_cell (block_at (W := W5) BD.out) 0 rfl
    have d1 := block_cell (block_at (W := W5) BD.out) 1 rfl
    have d2 := block_cell (block_at (W := W5) BD.out) 2 rfl
    have d3 := block_cell (block_at (W := W5) BD.out) 3 rfl
    go_wp2_with fail
    clear d0 d1 d2 d3
    refine (s_DeskRun _ _ d l _ HD.out.at HL.out.at).mono ?_
    rintro e w6 ⟨vy, rfl, hY, hb6⟩
    obtain ⟨Y0, y0, Y2, y2, Y3, y3, rfl⟩ := dk_form hY.dk
    haveI b6 : Bel W5 w6 := Bel.step (w := W5) hb6
    have HY6 := Lib.hid hY.dk
    clear hY hb6
    go_upto_region 6 with (fail)
    obtain ⟨W7, hW7⟩ : ∃ W7, W7 = w6.alloc (.cells #[.slice Y0 (runD d l).now.st.length y0, .int .i64 (runD d l).now.step, .slice Y2 (runD d l).now.word.length y2, .slice Y3 (runD d l).past.length y3] 28) := ⟨_, rfl⟩
    rw [← hW7]
    haveI b7 : Bel w6 W7 := by rw [hW7]; exact Bel.alloc
    haveI b57 : Bel W5 W7 := Bel.step (w := W5) b7.out
    haveI b37 : Bel W3 W7 := Bel.step (w := W3) b57.out
    haveI bw7 : Bel w W7 := Bel.step (w := w) b37.out
    have BY : Hid (W7.heap[w6.heap.size]? = some (.cells #[.slice Y0 (runD d l).now.st.length y0, .int .i64 (runD d l).now.step, .slice Y2 (runD d l).now.word.length y2, .slice Y3 (runD d l).past.length y3] 28 (0, 0))) := by show _ = _; rw [hW7]; exact heap_alloc_new _ _
    have HY := Lib.hid (HY6.out.at (W := W7))
    clear hW7 HY6
    have p0 := block_cell (block_at (W := W7) BX.out) 0 rfl
    have p1 := block_cell (block_at (W := W7) BX.out) 1 rfl
    have p2 := block_cell (block_at (W := W7) BX.out) 2 rfl
    have p3 := block_cell (block_at (W := W7) BX.out) 3 rfl
    have q0 := block_cell BY.out 0 rfl
    have q1 := block_cell BY.out 1 rfl
    have q2 := block_cell BY.out 2 rfl
    have q3 := block_cell BY.out 3 rfl
    go_wp2_with fail
    refine (same_is (sameD_iff.2 rfl) _ _ _ HX.out.at HY.out).mono ?_
    rintro e w8 ⟨rfl, hb8⟩
    haveI b8 : Bel W7 w8 := Bel.step (w := W7) hb8
    haveI b58 : Bel W5 w8 := Bel.step (w := W5) b8.out
    haveI b38 : Bel W3 w8 := Bel.step (w := W3) b58.out
    haveI bw8 : Bel w w8 := Bel.step (w := w) b38.out
    clear hb8 p0 p1 p2 p3 q0 q1 q2 q3
    obtain ⟨ok, hok⟩ : ∃ ok, deskOk d = ok := ⟨_, rfl⟩
    have HOK := Lib.hid (okS_isD hok)
    have HOE := Lib.hid hok
    clear hok
    have d0 := block_cell (block_at (W := w8) BD.out) 0 rfl
    have d1 := block_cell (block_at (W := w8) BD.out) 1 rfl
    have d2 := block_cell (block_at (W := w8) BD.out) 2 rfl
    have d3 := block_cell (block_at (W := w8) BD.out) 3 rfl
    go_wp2_with fail
    clear d0 d1 d2 d3
    refine (HOK.out _ _ HD.out.at).mono ?_
    rintro e w9 ⟨rfl, hb9⟩
    haveI b9 : Bel w8 w9 := Bel.step (w := w8) hb9
    haveI b59 : Bel W5 w9 := Bel.step (w := W5) b9.out
    haveI b39 : Bel W3 w9 := Bel.step (w := W3) b59.out
    haveI bw9 : Bel w w9 := Bel.step (w := w) b39.out
    clear hb9 HOK BY HY
    cases ok with
    | false =>
      have HZ2 := Lib.hid (run_not (d := d) (l := l) (by unfold runOk; rw [HOE.out]; rfl))
      have p0 := block_cell (block_at (W := w9) BX.out) 0 rfl
      have p1 := block_cell (block_at (W := w9) BX.out) 1 rfl
      have p2 := block_cell (block_at (W := w9) BX.out) 2 rfl
      have p3 := block_cell (block_at (W := w9) BX.out) 3 rfl
      have hn0 : runN d l = 0 := HZ2.out.2
      have HN0 := Lib.hid hn0
      have HSD : Hid (sameD (runD d l) zd = true) := sameD_iff.2 HZ2.out.1
      have HND := Lib.hid (l_noDesk _ _ _ (HX.out.at (W := w9)))
      rw [HSD.out] at HND
      clear HZ2 HSD
      have hni : ((runN d l : Nat) : Int) = 0 := by omega
      clear hn0
      go_wp2_with fail
      refine HND.out.mono ?_
      rintro e w10 ⟨rfl, hb10⟩
      haveI bw10 : Bel w w10 := Bel.step (w := w) hb10
      clear hb10 p0 p1 p2 p3 HND
      go_wp2_with fail
      refine (l_alive _).mono ?_
      rintro e w11 ⟨rfl, hb11⟩
      have HB := Lib.hid (Bel.step (w := w) hb11).out
      clear hb11
      go_wp2
      go_ret
      exact ⟨rfl, HB.out⟩
    | true =>
      by_cases h40 : 40 < l.length
      · have h40i : (40 : Int) < l.length := by omega
        have HZ2 := Lib.hid (run_not (d := d) (l := l) (by unfold runOk; rw [decide_eq_false (by omega), Bool.and_false]))
        have p0 := block_cell (block_at (W := w9) BX.out) 0 rfl
        have p1 := block_cell (block_at (W := w9) BX.out) 1 rfl
        have p2 := block_cell (block_at (W := w9) BX.out) 2 rfl
        have p3 := block_cell (block_at (W := w9) BX.out) 3 rfl
        have hn0 : runN d l = 0 := HZ2.out.2
        have HN0 := Lib.hid hn0
        have HSD : Hid (sameD (runD d l) zd = true) := sameD_iff.2 HZ2.out.1
        have HND := Lib.hid (l_noDesk _ _ _ (HX.out.at (W := w9)))
        rw [HSD.out] at HND
        clear HZ2 HSD
        have hni : ((runN d l : Nat) : Int) = 0 := by omega
        clear hn0
        go_wp2_with fail
        refine HND.out.mono ?_
        rintro e w10 ⟨rfl, hb10⟩
        haveI bw10 : Bel w w10 := Bel.step (w := w) hb10
        clear hb10 p0 p1 p2 p3 HND
        go_wp2_with fail
        refine (l_alive _).mono ?_
        rintro e w11 ⟨rfl, hb11⟩
        have HB := Lib.hid (Bel.step (w := w) hb11).out
        clear hb11
        go_wp2
        go_ret
        exact ⟨rfl, HB.out⟩
      · have h40i : ¬ (40 : Int) < l.length := by omega
        obtain ⟨hf, hhf⟩ : ∃ hf : Nat, hf = l.length / 2 := ⟨_, rfl⟩
        have HDV := Lib.hid (show (l.length : Int) / 2 = (hf : Int) by omega)
        have hhl : hf ≤ l.length := by omega
        have h2f : 2 * hf ≤ l.length := by omega
        clear hhf
        have HH := Lib.hid (run_halves (l := l) HOE.out (by omega) hf)
        go_upto_region 11 with (fail)
        rw [HDV.out]
        have BD9 := Lib.hid (block_at (W := w9) BD.out)
        have HL9 := Lib.hid (HL.out.at (W := w9))
        have HLT := Lib.hid (HL9.out.take hf hhl)
        have HLDR := Lib.hid (HL9.out.drop hf hhl)
        have hfc : hf ≤ cl := by obtain ⟨_, _, _, e, h, _⟩ := HL9.out; injection e with _ _ e; omega
        have hlc : l.length ≤ cl := by obtain ⟨_, _, _, e, h, _⟩ := HL9.out; injection e with _ _ e; omega
        have HD9 := Lib.hid (HD.out.at (W := w9))
        have HEN9 := Lib.hid (HEN.out.at (W := w9))
        have BX9 := Lib.hid (block_at (W := w9) BX.out)
        have HX9 := Lib.hid (HX.out.at (W := w9))
        have hll40 : l.length ≤ 40 := by omega
        clear b8 b58 b38 bw8 b9 b59 b39 b7 b57 b37 bw7 b6 b5 b35 bw5 b4 b3 bw3 b1 HDV BD HL HD BX HX
        have o0 := block_cell BD9.out 0 rfl
        have o1 := block_cell BD9.out 1 rfl
        have o2 := block_cell BD9.out 2 rfl
        have o3 := block_cell BD9.out 3 rfl
        refine PrintLast.start_ (n := 11) (S := fun w' => w'.cell? ⟨w1.heap.size, 0, none⟩ = some (.slice D0 d.now.st.length e0') ∧ w'.cell? ⟨w1.heap.size, 1, none⟩ = some (.int .i64 d.now.step) ∧ w'.cell? ⟨w1.heap.size, 2, none⟩ = some (.slice D2 d.now.word.length e2) ∧ w'.cell? ⟨w1.heap.size, 3, none⟩ = some (.slice D3 d.past.length e3)) (ds := [9]) #[false, false, false, false, false, false, false, false, false, false, false] (by kernel_rfl) rfl rfl ⟨cell_at o0, cell_at o1, cell_at o2, cell_at o3⟩ (fun hHeld => ?_)
        obtain ⟨wd, hwd⟩ : ∃ wd, wd = w9.drew := ⟨_, rfl⟩
        rw [← hwd] at hHeld ⊢
        have bd : Below w9.heap.size w9 wd := by rw [hwd]; exact (Bel.drew (w := w9) (W := w9)).out
        clear hwd o0 o1 o2 o3
        refine PrintLast.take_ (i := 0) (N := (some 64)) (v := ?_) (a' := ?_) #[true, false, false, false, false, false, false, false, false, false, false] rfl rfl (by kernel_rfl) (fun _ _ _ h => h) (Or.inl ⟨by rfl, ?_⟩) hHeld ?_ ?_
        rotate_left
        · (rintro w' ⟨s0, s1, s2, s3⟩; go_simp; with_reducible rfl)
        rotate_left
        · (simp only [Act.put, List.setIfInBounds_toArray, List.set_cons_zero, List.set_cons_succ, PrintLast.i64_w, PrintLast.i32_w]; rfl)
        refine PrintLast.pure_ (i := 1) (N := (some 65)) (v := ?_) (a' := ?_) #[true, true, false, false, false, false, false, false, false, false, false] rfl rfl (by kernel_rfl) (fun _ _ _ h => h) (Or.inl ⟨by rfl, ?_⟩) ?_ ?_
        rotate_left
        · (intro w'; go_simp; with_reducible rfl)
        rotate_left
        · (simp only [Act.put, List.setIfInBounds_toArray, List.set_cons_zero, List.set_cons_succ, PrintLast.i64_w, PrintLast.i32_w]; rfl)
        refine PrintLast.pure_ (i := 2) (N := (some 66)) (v := ?_) (a' := ?_) #[true, true, true, false, false, false, false, false, false, false, false] rfl rfl (by kernel_rfl) (fun _ _ _ h => h) (Or.inl ⟨by rfl, ?_⟩) ?_ ?_
        rotate_left
        · (intro w'; go_simp; with_reducible rfl)
        rotate_left
        · (simp only [Act.put, List.setIfInBounds_toArray, List.set_cons_zero, List.set_cons_succ, PrintLast.i64_w, PrintLast.i32_w]; rfl)
        refine PrintLast.pure_ (i := 3) (N := (some 67)) (v := ?_) (a' := ?_) #[true, true, true, true, false, false, false, false, false, false, false] rfl rfl (by kernel_rfl) (fun _ _ _ h => h) (Or.inl ⟨by rfl, ?_⟩) ?_ ?_
        rotate_left
        · (intro w'; go_simp; with_reducible rfl)
        rotate_left
        · (simp only [Act.put, List.setIfInBounds_toArray, List.set_cons_zero, List.set_cons_succ, PrintLast.i64_w, PrintLast.i32_w]; rfl)
        refine PrintLast.join_ (σ := Nx2) 2 #[true, true, true, true, true, true, true, true, true, false, false] (fun t => [(68, .tuple #[t.v (runD d (l.take hf)), .int .i64 (runN d (l.take hf))]), (63, .tuple #[t.v (runD d (l.take hf)), .int .i64 (runN d (l.take hf))]), (69, t.v (runD d (l.take hf))), (70, .int .i64 (runN d (l.take hf))), (10, .pointer (some ⟨t.g9, 0, none⟩))]) (fun t w' => Below w9.heap.size w9 w' ∧ w'.heap[t.g9]? = some (.cells #[.slice none 0 0, .int .i64 0, .slice none 0 0, .slice none 0 0] 28 (0, 0)) ∧ (∃ lo hi f, DkW w' lo hi f (t.v (runD d (l.take hf))) (runD d (l.take hf))) ∧ w9.heap.size ≤ t.g9) ?_ ?_
        rotate_left
        · intro hCont
          refine PrintLast.two_ (i := 4) (j := 8) (Ni := some 68) (Nj := some 10) #[true, true, true, true, true, false, false, false, false, false, false] #[true, true, true, true, false, false, false, false, true, false, false] rfl rfl rfl rfl (by kernel_rfl) (by decide) (by decide) (fun K hK => ?_) (fun K hK => ?_)
          · skip
            refine PrintLast.goes_ Tryd.func17 (by kernel_rfl) rfl #[.agg #[.slice D0 d.now.st.length e0', .int .i64 d.now.step, .slice D2 d.now.word.length e2, .slice D3 d.past.length e3], .slice (some ⟨gl, 0, none⟩) hf cl] (by rfl) rfl rfl (by (try simp only [List.map_toArray, List.map_cons, List.map_nil]); first | done | rfl) ?_
            haveI bo : Bel w9 wd := ⟨bd⟩
            haveI bow : Bel w wd := Bel.step (w := w) bd
            refine (i_DeskRun _ _ (d) (l.take hf) _ (HD9.out.at) (HLT.out.at) (HEN.out.at)).mono ?_
            clear bo bow
            rintro e w3z ⟨vx, rfl, ⟨f, hX⟩, hb⟩
            obtain ⟨X0, x0', X2, x2', X3, x3', rfl⟩ := dk_form hX.dk
            refine ⟨_, rfl, ?_⟩
            have BN : Below w9.heap.size w9 w3z := bd.trans (hb.mono bd.size)
            refine hK.out _ _ ⟨block_cell (block_at (b := ⟨BN⟩) BD9.out) 0 rfl, block_cell (block_at (b := ⟨BN⟩) BD9.out) 1 rfl, block_cell (block_at (b := ⟨BN⟩) BD9.out) 2 rfl, block_cell (block_at (b := ⟨BN⟩) BD9.out) 3 rfl⟩ (fun hHeld => ?_)
            clear hK K
            refine PrintLast.norm_ (a' := ?_) ?_ ?_
            rotate_left
            · (show Act.put _ (some 68) _ = _; simp only [Act.put, List.setIfInBounds_toArray, List.set_cons_zero, List.set_cons_succ, PrintLast.i64_w, PrintLast.i32_w]; rfl)
            refine PrintLast.pure_ (i := 5) (N := (some 63)) (v := ?_) (a' := ?_) #[true, true, true, true, true, true, false, false, false, false, false] rfl rfl (by kernel_rfl) (fun _ _ _ h => h) (Or.inl ⟨by rfl, ?_⟩) ?_ ?_
            rotate_left
            · (intro w'; go_simp; with_reducible rfl)
            rotate_left
            · (simp only [Act.put, List.setIfInBounds_toArray, List.set_cons_zero, List.set_cons_succ, PrintLast.i64_w, PrintLast.i32_w]; rfl)
            refine PrintLast.pure_ (i := 6) (N := (some 69)) (v := ?_) (a' := ?_) #[true, true, true, true, true, true, true, false, false, false, false] rfl rfl (by kernel_rfl) (fun _ _ _ h => h) (Or.inl ⟨by rfl, ?_⟩) ?_ ?_
            rotate_left
            · (intro w'; go_simp; with_reducible rfl)
            rotate_left
            · (simp only [Act.put, List.setIfInBounds_toArray, List.set_cons_zero, List.set_cons_succ, PrintLast.i64_w, PrintLast.i32_w]; rfl)
            refine PrintLast.pure_ (i := 7) (N := (some 70)) (v := ?_) (a' := ?_) #[true, true, true, true, true, true, true, true, false, false, false] rfl rfl (by kernel_rfl) (fun _ _ _ h => h) (Or.inl ⟨by rfl, ?_⟩) ?_ ?_
            rotate_left
            · (intro w'; go_simp; with_reducible rfl)
            rotate_left
            · (simp only [Act.put, List.setIfInBounds_toArray, List.set_cons_zero, List.set_cons_succ, PrintLast.i64_w, PrintLast.i32_w]; rfl)
            have bd3 := BN
            refine PrintLast.one_ (i := 8) (N := (some 10)) #[true, true, true, true, true, true, true, true, true, false, false] rfl rfl (by kernel_rfl) (by decide) (fun K hK => ?_)
            refine PrintLast.value_ (w1 := ?_) (v := ?_) (by rfl) rfl ?_ ?_
            rotate_left 2
            · (go_simp; constructor <;> rfl)
            have BN : Below w9.heap.size w9 (w3z.alloc (.cells #[.slice none 0 0, .int .i64 0, .slice none 0 0, .slice none 0 0] 28)) := bd3.alloc bd3.size _
            refine hK.out _ _ ⟨block_cell (block_at (b := ⟨BN⟩) BD9.out) 0 rfl, block_cell (block_at (b := ⟨BN⟩) BD9.out) 1 rfl, block_cell (block_at (b := ⟨BN⟩) BD9.out) 2 rfl, block_cell (block_at (b := ⟨BN⟩) BD9.out) 3 rfl⟩ (fun hHeld => ?_)
            clear hK K
            refine PrintLast.norm_ (a' := ?_) ?_ ?_
            rotate_left
            · (show Act.put _ (some 10) _ = _; simp only [Act.put, List.setIfInBounds_toArray, List.set_cons_zero, List.set_cons_succ, PrintLast.i64_w, PrintLast.i32_w]; rfl)
            have hal : Below w3z.heap.size w3z (w3z.alloc (.cells #[.slice none 0 0, .int .i64 0, .slice none 0 0, .slice none 0 0] 28)) := (Bel.alloc (w := w3z) (W := w3z)).out
            have hXo := (hX.hi (hi' := w3z.heap.size) (Nat.le_refl _)).kept (w1 := w3z.alloc (.cells #[.slice none 0 0, .int .i64 0, .slice none 0 0, .slice none 0 0] 28)) (fun i _ hi => hal.block i hi)
            exact PrintLast.norm_ (by simp only [PrintLast.putAll, Act.put, List.setIfInBounds_toArray, List.set_cons_zero, List.set_cons_succ, Nx2.v]) (hCont ⟨X0, x0', X2, x2', X3, x3', w3z.heap.size⟩ _ ⟨BN, heap_alloc_new _ _, ⟨_, _, _, hXo⟩, bd3.size⟩)
          · skip
            refine PrintLast.value_ (w1 := ?_) (v := ?_) (by rfl) rfl ?_ ?_
            rotate_left 2
            · (go_simp; constructor <;> rfl)
            have BN : Below w9.heap.size w9 (wd.alloc (.cells #[.slice none 0 0, .int .i64 0, .slice none 0 0, .slice none 0 0] 28)) := bd.alloc bd.size _
            refine hK.out _ _ ⟨block_cell (block_at (b := ⟨BN⟩) BD9.out) 0 rfl, block_cell (block_at (b := ⟨BN⟩) BD9.out) 1 rfl, block_cell (block_at (b := ⟨BN⟩) BD9.out) 2 rfl, block_cell (block_at (b := ⟨BN⟩) BD9.out) 3 rfl⟩ (fun hHeld => ?_)
            clear hK K
            refine PrintLast.norm_ (a' := ?_) ?_ ?_
            rotate_left
            · (show Act.put _ (some 10) _ = _; simp only [Act.put, List.setIfInBounds_toArray, List.set_cons_zero, List.set_cons_succ, PrintLast.i64_w, PrintLast.i32_w]; rfl)
            have bd3 := BN
            obtain ⟨wa, hwa⟩ : ∃ wa, wa = wd.alloc (.cells #[.slice none 0 0, .int .i64 0, .slice none 0 0, .slice none 0 0] 28) := ⟨_, rfl⟩
            have hnew : wa.heap[wd.heap.size]? = some (.cells #[.slice none 0 0, .int .i64 0, .slice none 0 0, .slice none 0 0] 28 (0, 0)) := by rw [hwa]; exact heap_alloc_new _ _
            rw [← hwa] at hHeld bd3 ⊢
            clear BN hwa
            refine PrintLast.one_ (i := 4) (N := (some 68)) #[true, true, true, true, true, false, false, false, true, false, false] rfl rfl (by kernel_rfl) (by decide) (fun K hK => ?_)
            refine PrintLast.goes_ Tryd.func17 (by kernel_rfl) rfl #[.agg #[.slice D0 d.now.st.length e0', .int .i64 d.now.step, .slice D2 d.now.word.length e2, .slice D3 d.past.length e3], .slice (some ⟨gl, 0, none⟩) hf cl] (by rfl) rfl rfl (by (try simp only [List.map_toArray, List.map_cons, List.map_nil]); first | done | rfl) ?_
            haveI bo : Bel w9 wa := ⟨bd3⟩
            haveI bow : Bel w wa := Bel.step (w := w) bd3
            refine (i_DeskRun _ _ (d) (l.take hf) _ (HD9.out.at) (HLT.out.at) (HEN.out.at)).mono ?_
            clear bo bow
            rintro e w3z ⟨vx, rfl, ⟨f, hX⟩, hb⟩
            obtain ⟨X0, x0', X2, x2', X3, x3', rfl⟩ := dk_form hX.dk
            refine ⟨_, rfl, ?_⟩
            have BN : Below w9.heap.size w9 w3z := bd3.trans (hb.mono bd3.size)
            refine hK.out _ _ ⟨block_cell (block_at (b := ⟨BN⟩) BD9.out) 0 rfl, block_cell (block_at (b := ⟨BN⟩) BD9.out) 1 rfl, block_cell (block_at (b := ⟨BN⟩) BD9.out) 2 rfl, block_cell (block_at (b := ⟨BN⟩) BD9.out) 3 rfl⟩ (fun hHeld => ?_)
            clear hK K
            refine PrintLast.norm_ (a' := ?_) ?_ ?_
            rotate_left
            · (show Act.put _ (some 68) _ = _; simp only [Act.put, List.setIfInBounds_toArray, List.set_cons_zero, List.set_cons_succ, PrintLast.i64_w, PrintLast.i32_w]; rfl)
            refine PrintLast.pure_ (i := 5) (N := (some 63)) (v := ?_) (a' := ?_) #[true, true, true, true, true, true, false, false, true, false, false] rfl rfl (by kernel_rfl) (fun _ _ _ h => h) (Or.inl ⟨by rfl, ?_⟩) ?_ ?_
            rotate_left
            · (intro w'; go_simp; with_reducible rfl)
            rotate_left
            · (simp only [Act.put, List.setIfInBounds_toArray, List.set_cons_zero, List.set_cons_succ, PrintLast.i64_w, PrintLast.i32_w]; rfl)
            refine PrintLast.pure_ (i := 6) (N := (some 69)) (v := ?_) (a' := ?_) #[true, true, true, true, true, true, true, false, true, false, false] rfl rfl (by kernel_rfl) (fun _ _ _ h => h) (Or.inl ⟨by rfl, ?_⟩) ?_ ?_
            rotate_left
            · (intro w'; go_simp; with_reducible rfl)
            rotate_left
            · (simp only [Act.put, List.setIfInBounds_toArray, List.set_cons_zero, List.set_cons_succ, PrintLast.i64_w, PrintLast.i32_w]; rfl)
            refine PrintLast.pure_ (i := 7) (N := (some 70)) (v := ?_) (a' := ?_) #[true, true, true, true, true, true, true, true, true, false, false] rfl rfl (by kernel_rfl) (fun _ _ _ h => h) (Or.inl ⟨by rfl, ?_⟩) ?_ ?_
            rotate_left
            · (intro w'; go_simp; with_reducible rfl)
            rotate_left
            · (simp only [Act.put, List.setIfInBounds_toArray, List.set_cons_zero, List.set_cons_succ, PrintLast.i64_w, PrintLast.i32_w]; rfl)
            exact PrintLast.norm_ (by simp only [PrintLast.putAll, Act.put, List.setIfInBounds_toArray, List.set_cons_zero, List.set_cons_succ, Nx2.v]) (hCont ⟨X0, x0', X2, x2', X3, x3', wd.heap.size⟩ _ ⟨BN, (hb.block _ (Array.getElem?_eq_some_iff.1 hnew).1).trans hnew, ⟨_, _, _, hX⟩, bd.size⟩)
        · rintro t wj ⟨hBj, hB9, ⟨lo, hi, f, hX⟩, hl9⟩
          simp only [PrintLast.putAll, Act.put, List.setIfInBounds_toArray, List.set_cons_zero, List.set_cons_succ]
          obtain ⟨X0, x0', X2, x2', X3, x3', gP⟩ := t
          simp only [Nx2.v] at hB9 hX hl9 ⊢
          have z0 := block_cell hB9 0 rfl
          have z1 := block_cell hB9 1 rfl
          have z2 := block_cell hB9 2 rfl
          have z3 := block_cell hB9 3 rfl
          have f0 := block_frozen hB9 0
          have f1 := block_frozen hB9 1
          have f2 := block_frozen hB9 2
          have f3 := block_frozen hB9 3
          have BP := Lib.hid (block_set4 hB9 (.slice X0 (runD d (l.take hf)).now.st.length x0') (.int .i64 (runD d (l.take hf)).now.step) (.slice X2 (runD d (l.take hf)).now.word.length x2') (.slice X3 (runD d (l.take hf)).past.length x3'))
          have HP := Lib.hid ((hX.set4 hB9 (by decide) (by decide) (.slice X0 (runD d (l.take hf)).now.st.length x0') (.int .i64 (runD d (l.take hf)).now.step) (.slice X2 (runD d (l.take hf)).now.word.length x2') (.slice X3 (runD d (l.take hf)).past.length x3')).dk)
          have LP := Lib.hid (below_set4 hBj hl9 (.slice X0 (runD d (l.take hf)).now.st.length x0') (.int .i64 (runD d (l.take hf)).now.step) (.slice X2 (runD d (l.take hf)).now.word.length x2') (.slice X3 (runD d (l.take hf)).past.length x3'))
          clear hB9 hX hBj hl9 bd
          refine PrintLast.last_ (i := 9) (N := none) #[true, true, true, true, true, true, true, true, true, true, false] rfl rfl (by kernel_rfl) (by decide) (fun K hK => ?_)
          refine PrintLast.skip_ (w1 := ?_) (by rfl) rfl ?_ ?_
          rotate_left
          · (go_simp; rfl)
          refine hK.out _ _ ?_
          clear hK K
          refine PrintLast.pure_ (i := 10) (N := (some 11)) (v := ?_) (a' := ?_) #[true, true, true, true, true, true, true, true, true, true, true] rfl rfl (by kernel_rfl) (fun _ _ _ h => h) (Or.inl ⟨by rfl, ?_⟩) ?_ ?_
          rotate_left
          · (intro w'; go_simp; with_reducible rfl)
          rotate_left
          · (simp only [Act.put, List.setIfInBounds_toArray, List.set_cons_zero, List.set_cons_succ, PrintLast.i64_w, PrintLast.i32_w]; rfl)
          refine PrintLast.done_ (by kernel_rfl) ?_
          obtain ⟨WP, hW5⟩ : ∃ WP, WP = set4 wj gP (.slice X0 (runD d (l.take hf)).now.st.length x0') (.int .i64 (runD d (l.take hf)).now.step) (.slice X2 (runD d (l.take hf)).now.word.length x2') (.slice X3 (runD d (l.take hf)).past.length x3') := ⟨_, rfl⟩
          have e5 := hW5
          unfold set4 at e5
          rw [← e5]
          rw [← hW5] at BP HP LP
          clear hW5 e5 z0 z1 z2 z3 f0 f1 f2 f3
          haveI bP : Bel w9 WP := ⟨LP.out⟩
          haveI bwP : Bel w WP := Bel.step (w := w) LP.out
          by_cases hz : cl = hf
          · have hz0 : hf = 0 := by omega
            have HLD2 : Hid (Dds w9 (.slice (some ⟨gl, 0, none⟩) (l.length - hf) 0) (l.drop hf)) := by
              have h := HLDR.out
              rw [show 0 + hf * 3 = 0 by omega, show cl - hf = 0 by omega] at h
              exact h
            have HLD2 := Lib.hid (HLD2.out.at (W := WP))
            clear HLDR HLT hz0
            go_upto_region 12 with (fail)
            have o0 := block_cell BP.out 0 rfl
            have o1 := block_cell BP.out 1 rfl
            have o2 := block_cell BP.out 2 rfl
            have o3 := block_cell BP.out 3 rfl
            refine PrintLast.start_ (n := 11) (S := fun w' => w'.cell? ⟨gP, 0, none⟩ = some (.slice X0 (runD d (l.take hf)).now.st.length x0') ∧ w'.cell? ⟨gP, 1, none⟩ = some (.int .i64 (runD d (l.take hf)).now.step) ∧ w'.cell? ⟨gP, 2, none⟩ = some (.slice X2 (runD d (l.take hf)).now.word.length x2') ∧ w'.cell? ⟨gP, 3, none⟩ = some (.slice X3 (runD d (l.take hf)).past.length x3')) (ds := [9]) #[false, false, false, false, false, false, false, false, false, false, false] (by kernel_rfl) rfl rfl ⟨cell_at o0, cell_at o1, cell_at o2, cell_at o3⟩ (fun hHeld => ?_)
            obtain ⟨wd, hwd⟩ : ∃ wd, wd = WP.drew := ⟨_, rfl⟩
            rw [← hwd] at hHeld ⊢
            have bd : Below WP.heap.size WP wd := by rw [hwd]; exact (Bel.drew (w := WP) (W := WP)).out
            clear hwd o0 o1 o2 o3
            refine PrintLast.take_ (i := 0) (N := (some 72)) (v := ?_) (a' := ?_) #[true, false, false, false, false, false, false, false, false, false, false] rfl rfl (by kernel_rfl) (fun _ _ _ h => h) (Or.inl ⟨by rfl, ?_⟩) hHeld ?_ ?_
            rotate_left
            · (rintro w' ⟨s0, s1, s2, s3⟩; go_simp; with_reducible rfl)
            rotate_left
            · (simp only [Act.put, List.setIfInBounds_toArray, List.set_cons_zero, List.set_cons_succ, PrintLast.i64_w, PrintLast.i32_w]; rfl)
            refine PrintLast.pure_ (i := 1) (N := (some 73)) (v := ?_) (a' := ?_) #[true, true, false, false, false, false, false, false, false, false, false] rfl rfl (by kernel_rfl) (fun _ _ _ h => h) (Or.inl ⟨by rfl, ?_⟩) ?_ ?_
            rotate_left
            · (intro w'; go_simp; with_reducible rfl)
            rotate_left
            · (simp only [Act.put, List.setIfInBounds_toArray, List.set_cons_zero, List.set_cons_succ, PrintLast.i64_w, PrintLast.i32_w]; rfl)
            refine PrintLast.pure_ (i := 2) (N := (some 74)) (v := ?_) (a' := ?_) #[true, true, true, false, false, false, false, false, false, false, false] rfl rfl (by kernel_rfl) (fun _ _ _ h => h) (Or.inl ⟨by rfl, ?_⟩) ?_ ?_
            rotate_left
            · (intro w'; go_simp; with_reducible rfl)
            rotate_left
            · (simp only [Act.put, List.setIfInBounds_toArray, List.set_cons_zero, List.set_cons_succ, PrintLast.i64_w, PrintLast.i32_w]; rfl)
            refine PrintLast.pure_ (i := 3) (N := (some 75)) (v := ?_) (a' := ?_) #[true, true, true, true, false, false, false, false, false, false, false] rfl rfl (by kernel_rfl) (fun _ _ _ h => h) (Or.inl ⟨by rfl, ?_⟩) ?_ ?_
            rotate_left
            · (intro w'; go_simp; with_reducible rfl)
            rotate_left
            · (simp only [Act.put, List.setIfInBounds_toArray, List.set_cons_zero, List.set_cons_succ, PrintLast.i64_w, PrintLast.i32_w]; rfl)
            refine PrintLast.join_ (σ := Nx2) 2 #[true, true, true, true, true, true, true, true, true, false, false] (fun t => [(76, .tuple #[t.v (runD (runD d (l.take hf)) (l.drop hf)), .int .i64 (runN (runD d (l.take hf)) (l.drop hf))]), (71, .tuple #[t.v (runD (runD d (l.take hf)) (l.drop hf)), .int .i64 (runN (runD d (l.take hf)) (l.drop hf))]), (77, t.v (runD (runD d (l.take hf)) (l.drop hf))), (78, .int .i64 (runN (runD d (l.take hf)) (l.drop hf))), (12, .pointer (some ⟨t.g9, 0, none⟩))]) (fun t w' => Below WP.heap.size WP w' ∧ w'.heap[t.g9]? = some (.cells #[.slice none 0 0, .int .i64 0, .slice none 0 0, .slice none 0 0] 28 (0, 0)) ∧ (∃ lo hi f, DkW w' lo hi f (t.v (runD (runD d (l.take hf)) (l.drop hf))) (runD (runD d (l.take hf)) (l.drop hf))) ∧ WP.heap.size ≤ t.g9) ?_ ?_
            rotate_left
            · intro hCont
              refine PrintLast.two_ (i := 4) (j := 8) (Ni := some 76) (Nj := some 12) #[true, true, true, true, true, false, false, false, false, false, false] #[true, true, true, true, false, false, false, false, true, false, false] rfl rfl rfl rfl (by kernel_rfl) (by decide) (by decide) (fun K hK => ?_) (fun K hK => ?_)
              · skip
                refine PrintLast.goes_ Tryd.func17 (by kernel_rfl) rfl #[.agg #[.slice X0 (runD d (l.take hf)).now.st.length x0', .int .i64 (runD d (l.take hf)).now.step, .slice X2 (runD d (l.take hf)).now.word.length x2', .slice X3 (runD d (l.take hf)).past.length x3'], (.slice (some ⟨gl, 0, none⟩) (l.length - hf) 0)] (by rfl) rfl rfl (by (try simp only [List.map_toArray, List.map_cons, List.map_nil]); first | done | rfl) ?_
                haveI bo : Bel WP wd := ⟨bd⟩
                haveI bow : Bel w wd := Bel.step (w := w) bd
                refine (i_DeskRun _ _ ((runD d (l.take hf))) (l.drop hf) _ (HP.out.at) (HLD2.out.at) (HEN.out.at)).mono ?_
                clear bo bow
                rintro e w3z ⟨vx, rfl, ⟨f, hX⟩, hb⟩
                obtain ⟨X0, x0', X2, x2', X3, x3', rfl⟩ := dk_form hX.dk
                refine ⟨_, rfl, ?_⟩
                have BN : Below WP.heap.size WP w3z := bd.trans (hb.mono bd.size)
                refine hK.out _ _ ⟨block_cell (block_at (b := ⟨BN⟩) BP.out) 0 rfl, block_cell (block_at (b := ⟨BN⟩) BP.out) 1 rfl, block_cell (block_at (b := ⟨BN⟩) BP.out) 2 rfl, block_cell (block_at (b := ⟨BN⟩) BP.out) 3 rfl⟩ (fun hHeld => ?_)
                clear hK K
                refine PrintLast.norm_ (a' := ?_) ?_ ?_
                rotate_left
                · (show Act.put _ (some 76) _ = _; simp only [Act.put, List.setIfInBounds_toArray, List.set_cons_zero, List.set_cons_succ, PrintLast.i64_w, PrintLast.i32_w]; rfl)
                refine PrintLast.pure_ (i := 5) (N := (some 71)) (v := ?_) (a' := ?_) #[true, true, true, true, true, true, false, false, false, false, false] rfl rfl (by kernel_rfl) (fun _ _ _ h => h) (Or.inl ⟨by rfl, ?_⟩) ?_ ?_
                rotate_left
                · (intro w'; go_simp; with_reducible rfl)
                rotate_left
                · (simp only [Act.put, List.setIfInBounds_toArray, List.set_cons_zero, List.set_cons_succ, PrintLast.i64_w, PrintLast.i32_w]; rfl)
                refine PrintLast.pure_ (i := 6) (N := (some 77)) (v := ?_) (a' := ?_) #[true, true, true, true, true, true, true, false, false, false, false] rfl rfl (by kernel_rfl) (fun _ _ _ h => h) (Or.inl ⟨by rfl, ?_⟩) ?_ ?_
                rotate_left
                · (intro w'; go_simp; with_reducible rfl)
                rotate_left
                · (simp only [Act.put, List.setIfInBounds_toArray, List.set_cons_zero, List.set_cons_succ, PrintLast.i64_w, PrintLast.i32_w]; rfl)
                refine PrintLast.pure_ (i := 7) (N := (some 78)) (v := ?_) (a' := ?_) #[true, true, true, true, true, true, true, true, false, false, false] rfl rfl (by kernel_rfl) (fun _ _ _ h => h) (Or.inl ⟨by rfl, ?_⟩) ?_ ?_
                rotate_left
                · (intro w'; go_simp; with_reducible rfl)
                rotate_left
                · (simp only [Act.put, List.setIfInBounds_toArray, List.set_cons_zero, List.set_cons_succ, PrintLast.i64_w, PrintLast.i32_w]; rfl)
                have bd3 := BN
                refine PrintLast.one_ (i := 8) (N := (some 12)) #[true, true, true, true, true, true, true, true, true, false, false] rfl rfl (by kernel_rfl) (by decide) (fun K hK => ?_)
                refine PrintLast.value_ (w1 := ?_) (v := ?_) (by rfl) rfl ?_ ?_
                rotate_left 2
                · (go_simp; constructor <;> rfl)
                have BN : Below WP.heap.size WP (w3z.alloc (.cells #[.slice none 0 0, .int .i64 0, .slice none 0 0, .slice none 0 0] 28)) := bd3.alloc bd3.size _
                refine hK.out _ _ ⟨block_cell (block_at (b := ⟨BN⟩) BP.out) 0 rfl, block_cell (block_at (b := ⟨BN⟩) BP.out) 1 rfl, block_cell (block_at (b := ⟨BN⟩) BP.out) 2 rfl, block_cell (block_at (b := ⟨BN⟩) BP.out) 3 rfl⟩ (fun hHeld => ?_)
                clear hK K
                refine PrintLast.norm_ (a' := ?_) ?_ ?_
                rotate_left
                · (show Act.put _ (some 12) _ = _; simp only [Act.put, List.setIfInBounds_toArray, List.set_cons_zero, List.set_cons_succ, PrintLast.i64_w, PrintLast.i32_w]; rfl)
                have hal : Below w3z.heap.size w3z (w3z.alloc (.cells #[.slice none 0 0, .int .i64 0, .slice none 0 0, .slice none 0 0] 28)) := (Bel.alloc (w := w3z) (W := w3z)).out
                have hXo := (hX.hi (hi' := w3z.heap.size) (Nat.le_refl _)).kept (w1 := w3z.alloc (.cells #[.slice none 0 0, .int .i64 0, .slice none 0 0, .slice none 0 0] 28)) (fun i _ hi => hal.block i hi)
                exact PrintLast.norm_ (by simp only [PrintLast.putAll, Act.put, List.setIfInBounds_toArray, List.set_cons_zero, List.set_cons_succ, Nx2.v]) (hCont ⟨X0, x0', X2, x2', X3, x3', w3z.heap.size⟩ _ ⟨BN, heap_alloc_new _ _, ⟨_, _, _, hXo⟩, bd3.size⟩)
              · skip
                refine PrintLast.value_ (w1 := ?_) (v := ?_) (by rfl) rfl ?_ ?_
                rotate_left 2
                · (go_simp; constructor <;> rfl)
                have BN : Below WP.heap.size WP (wd.alloc (.cells #[.slice none 0 0, .int .i64 0, .slice none 0 0, .slice none 0 0] 28)) := bd.alloc bd.size _
                refine hK.out _ _ ⟨block_cell (block_at (b := ⟨BN⟩) BP.out) 0 rfl, block_cell (block_at (b := ⟨BN⟩) BP.out) 1 rfl, block_cell (block_at (b := ⟨BN⟩) BP.out) 2 rfl, block_cell (block_at (b := ⟨BN⟩) BP.out) 3 rfl⟩ (fun hHeld => ?_)
                clear hK K
                refine PrintLast.norm_ (a' := ?_) ?_ ?_
                rotate_left
                · (show Act.put _ (some 12) _ = _; simp only [Act.put, List.setIfInBounds_toArray, List.set_cons_zero, List.set_cons_succ, PrintLast.i64_w, PrintLast.i32_w]; rfl)
                have bd3 := BN
                obtain ⟨wa, hwa⟩ : ∃ wa, wa = wd.alloc (.cells #[.slice none 0 0, .int .i64 0, .slice none 0 0, .slice none 0 0] 28) := ⟨_, rfl⟩
                have hnew : wa.heap[wd.heap.size]? = some (.cells #[.slice none 0 0, .int .i64 0, .slice none 0 0, .slice none 0 0] 28 (0, 0)) := by rw [hwa]; exact heap_alloc_new _ _
                rw [← hwa] at hHeld bd3 ⊢
                clear BN hwa
                refine PrintLast.one_ (i := 4) (N := (some 76)) #[true, true, true, true, true, false, false, false, true, false, false] rfl rfl (by kernel_rfl) (by decide) (fun K hK => ?_)
                refine PrintLast.goes_ Tryd.func17 (by kernel_rfl) rfl #[.agg #[.slice X0 (runD d (l.take hf)).now.st.length x0', .int .i64 (runD d (l.take hf)).now.step, .slice X2 (runD d (l.take hf)).now.word.length x2', .slice X3 (runD d (l.take hf)).past.length x3'], (.slice (some ⟨gl, 0, none⟩) (l.length - hf) 0)] (by rfl) rfl rfl (by (try simp only [List.map_toArray, List.map_cons, List.map_nil]); first | done | rfl) ?_
                haveI bo : Bel WP wa := ⟨bd3⟩
                haveI bow : Bel w wa := Bel.step (w := w) bd3
                refine (i_DeskRun _ _ ((runD d (l.take hf))) (l.drop hf) _ (HP.out.at) (HLD2.out.at) (HEN.out.at)).mono ?_
                clear bo bow
                rintro e w3z ⟨vx, rfl, ⟨f, hX⟩, hb⟩
                obtain ⟨X0, x0', X2, x2', X3, x3', rfl⟩ := dk_form hX.dk
                refine ⟨_, rfl, ?_⟩
                have BN : Below WP.heap.size WP w3z := bd3.trans (hb.mono bd3.size)
                refine hK.out _ _ ⟨block_cell (block_at (b := ⟨BN⟩) BP.out) 0 rfl, block_cell (block_at (b := ⟨BN⟩) BP.out) 1 rfl, block_cell (block_at (b := ⟨BN⟩) BP.out) 2 rfl, block_cell (block_at (b := ⟨BN⟩) BP.out) 3 rfl⟩ (fun hHeld => ?_)
                clear hK K
                refine PrintLast.norm_ (a' := ?_) ?_ ?_
                rotate_left
                · (show Act.put _ (some 76) _ = _; simp only [Act.put, List.setIfInBounds_toArray, List.set_cons_zero, List.set_cons_succ, PrintLast.i64_w, PrintLast.i32_w]; rfl)
                refine PrintLast.pure_ (i := 5) (N := (some 71)) (v := ?_) (a' := ?_) #[true, true, true, true, true, true, false, false, true, false, false] rfl rfl (by kernel_rfl) (fun _ _ _ h => h) (Or.inl ⟨by rfl, ?_⟩) ?_ ?_
                rotate_left
                · (intro w'; go_simp; with_reducible rfl)
                rotate_left
                · (simp only [Act.put, List.setIfInBounds_toArray, List.set_cons_zero, List.set_cons_succ, PrintLast.i64_w, PrintLast.i32_w]; rfl)
                refine PrintLast.pure_ (i := 6) (N := (some 77)) (v := ?_) (a' := ?_) #[true, true, true, true, true, true, true, false, true, false, false] rfl rfl (by kernel_rfl) (fun _ _ _ h => h) (Or.inl ⟨by rfl, ?_⟩) ?_ ?_
                rotate_left
                · (intro w'; go_simp; with_reducible rfl)
                rotate_left
                · (simp only [Act.put, List.setIfInBounds_toArray, List.set_cons_zero, List.set_cons_succ, PrintLast.i64_w, PrintLast.i32_w]; rfl)
                refine PrintLast.pure_ (i := 7) (N := (some 78)) (v := ?_) (a' := ?_) #[true, true, true, true, true, true, true, true, true, false, false] rfl rfl (by kernel_rfl) (fun _ _ _ h => h) (Or.inl ⟨by rfl, ?_⟩) ?_ ?_
                rotate_left
                · (intro w'; go_simp; with_reducible rfl)
                rotate_left
                · (simp only [Act.put, List.setIfInBounds_toArray, List.set_cons_zero, List.set_cons_succ, PrintLast.i64_w, PrintLast.i32_w]; rfl)
                exact PrintLast.norm_ (by simp only [PrintLast.putAll, Act.put, List.setIfInBounds_toArray, List.set_cons_zero, List.set_cons_succ, Nx2.v]) (hCont ⟨X0, x0', X2, x2', X3, x3', wd.heap.size⟩ _ ⟨BN, (hb.block _ (Array.getElem?_eq_some_iff.1 hnew).1).trans hnew, ⟨_, _, _, hX⟩, bd.size⟩)
            · rintro t wj ⟨hBj, hB9, ⟨lo, hi, f, hX⟩, hl9⟩
              simp only [PrintLast.putAll, Act.put, List.setIfInBounds_toArray, List.set_cons_zero, List.set_cons_succ]
              obtain ⟨X0, x0', X2, x2', X3, x3', gC⟩ := t
              simp only [Nx2.v] at hB9 hX hl9 ⊢
              have z0 := block_cell hB9 0 rfl
              have z1 := block_cell hB9 1 rfl
              have z2 := block_cell hB9 2 rfl
              have z3 := block_cell hB9 3 rfl
              have f0 := block_frozen hB9 0
              have f1 := block_frozen hB9 1
              have f2 := block_frozen hB9 2
              have f3 := block_frozen hB9 3
              have BC := Lib.hid (block_set4 hB9 (.slice X0 (runD (runD d (l.take hf)) (l.drop hf)).now.st.length x0') (.int .i64 (runD (runD d (l.take hf)) (l.drop hf)).now.step) (.slice X2 (runD (runD d (l.take hf)) (l.drop hf)).now.word.length x2') (.slice X3 (runD (runD d (l.take hf)) (l.drop hf)).past.length x3'))
              have HC := Lib.hid ((hX.set4 hB9 (by decide) (by decide) (.slice X0 (runD (runD d (l.take hf)) (l.drop hf)).now.st.length x0') (.int .i64 (runD (runD d (l.take hf)) (l.drop hf)).now.step) (.slice X2 (runD (runD d (l.take hf)) (l.drop hf)).now.word.length x2') (.slice X3 (runD (runD d (l.take hf)) (l.drop hf)).past.length x3')).dk)
              have LC := Lib.hid (below_set4 hBj hl9 (.slice X0 (runD (runD d (l.take hf)) (l.drop hf)).now.st.length x0') (.int .i64 (runD (runD d (l.take hf)) (l.drop hf)).now.step) (.slice X2 (runD (runD d (l.take hf)) (l.drop hf)).now.word.length x2') (.slice X3 (runD (runD d (l.take hf)) (l.drop hf)).past.length x3'))
              clear hB9 hX hBj hl9 bd
              refine PrintLast.last_ (i := 9) (N := none) #[true, true, true, true, true, true, true, true, true, true, false] rfl rfl (by kernel_rfl) (by decide) (fun K hK => ?_)
              refine PrintLast.skip_ (w1 := ?_) (by rfl) rfl ?_ ?_
              rotate_left
              · (go_simp; rfl)
              refine hK.out _ _ ?_
              clear hK K
              refine PrintLast.pure_ (i := 10) (N := (some 13)) (v := ?_) (a' := ?_) #[true, true, true, true, true, true, true, true, true, true, true] rfl rfl (by kernel_rfl) (fun _ _ _ h => h) (Or.inl ⟨by rfl, ?_⟩) ?_ ?_
              rotate_left
              · (intro w'; go_simp; with_reducible rfl)
              rotate_left
              · (simp only [Act.put, List.setIfInBounds_toArray, List.set_cons_zero, List.set_cons_succ, PrintLast.i64_w, PrintLast.i32_w]; rfl)
              refine PrintLast.done_ (by kernel_rfl) ?_
              obtain ⟨WC, hW5⟩ : ∃ WC, WC = set4 wj gC (.slice X0 (runD (runD d (l.take hf)) (l.drop hf)).now.st.length x0') (.int .i64 (runD (runD d (l.take hf)) (l.drop hf)).now.step) (.slice X2 (runD (runD d (l.take hf)) (l.drop hf)).now.word.length x2') (.slice X3 (runD (runD d (l.take hf)) (l.drop hf)).past.length x3') := ⟨_, rfl⟩
              have e5 := hW5
              unfold set4 at e5
              rw [← e5]
              rw [← hW5] at BC HC LC
              clear hW5 e5 z0 z1 z2 z3 f0 f1 f2 f3
              haveI bC : Bel WP WC := ⟨LC.out⟩
              haveI b9C : Bel w9 WC := Bel.step (w := w9) LC.out
              haveI bwC : Bel w WC := Bel.step (w := w) LC.out
              have p0 := block_cell (block_at (W := WC) BX9.out) 0 rfl
              have p1 := block_cell (block_at (W := WC) BX9.out) 1 rfl
              have p2 := block_cell (block_at (W := WC) BX9.out) 2 rfl
              have p3 := block_cell (block_at (W := WC) BX9.out) 3 rfl
              have HSM := Lib.hid (same_is (sameD_iff.2 HH.out.2.2.2.1))
              have HOX := Lib.hid (okI_isD HH.out.2.2.2.2.2)
              go_wp2_with fail
              refine (HOX.out _ _ (HX9.out.at (W := WC))).mono ?_
              rintro e wd ⟨rfl, hbd⟩
              haveI bd : Bel WC wd := Bel.step (w := WC) hbd
              haveI b9d : Bel w9 wd := Bel.step (w := w9) bd.out
              haveI bwd : Bel w wd := Bel.step (w := w) bd.out
              clear hbd p0 p1 p2 p3 HOX
              have p0 := block_cell (block_at (W := wd) BX9.out) 0 rfl
              have p1 := block_cell (block_at (W := wd) BX9.out) 1 rfl
              have p2 := block_cell (block_at (W := wd) BX9.out) 2 rfl
              have p3 := block_cell (block_at (W := wd) BX9.out) 3 rfl
              have c0 := block_cell (block_at (W := wd) BC.out) 0 rfl
              have c1 := block_cell (block_at (W := wd) BC.out) 1 rfl
              have c2 := block_cell (block_at (W := wd) BC.out) 2 rfl
              have c3 := block_cell (block_at (W := wd) BC.out) 3 rfl
              go_wp2_with fail
              refine (HSM.out _ _ _ (HC.out.at (W := wd)) (HX9.out.at (W := wd))).mono ?_
              rintro e we ⟨rfl, hbe⟩
              have HB := Lib.hid (Bel.step (w := w) hbe).out
              clear hbe p0 p1 p2 p3 c0 c1 c2 c3 HSM
              have hs1 := HH.out.2.1
              have hs2 := HH.out.2.2.1
              have hs3 := HH.out.1
              have hsum : ((runN d (l.take hf) : Nat) : Int) + ((runN (runD d (l.take hf)) (l.drop hf) : Nat) : Int) = ((runN d l : Nat) : Int) := by have := HH.out.2.2.2.2.1; omega
              go_wp2
              go_ret
              exact ⟨rfl, HB.out⟩
          · have HLD2 : Hid (Dds w9 (.slice (some ⟨gl, hf * 3, none⟩) (l.length - hf) (cl - hf)) (l.drop hf)) := by
              have h := HLDR.out
              rw [show 0 + hf * 3 = hf * 3 by omega] at h
              exact h
            have HLD2 := Lib.hid (HLD2.out.at (W := WP))
            clear HLDR HLT
            go_upto_region 12 with (fail)
            have o0 := block_cell BP.out 0 rfl
            have o1 := block_cell BP.out 1 rfl
            have o2 := block_cell BP.out 2 rfl
            have o3 := block_cell BP.out 3 rfl
            refine PrintLast.start_ (n := 11) (S := fun w' => w'.cell? ⟨gP, 0, none⟩ = some (.slice X0 (runD d (l.take hf)).now.st.length x0') ∧ w'.cell? ⟨gP, 1, none⟩ = some (.int .i64 (runD d (l.take hf)).now.step) ∧ w'.cell? ⟨gP, 2, none⟩ = some (.slice X2 (runD d (l.take hf)).now.word.length x2') ∧ w'.cell? ⟨gP, 3, none⟩ = some (.slice X3 (runD d (l.take hf)).past.length x3')) (ds := [9]) #[false, false, false, false, false, false, false, false, false, false, false] (by kernel_rfl) rfl rfl ⟨cell_at o0, cell_at o1, cell_at o2, cell_at o3⟩ (fun hHeld => ?_)
            obtain ⟨wd, hwd⟩ : ∃ wd, wd = WP.drew := ⟨_, rfl⟩
            rw [← hwd] at hHeld ⊢
            have bd : Below WP.heap.size WP wd := by rw [hwd]; exact (Bel.drew (w := WP) (W := WP)).out
            clear hwd o0 o1 o2 o3
            refine PrintLast.take_ (i := 0) (N := (some 72)) (v := ?_) (a' := ?_) #[true, false, false, false, false, false, false, false, false, false, false] rfl rfl (by kernel_rfl) (fun _ _ _ h => h) (Or.inl ⟨by rfl, ?_⟩) hHeld ?_ ?_
            rotate_left
            · (rintro w' ⟨s0, s1, s2, s3⟩; go_simp; with_reducible rfl)
            rotate_left
            · (simp only [Act.put, List.setIfInBounds_toArray, List.set_cons_zero, List.set_cons_succ, PrintLast.i64_w, PrintLast.i32_w]; rfl)
            refine PrintLast.pure_ (i := 1) (N := (some 73)) (v := ?_) (a' := ?_) #[true, true, false, false, false, false, false, false, false, false, false] rfl rfl (by kernel_rfl) (fun _ _ _ h => h) (Or.inl ⟨by rfl, ?_⟩) ?_ ?_
            rotate_left
            · (intro w'; go_simp; with_reducible rfl)
            rotate_left
            · (simp only [Act.put, List.setIfInBounds_toArray, List.set_cons_zero, List.set_cons_succ, PrintLast.i64_w, PrintLast.i32_w]; rfl)
            refine PrintLast.pure_ (i := 2) (N := (some 74)) (v := ?_) (a' := ?_) #[true, true, true, false, false, false, false, false, false, false, false] rfl rfl (by kernel_rfl) (fun _ _ _ h => h) (Or.inl ⟨by rfl, ?_⟩) ?_ ?_
            rotate_left
            · (intro w'; go_simp; with_reducible rfl)
            rotate_left
            · (simp only [Act.put, List.setIfInBounds_toArray, List.set_cons_zero, List.set_cons_succ, PrintLast.i64_w, PrintLast.i32_w]; rfl)
            refine PrintLast.pure_ (i := 3) (N := (some 75)) (v := ?_) (a' := ?_) #[true, true, true, true, false, false, false, false, false, false, false] rfl rfl (by kernel_rfl) (fun _ _ _ h => h) (Or.inl ⟨by rfl, ?_⟩) ?_ ?_
            rotate_left
            · (intro w'; go_simp; with_reducible rfl)
            rotate_left
            · (simp only [Act.put, List.setIfInBounds_toArray, List.set_cons_zero, List.set_cons_succ, PrintLast.i64_w, PrintLast.i32_w]; rfl)
            refine PrintLast.join_ (σ := Nx2) 2 #[true, true, true, true, true, true, true, true, true, false, false] (fun t => [(76, .tuple #[t.v (runD (runD d (l.take hf)) (l.drop hf)), .int .i64 (runN (runD d (l.take hf)) (l.drop hf))]), (71, .tuple #[t.v (runD (runD d (l.take hf)) (l.drop hf)), .int .i64 (runN (runD d (l.take hf)) (l.drop hf))]), (77, t.v (runD (runD d (l.take hf)) (l.drop hf))), (78, .int .i64 (runN (runD d (l.take hf)) (l.drop hf))), (12, .pointer (some ⟨t.g9, 0, none⟩))]) (fun t w' => Below WP.heap.size WP w' ∧ w'.heap[t.g9]? = some (.cells #[.slice none 0 0, .int .i64 0, .slice none 0 0, .slice none 0 0] 28 (0, 0)) ∧ (∃ lo hi f, DkW w' lo hi f (t.v (runD (runD d (l.take hf)) (l.drop hf))) (runD (runD d (l.take hf)) (l.drop hf))) ∧ WP.heap.size ≤ t.g9) ?_ ?_
            rotate_left
            · intro hCont
              refine PrintLast.two_ (i := 4) (j := 8) (Ni := some 76) (Nj := some 12) #[true, true, true, true, true, false, false, false, false, false, false] #[true, true, true, true, false, false, false, false, true, false, false] rfl rfl rfl rfl (by kernel_rfl) (by decide) (by decide) (fun K hK => ?_) (fun K hK => ?_)
              · skip
                refine PrintLast.goes_ Tryd.func17 (by kernel_rfl) rfl #[.agg #[.slice X0 (runD d (l.take hf)).now.st.length x0', .int .i64 (runD d (l.take hf)).now.step, .slice X2 (runD d (l.take hf)).now.word.length x2', .slice X3 (runD d (l.take hf)).past.length x3'], (.slice (some ⟨gl, hf * 3, none⟩) (l.length - hf) (cl - hf))] (by rfl) rfl rfl (by (try simp only [List.map_toArray, List.map_cons, List.map_nil]); first | done | rfl) ?_
                haveI bo : Bel WP wd := ⟨bd⟩
                haveI bow : Bel w wd := Bel.step (w := w) bd
                refine (i_DeskRun _ _ ((runD d (l.take hf))) (l.drop hf) _ (HP.out.at) (HLD2.out.at) (HEN.out.at)).mono ?_
                clear bo bow
                rintro e w3z ⟨vx, rfl, ⟨f, hX⟩, hb⟩
                obtain ⟨X0, x0', X2, x2', X3, x3', rfl⟩ := dk_form hX.dk
                refine ⟨_, rfl, ?_⟩
                have BN : Below WP.heap.size WP w3z := bd.trans (hb.mono bd.size)
                refine hK.out _ _ ⟨block_cell (block_at (b := ⟨BN⟩) BP.out) 0 rfl, block_cell (block_at (b := ⟨BN⟩) BP.out) 1 rfl, block_cell (block_at (b := ⟨BN⟩) BP.out) 2 rfl, block_cell (block_at (b := ⟨BN⟩) BP.out) 3 rfl⟩ (fun hHeld => ?_)
                clear hK K
                refine PrintLast.norm_ (a' := ?_) ?_ ?_
                rotate_left
                · (show Act.put _ (some 76) _ = _; simp only [Act.put, List.setIfInBounds_toArray, List.set_cons_zero, List.set_cons_succ, PrintLast.i64_w, PrintLast.i32_w]; rfl)
                refine PrintLast.pure_ (i := 5) (N := (some 71)) (v := ?_) (a' := ?_) #[true, true, true, true, true, true, false, false, false, false, false] rfl rfl (by kernel_rfl) (fun _ _ _ h => h) (Or.inl ⟨by rfl, ?_⟩) ?_ ?_
                rotate_left
                · (intro w'; go_simp; with_reducible rfl)
                rotate_left
                · (simp only [Act.put, List.setIfInBounds_toArray, List.set_cons_zero, List.set_cons_succ, PrintLast.i64_w, PrintLast.i32_w]; rfl)
                refine PrintLast.pure_ (i := 6) (N := (some 77)) (v := ?_) (a' := ?_) #[true, true, true, true, true, true, true, false, false, false, false] rfl rfl (by kernel_rfl) (fun _ _ _ h => h) (Or.inl ⟨by rfl, ?_⟩) ?_ ?_
                rotate_left
                · (intro w'; go_simp; with_reducible rfl)
                rotate_left
                · (simp only [Act.put, List.setIfInBounds_toArray, List.set_cons_zero, List.set_cons_succ, PrintLast.i64_w, PrintLast.i32_w]; rfl)
                refine PrintLast.pure_ (i := 7) (N := (some 78)) (v := ?_) (a' := ?_) #[true, true, true, true, true, true, true, true, false, false, false] rfl rfl (by kernel_rfl) (fun _ _ _ h => h) (Or.inl ⟨by rfl, ?_⟩) ?_ ?_
                rotate_left
                · (intro w'; go_simp; with_reducible rfl)
                rotate_left
                · (simp only [Act.put, List.setIfInBounds_toArray, List.set_cons_zero, List.set_cons_succ, PrintLast.i64_w, PrintLast.i32_w]; rfl)
                have bd3 := BN
                refine PrintLast.one_ (i := 8) (N := (some 12)) #[true, true, true, true, true, true, true, true, true, false, false] rfl rfl (by kernel_rfl) (by decide) (fun K hK => ?_)
                refine PrintLast.value_ (w1 := ?_) (v := ?_) (by rfl) rfl ?_ ?_
                rotate_left 2
                · (go_simp; constructor <;> rfl)
                have BN : Below WP.heap.size WP (w3z.alloc (.cells #[.slice none 0 0, .int .i64 0, .slice none 0 0, .slice none 0 0] 28)) := bd3.alloc bd3.size _
                refine hK.out _ _ ⟨block_cell (block_at (b := ⟨BN⟩) BP.out) 0 rfl, block_cell (block_at (b := ⟨BN⟩) BP.out) 1 rfl, block_cell (block_at (b := ⟨BN⟩) BP.out) 2 rfl, block_cell (block_at (b := ⟨BN⟩) BP.out) 3 rfl⟩ (fun hHeld => ?_)
                clear hK K
                refine PrintLast.norm_ (a' := ?_) ?_ ?_
                rotate_left
                · (show Act.put _ (some 12) _ = _; simp only [Act.put, List.setIfInBounds_toArray, List.set_cons_zero, List.set_cons_succ, PrintLast.i64_w, PrintLast.i32_w]; rfl)
                have hal : Below w3z.heap.size w3z (w3z.alloc (.cells #[.slice none 0 0, .int .i64 0, .slice none 0 0, .slice none 0 0] 28)) := (Bel.alloc (w := w3z) (W := w3z)).out
                have hXo := (hX.hi (hi' := w3z.heap.size) (Nat.le_refl _)).kept (w1 := w3z.alloc (.cells #[.slice none 0 0, .int .i64 0, .slice none 0 0, .slice none 0 0] 28)) (fun i _ hi => hal.block i hi)
                exact PrintLast.norm_ (by simp only [PrintLast.putAll, Act.put, List.setIfInBounds_toArray, List.set_cons_zero, List.set_cons_succ, Nx2.v]) (hCont ⟨X0, x0', X2, x2', X3, x3', w3z.heap.size⟩ _ ⟨BN, heap_alloc_new _ _, ⟨_, _, _, hXo⟩, bd3.size⟩)
              · skip
                refine PrintLast.value_ (w1 := ?_) (v := ?_) (by rfl) rfl ?_ ?_
                rotate_left 2
                · (go_simp; constructor <;> rfl)
                have BN : Below WP.heap.size WP (wd.alloc (.cells #[.slice none 0 0, .int .i64 0, .slice none 0 0, .slice none 0 0] 28)) := bd.alloc bd.size _
                refine hK.out _ _ ⟨block_cell (block_at (b := ⟨BN⟩) BP.out) 0 rfl, block_cell (block_at (b := ⟨BN⟩) BP.out) 1 rfl, block_cell (block_at (b := ⟨BN⟩) BP.out) 2 rfl, block_cell (block_at (b := ⟨BN⟩) BP.out) 3 rfl⟩ (fun hHeld => ?_)
                clear hK K
                refine PrintLast.norm_ (a' := ?_) ?_ ?_
                rotate_left
                · (show Act.put _ (some 12) _ = _; simp only [Act.put, List.setIfInBounds_toArray, List.set_cons_zero, List.set_cons_succ, PrintLast.i64_w, PrintLast.i32_w]; rfl)
                have bd3 := BN
                obtain ⟨wa, hwa⟩ : ∃ wa, wa = wd.alloc (.cells #[.slice none 0 0, .int .i64 0, .slice none 0 0, .slice none 0 0] 28) := ⟨_, rfl⟩
                have hnew : wa.heap[wd.heap.size]? = some (.cells #[.slice none 0 0, .int .i64 0, .slice none 0 0, .slice none 0 0] 28 (0, 0)) := by rw [hwa]; exact heap_alloc_new _ _
                rw [← hwa] at hHeld bd3 ⊢
                clear BN hwa
                refine PrintLast.one_ (i := 4) (N := (some 76)) #[true, true, true, true, true, false, false, false, true, false, false] rfl rfl (by kernel_rfl) (by decide) (fun K hK => ?_)
                refine PrintLast.goes_ Tryd.func17 (by kernel_rfl) rfl #[.agg #[.slice X0 (runD d (l.take hf)).now.st.length x0', .int .i64 (runD d (l.take hf)).now.step, .slice X2 (runD d (l.take hf)).now.word.length x2', .slice X3 (runD d (l.take hf)).past.length x3'], (.slice (some ⟨gl, hf * 3, none⟩) (l.length - hf) (cl - hf))] (by rfl) rfl rfl (by (try simp only [List.map_toArray, List.map_cons, List.map_nil]); first | done | rfl) ?_
                haveI bo : Bel WP wa := ⟨bd3⟩
                haveI bow : Bel w wa := Bel.step (w := w) bd3
                refine (i_DeskRun _ _ ((runD d (l.take hf))) (l.drop hf) _ (HP.out.at) (HLD2.out.at) (HEN.out.at)).mono ?_
                clear bo bow
                rintro e w3z ⟨vx, rfl, ⟨f, hX⟩, hb⟩
                obtain ⟨X0, x0', X2, x2', X3, x3', rfl⟩ := dk_form hX.dk
                refine ⟨_, rfl, ?_⟩
                have BN : Below WP.heap.size WP w3z := bd3.trans (hb.mono bd3.size)
                refine hK.out _ _ ⟨block_cell (block_at (b := ⟨BN⟩) BP.out) 0 rfl, block_cell (block_at (b := ⟨BN⟩) BP.out) 1 rfl, block_cell (block_at (b := ⟨BN⟩) BP.out) 2 rfl, block_cell (block_at (b := ⟨BN⟩) BP.out) 3 rfl⟩ (fun hHeld => ?_)
                clear hK K
                refine PrintLast.norm_ (a' := ?_) ?_ ?_
                rotate_left
                · (show Act.put _ (some 76) _ = _; simp only [Act.put, List.setIfInBounds_toArray, List.set_cons_zero, List.set_cons_succ, PrintLast.i64_w, PrintLast.i32_w]; rfl)
                refine PrintLast.pure_ (i := 5) (N := (some 71)) (v := ?_) (a' := ?_) #[true, true, true, true, true, true, false, false, true, false, false] rfl rfl (by kernel_rfl) (fun _ _ _ h => h) (Or.inl ⟨by rfl, ?_⟩) ?_ ?_
                rotate_left
                · (intro w'; go_simp; with_reducible rfl)
                rotate_left
                · (simp only [Act.put, List.setIfInBounds_toArray, List.set_cons_zero, List.set_cons_succ, PrintLast.i64_w, PrintLast.i32_w]; rfl)
                refine PrintLast.pure_ (i := 6) (N := (some 77)) (v := ?_) (a' := ?_) #[true, true, true, true, true, true, true, false, true, false, false] rfl rfl (by kernel_rfl) (fun _ _ _ h => h) (Or.inl ⟨by rfl, ?_⟩) ?_ ?_
                rotate_left
                · (intro w'; go_simp; with_reducible rfl)
                rotate_left
                · (simp only [Act.put, List.setIfInBounds_toArray, List.set_cons_zero, List.set_cons_succ, PrintLast.i64_w, PrintLast.i32_w]; rfl)
                refine PrintLast.pure_ (i := 7) (N := (some 78)) (v := ?_) (a' := ?_) #[true, true, true, true, true, true, true, true, true, false, false] rfl rfl (by kernel_rfl) (fun _ _ _ h => h) (Or.inl ⟨by rfl, ?_⟩) ?_ ?_
                rotate_left
                · (intro w'; go_simp; with_reducible rfl)
                rotate_left
                · (simp only [Act.put, List.setIfInBounds_toArray, List.set_cons_zero, List.set_cons_succ, PrintLast.i64_w, PrintLast.i32_w]; rfl)
                exact PrintLast.norm_ (by simp only [PrintLast.putAll, Act.put, List.setIfInBounds_toArray, List.set_cons_zero, List.set_cons_succ, Nx2.v]) (hCont ⟨X0, x0', X2, x2', X3, x3', wd.heap.size⟩ _ ⟨BN, (hb.block _ (Array.getElem?_eq_some_iff.1 hnew).1).trans hnew, ⟨_, _, _, hX⟩, bd.size⟩)
            · rintro t wj ⟨hBj, hB9, ⟨lo, hi, f, hX⟩, hl9⟩
              simp only [PrintLast.putAll, Act.put, List.setIfInBounds_toArray, List.set_cons_zero, List.set_cons_succ]
              obtain ⟨X0, x0', X2, x2', X3, x3', gC⟩ := t
              simp only [Nx2.v] at hB9 hX hl9 ⊢
              have z0 := block_cell hB9 0 rfl
              have z1 := block_cell hB9 1 rfl
              have z2 := block_cell hB9 2 rfl
              have z3 := block_cell hB9 3 rfl
              have f0 := block_frozen hB9 0
              have f1 := block_frozen hB9 1
              have f2 := block_frozen hB9 2
              have f3 := block_frozen hB9 3
              have BC := Lib.hid (block_set4 hB9 (.slice X0 (runD (runD d (l.take hf)) (l.drop hf)).now.st.length x0') (.int .i64 (runD (runD d (l.take hf)) (l.drop hf)).now.step) (.slice X2 (runD (runD d (l.take hf)) (l.drop hf)).now.word.length x2') (.slice X3 (runD (runD d (l.take hf)) (l.drop hf)).past.length x3'))
              have HC := Lib.hid ((hX.set4 hB9 (by decide) (by decide) (.slice X0 (runD (runD d (l.take hf)) (l.drop hf)).now.st.length x0') (.int .i64 (runD (runD d (l.take hf)) (l.drop hf)).now.step) (.slice X2 (runD (runD d (l.take hf)) (l.drop hf)).now.word.length x2') (.slice X3 (runD (runD d (l.take hf)) (l.drop hf)).past.length x3')).dk)
              have LC := Lib.hid (below_set4 hBj hl9 (.slice X0 (runD (runD d (l.take hf)) (l.drop hf)).now.st.length x0') (.int .i64 (runD (runD d (l.take hf)) (l.drop hf)).now.step) (.slice X2 (runD (runD d (l.take hf)) (l.drop hf)).now.word.length x2') (.slice X3 (runD (runD d (l.take hf)) (l.drop hf)).past.length x3'))
              clear hB9 hX hBj hl9 bd
              refine PrintLast.last_ (i := 9) (N := none) #[true, true, true, true, true, true, true, true, true, true, false] rfl rfl (by kernel_rfl) (by decide) (fun K hK => ?_)
              refine PrintLast.skip_ (w1 := ?_) (by rfl) rfl ?_ ?_
              rotate_left
              · (go_simp; rfl)
              refine hK.out _ _ ?_
              clear hK K
              refine PrintLast.pure_ (i := 10) (N := (some 13)) (v := ?_) (a' := ?_) #[true, true, true, true, true, true, true, true, true, true, true] rfl rfl (by kernel_rfl) (fun _ _ _ h => h) (Or.inl ⟨by rfl, ?_⟩) ?_ ?_
              rotate_left
              · (intro w'; go_simp; with_reducible rfl)
              rotate_left
              · (simp only [Act.put, List.setIfInBounds_toArray, List.set_cons_zero, List.set_cons_succ, PrintLast.i64_w, PrintLast.i32_w]; rfl)
              refine PrintLast.done_ (by kernel_rfl) ?_
              obtain ⟨WC, hW5⟩ : ∃ WC, WC = set4 wj gC (.slice X0 (runD (runD d (l.take hf)) (l.drop hf)).now.st.length x0') (.int .i64 (runD (runD d (l.take hf)) (l.drop hf)).now.step) (.slice X2 (runD (runD d (l.take hf)) (l.drop hf)).now.word.length x2') (.slice X3 (runD (runD d (l.take hf)) (l.drop hf)).past.length x3') := ⟨_, rfl⟩
              have e5 := hW5
              unfold set4 at e5
              rw [← e5]
              rw [← hW5] at BC HC LC
              clear hW5 e5 z0 z1 z2 z3 f0 f1 f2 f3
              haveI bC : Bel WP WC := ⟨LC.out⟩
              haveI b9C : Bel w9 WC := Bel.step (w := w9) LC.out
              haveI bwC : Bel w WC := Bel.step (w := w) LC.out
              have p0 := block_cell (block_at (W := WC) BX9.out) 0 rfl
              have p1 := block_cell (block_at (W := WC) BX9.out) 1 rfl
              have p2 := block_cell (block_at (W := WC) BX9.out) 2 rfl
              have p3 := block_cell (block_at (W := WC) BX9.out) 3 rfl
              have HSM := Lib.hid (same_is (sameD_iff.2 HH.out.2.2.2.1))
              have HOX := Lib.hid (okI_isD HH.out.2.2.2.2.2)
              go_wp2_with fail
              refine (HOX.out _ _ (HX9.out.at (W := WC))).mono ?_
              rintro e wd ⟨rfl, hbd⟩
              haveI bd : Bel WC wd := Bel.step (w := WC) hbd
              haveI b9d : Bel w9 wd := Bel.step (w := w9) bd.out
              haveI bwd : Bel w wd := Bel.step (w := w) bd.out
              clear hbd p0 p1 p2 p3 HOX
              have p0 := block_cell (block_at (W := wd) BX9.out) 0 rfl
              have p1 := block_cell (block_at (W := wd) BX9.out) 1 rfl
              have p2 := block_cell (block_at (W := wd) BX9.out) 2 rfl
              have p3 := block_cell (block_at (W := wd) BX9.out) 3 rfl
              have c0 := block_cell (block_at (W := wd) BC.out) 0 rfl
              have c1 := block_cell (block_at (W := wd) BC.out) 1 rfl
              have c2 := block_cell (block_at (W := wd) BC.out) 2 rfl
              have c3 := block_cell (block_at (W := wd) BC.out) 3 rfl
              go_wp2_with fail
              refine (HSM.out _ _ _ (HC.out.at (W := wd)) (HX9.out.at (W := wd))).mono ?_
              rintro e we ⟨rfl, hbe⟩
              have HB := Lib.hid (Bel.step (w := w) hbe).out
              clear hbe p0 p1 p2 p3 c0 c1 c2 c3 HSM
              have hs1 := HH.out.2.1
              have hs2 := HH.out.2.2.1
              have hs3 := HH.out.1
              have hsum : ((runN d (l.take hf) : Nat) : Int) + ((runN (runD d (l.take hf)) (l.drop hf) : Nat) : Int) = ((runN d l : Nat) : Int) := by have := HH.out.2.2.2.2.1; omega
              go_wp2
              go_ret
              exact ⟨rfl, HB.out⟩
end Go.Proofs.YtpfncjaclgcbnaaDoor.Ub
