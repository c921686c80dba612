/- The program's DeskDo: the short ways. -/
import Derived.Test.YtpfncjaclgcbnaaDoorF16
set_option linter.unusedVariables false
set_option linter.unusedSimpArgs false
namespace Go.Proofs.YtpfncjaclgcbnaaDoor.Ub
open Go.RowKit Go.Proofs.YtpfncjaclgcbnaaDoorW


set_option maxHeartbeats 1000000 in
set_option maxRecDepth 100000 in
theorem i_do_none (d : Dk) (a : Dd) (w : World) (A0 A2 A3 : Option Addr) (c0 c2 c3 : Nat) (i0 : Ints w (.slice A0 d.now.st.length c0) d.now.st) (i2 : Ints w (.slice A2 d.now.word.length c2) d.now.word) (i3 : Pls w (.slice A3 d.past.length c3) d.past) (hok : deskOk d = false) :
    Calls Tryd.prog 8 #[.agg #[.slice A0 d.now.st.length c0, .int .i64 d.now.step, .slice A2 d.now.word.length c2, .slice A3 d.past.length c3], .agg #[.int .i64 a.kind, .int .i64 a.a, .int .i64 a.b]] w
      fun e w' => ∃ v', e = .returned (.tuple #[v', .bool (doOk d a)]) ∧ (∃ f, DkW w' w.heap.size w'.heap.size f v' (doDesk d a)) ∧ Below w.heap.size w w' := by
  have hn : (!deskOk d) = true := by simp [hok]
  have HD := Lib.hid (do_none (a := a) hok)
  clear hok
  go_enter Tryd.func8, Tryd.ntmps8
  go_wp2_with fail
  refine (i_DeskOk _ d _ (DkI.mk i0.at i2.at i3.at)).mono ?_
  rintro e wa ⟨rfl, hba⟩
  haveI ba : Bel w wa := Bel.step (w := w) hba
  have BXa : wa.heap[w.heap.size]? = some (.cells #[.slice A0 d.now.st.length c0, .int .i64 d.now.step, .slice A2 d.now.word.length c2, .slice A3 d.past.length c3] 28 (0, 0)) := (hba.block _ (by simp <;> omega)).trans ((heap_alloc_old _ _ (by simp <;> omega)).trans ((heap_alloc_old _ _ (by simp)).trans (heap_alloc_new w _)))
  have BDa : wa.heap[w.heap.size + 1]? = some (.cells #[.int .i64 a.kind, .int .i64 a.a, .int .i64 a.b] 30 (0, 0)) := (hba.block _ (by simp <;> omega)).trans ((heap_alloc_old _ _ (by simp)).trans (by simpa using heap_alloc_new (w.alloc (.cells #[.slice A0 d.now.st.length c0, .int .i64 d.now.step, .slice A2 d.now.word.length c2, .slice A3 d.past.length c3] 28)) _))
  have BRa : wa.heap[w.heap.size + 2]? = some (.cells #[.slice none 0 0, .int .i64 0, .slice none 0 0, .slice none 0 0] 28 (0, 0)) := (hba.block _ (by simp)).trans (by simpa using heap_alloc_new ((w.alloc (.cells #[.slice A0 d.now.st.length c0, .int .i64 d.now.step, .slice A2 d.now.word.length c2, .slice A3 d.past.length c3] 28)).alloc (.cells #[.int .i64 a.kind, .int .i64 a.a, .int .i64 a.b] 30)) _)
  have hza : w.heap.size + 2 < wa.heap.size := by have := hba.size; simp at this; omega
  clear hba
  have RR := BRa
  have r0 := block_cell RR 0 rfl
  have r1 := block_cell RR 1 rfl
  have r2 := block_cell RR 2 rfl
  have r3 := block_cell RR 3 rfl
  have f0 := block_frozen RR 0
  have f1 := block_frozen RR 1
  have f2 := block_frozen RR 2
  have f3 := block_frozen RR 3
  have HB := Lib.hid (below_set4 ba.out (g := w.heap.size + 2) (by omega) (.slice none 0 0) (.int .i64 0) (.slice none 0 0) (.slice none 0 0))
  clear RR BXa BDa BRa hza
  go_wp2
  exact bodyPost_ret (v := .tuple #[.agg #[.slice none 0 0, .int .i64 0, .slice none 0 0, .slice none 0 0], .bool false]) (by simp [results, Tryd.results8, go_sem, r0, r1, r2, r3]) rfl ⟨_, by rw [HD.out.2], ⟨_, by rw [HD.out.1]; exact DkW.nil _ _ _⟩, HB.out⟩

set_option maxHeartbeats 1000000 in
set_option maxRecDepth 100000 in
theorem i_do_b (d : Dk) (a : Dd) (w : World) (A0 A2 A3 : Option Addr) (c0 c2 c3 : Nat) (i0 : Ints w (.slice A0 d.now.st.length c0) d.now.st) (i2 : Ints w (.slice A2 d.now.word.length c2) d.now.word) (i3 : Pls w (.slice A3 d.past.length c3) d.past) (hok : deskOk d = true) (hk : a.kind ≠ 0) (hb : a.b ≠ 0) :
    Calls Tryd.prog 8 #[.agg #[.slice A0 d.now.st.length c0, .int .i64 d.now.step, .slice A2 d.now.word.length c2, .slice A3 d.past.length c3], .agg #[.int .i64 a.kind, .int .i64 a.a, .int .i64 a.b]] w
      fun e w' => ∃ v', e = .returned (.tuple #[v', .bool (doOk d a)]) ∧ (∃ f, DkW w' w.heap.size w'.heap.size f v' (doDesk d a)) ∧ Below w.heap.size w w' := by
  have hn : (!deskOk d) = false := by simp [hok]
  obtain ⟨hs1, hs2, hs3, hs4⟩ := desk_small hok
  have HSM := Lib.hid hs4
  have HD := Lib.hid (do_not (a := a) hok (back_b hb) (by rw [made_b hk hb]; exact took_z0 _))
  have k1 : (a.kind != 0) = true := by simp [hk]
  have k2 : (a.b != 0) = true := by simp [hb]
  clear hok hs4 hk hb
  go_enter Tryd.func8, Tryd.ntmps8
  go_wp2_with fail
  refine (i_DeskOk _ d _ (DkI.mk i0.at i2.at i3.at)).mono ?_
  rintro e wa ⟨rfl, hba⟩
  haveI ba : Bel w wa := Bel.step (w := w) hba
  have BXa : wa.heap[w.heap.size]? = some (.cells #[.slice A0 d.now.st.length c0, .int .i64 d.now.step, .slice A2 d.now.word.length c2, .slice A3 d.past.length c3] 28 (0, 0)) := (hba.block _ (by simp <;> omega)).trans ((heap_alloc_old _ _ (by simp <;> omega)).trans ((heap_alloc_old _ _ (by simp)).trans (heap_alloc_new w _)))
  have BDa : wa.heap[w.heap.size + 1]? = some (.cells #[.int .i64 a.kind, .int .i64 a.a, .int .i64 a.b] 30 (0, 0)) := (hba.block _ (by simp <;> omega)).trans ((heap_alloc_old _ _ (by simp)).trans (by simpa using heap_alloc_new (w.alloc (.cells #[.slice A0 d.now.st.length c0, .int .i64 d.now.step, .slice A2 d.now.word.length c2, .slice A3 d.past.length c3] 28)) _))
  have BRa : wa.heap[w.heap.size + 2]? = some (.cells #[.slice none 0 0, .int .i64 0, .slice none 0 0, .slice none 0 0] 28 (0, 0)) := (hba.block _ (by simp)).trans (by simpa using heap_alloc_new ((w.alloc (.cells #[.slice A0 d.now.st.length c0, .int .i64 d.now.step, .slice A2 d.now.word.length c2, .slice A3 d.past.length c3] 28)).alloc (.cells #[.int .i64 a.kind, .int .i64 a.a, .int .i64 a.b] 30)) _)
  have hza : w.heap.size + 2 < wa.heap.size := by have := hba.size; simp at this; omega
  clear hba
  go_upto_region 3 with (fail)
  refine copies d w wa A0 A2 A3 c0 c2 c3 i0 i2 i3 hs1 hs2 hs3 HSM ba BXa _ _ _ _ _ _ _ _ _ (fun _ _ d _ _ h => (by cases d <;> exact h)) ?_
  rintro t wj hF
  obtain ⟨B0, e0, B2, e2, B3, e3, C0, k0, C2, k2, C3, k3, g6, g7⟩ := t
  obtain ⟨fbel, fb6, fb7, fne, fl6, fl7, m, f1, f2, fm0, fm, F1, F2⟩ := hF
  simp only [Two.v1, Two.v2] at *
  obtain ⟨W5, hW5⟩ : ∃ W5, W5 = set4 (set4 wj g6 (.slice B0 d.now.st.length e0) (.int .i64 d.now.step) (.slice B2 d.now.word.length e2) (.slice B3 d.past.length e3)) g7 (.slice C0 d.now.st.length k0) (.int .i64 d.now.step) (.slice C2 d.now.word.length k2) (.slice C3 d.past.length k3) := ⟨_, rfl⟩
  rw [← hW5]
  haveI bj : Bel wa wj := ⟨fbel⟩
  have b6 := block_far4 (block_set4 fb6 (.slice B0 d.now.st.length e0) (.int .i64 d.now.step) (.slice B2 d.now.word.length e2) (.slice B3 d.past.length e3)) fne (.slice C0 d.now.st.length k0) (.int .i64 d.now.step) (.slice C2 d.now.word.length k2) (.slice C3 d.past.length k3)
  have fb7' := block_far4 fb7 fne.symm (.slice B0 d.now.st.length e0) (.int .i64 d.now.step) (.slice B2 d.now.word.length e2) (.slice B3 d.past.length e3)
  have b7 := block_set4 fb7' (.slice C0 d.now.st.length k0) (.int .i64 d.now.step) (.slice C2 d.now.word.length k2) (.slice C3 d.past.length k3)
  have far : ∀ {k : Nat} {o : Obj}, k < wa.heap.size → wa.heap[k]? = some o → W5.heap[k]? = some o := fun {k o} hk ho => by
    rw [hW5]; exact block_far4 (block_far4 (block_at ho) (by omega) _ _ _ _) (by omega) _ _ _ _
  have BX := far (by omega) BXa
  have BD := far (by omega) BDa
  have BR := far (by omega) BRa
  have HD1 : Hid (DkO W5 wa.heap.size m f1 (.agg #[.slice B0 d.now.st.length e0, .int .i64 d.now.step, .slice B2 d.now.word.length e2, .slice B3 d.past.length e3]) d) := (by
    show DkO _ _ _ _ _ _
    rw [hW5]; exact DkO.set4 (DkO.set4 F1 fb6 (by decide) (by decide) _ _ _ _) fb7' (by decide) (by decide) _ _ _ _)
  have HD2 : Hid (DkO W5 m wj.heap.size f2 (.agg #[.slice C0 d.now.st.length k0, .int .i64 d.now.step, .slice C2 d.now.word.length k2, .slice C3 d.past.length k3]) d) := (by
    show DkO _ _ _ _ _ _
    rw [hW5]; exact DkO.set4 (DkO.set4 F2 fb6 (by decide) (by decide) _ _ _ _) fb7' (by decide) (by decide) _ _ _ _)
  haveI ba5 : Bel wa W5 := ⟨by rw [hW5]; exact below_set4 (below_set4 fbel fl6 _ _ _ _) fl7 _ _ _ _⟩
  haveI bw5 : Bel w W5 := Bel.step (w := w) ba5.out
  have HZJ : Hid (W5.heap.size = wj.heap.size) := by show _ = _; rw [hW5]; simp [size_set4]
  have HFM := Lib.hid fm; have HFN := Lib.hid fm0
  rw [← hW5] at b6 b7
  have HNE := Lib.hid fne; have HL6 := Lib.hid fl6; have HL7 := Lib.hid fl7
  clear hW5 far fb6 fb7 fb7' F1 F2 bj fbel fm fm0 BXa BDa BRa fne
  have HBX := Lib.hid BX; have HBD := Lib.hid BD; have HBR := Lib.hid BR; have HB6 := Lib.hid b6; have HB7 := Lib.hid b7
  clear BX BD BR b6 b7
  have d0 := block_cell HBD.out 0 rfl
  have d1 := block_cell HBD.out 1 rfl
  have d2 := block_cell HBD.out 2 rfl
  go_upto_region 6 with (fail)
  clear d0 d1 d2
  have hzw : wa.heap.size ≤ W5.heap.size := (Bel.out : Below wa.heap.size wa W5).size
  haveI : Bel w W5 := Bel.step (w := w) (Bel.out : Below wa.heap.size wa W5)
  have RR := block_at (W := W5) HBR.out
  have r0 := block_cell RR 0 rfl
  have r1 := block_cell RR 1 rfl
  have r2 := block_cell RR 2 rfl
  have r3 := block_cell RR 3 rfl
  have f0 := block_frozen RR 0
  have f1 := block_frozen RR 1
  have f2 := block_frozen RR 2
  have f3 := block_frozen RR 3
  have OO := block_at (W := W5) HB6.out
  have o0 := block_cell OO 0 rfl
  have o1 := block_cell OO 1 rfl
  have o2 := block_cell OO 2 rfl
  have o3 := block_cell OO 3 rfl
  have HF := Lib.hid ((((HD1.out.kept (w1 := W5) (fun k _ hk => (Bel.out : Below W5.heap.size W5 W5).block k (by have := HZJ.out; have := HFM.out; omega))).weak.set4 RR (by decide) (by decide) (.slice B0 d.now.st.length e0) (.int .i64 d.now.step) (.slice B2 d.now.word.length e2) (.slice B3 d.past.length e3)).lo (lo' := w.heap.size) (by omega)).hi (hi' := (set4 W5 (w.heap.size + 2) (.slice B0 d.now.st.length e0) (.int .i64 d.now.step) (.slice B2 d.now.word.length e2) (.slice B3 d.past.length e3)).heap.size) (by rw [size_set4]; have := HZJ.out; have := HFM.out; have := (Bel.out : Below W5.heap.size W5 W5).size; omega))
  have HB : Hid (Below w.heap.size w (set4 W5 (w.heap.size + 2) (.slice B0 d.now.st.length e0) (.int .i64 d.now.step) (.slice B2 d.now.word.length e2) (.slice B3 d.past.length e3))) := below_set4 Bel.out (by omega) _ _ _ _
  clear RR OO
  go_wp2
  exact bodyPost_ret (v := .tuple #[.agg #[.slice B0 d.now.st.length e0, .int .i64 d.now.step, .slice B2 d.now.word.length e2, .slice B3 d.past.length e3], .bool false]) (by simp [results, Tryd.results8, go_sem, r0, r1, r2, r3]) rfl ⟨_, by rw [HD.out.2], ⟨_, by rw [HD.out.1]; exact HF.out⟩, HB.out⟩

set_option maxHeartbeats 1000000 in
set_option maxRecDepth 100000 in
theorem i_do_a (d : Dk) (kd aa : Int) (w : World) (A0 A2 A3 : Option Addr) (c0 c2 c3 : Nat) (i0 : Ints w (.slice A0 d.now.st.length c0) d.now.st) (i2 : Ints w (.slice A2 d.now.word.length c2) d.now.word) (i3 : Pls w (.slice A3 d.past.length c3) d.past) (hok : deskOk d = true) (hk : 3 ≤ kd) (ha : aa ≠ 0) :
    Calls Tryd.prog 8 #[.agg #[.slice A0 d.now.st.length c0, .int .i64 d.now.step, .slice A2 d.now.word.length c2, .slice A3 d.past.length c3], .agg #[.int .i64 kd, .int .i64 aa, .int .i64 0]] w
      fun e w' => ∃ v', e = .returned (.tuple #[v', .bool (doOk d ⟨kd, aa, 0⟩)]) ∧ (∃ f, DkW w' w.heap.size w'.heap.size f v' (doDesk d ⟨kd, aa, 0⟩)) ∧ Below w.heap.size w w' := by
  have hn : (!deskOk d) = false := by simp [hok]
  obtain ⟨hs1, hs2, hs3, hs4⟩ := desk_small hok
  have HSM := Lib.hid hs4
  have HD := Lib.hid (do_not (a := ⟨kd, aa, 0⟩) hok (back_a ha) (by rw [made_none (by simp; omega) (by simp; omega) (by simp; omega) (fun e => ha e.2)]; exact took_z0 _))
  have k1 : (kd != 0) = true := by simp; omega
  have k2 : (aa != 0) = true := by simp [ha]
  clear hok hs4 ha
  go_enter Tryd.func8, Tryd.ntmps8
  go_wp2_with fail
  refine (i_DeskOk _ d _ (DkI.mk i0.at i2.at i3.at)).mono ?_
  rintro e wa ⟨rfl, hba⟩
  haveI ba : Bel w wa := Bel.step (w := w) hba
  have BXa : wa.heap[w.heap.size]? = some (.cells #[.slice A0 d.now.st.length c0, .int .i64 d.now.step, .slice A2 d.now.word.length c2, .slice A3 d.past.length c3] 28 (0, 0)) := (hba.block _ (by simp <;> omega)).trans ((heap_alloc_old _ _ (by simp <;> omega)).trans ((heap_alloc_old _ _ (by simp)).trans (heap_alloc_new w _)))
  have BDa : wa.heap[w.heap.size + 1]? = some (.cells #[.int .i64 kd, .int .i64 aa, .int .i64 0] 30 (0, 0)) := (hba.block _ (by simp <;> omega)).trans ((heap_alloc_old _ _ (by simp)).trans (by simpa using heap_alloc_new (w.alloc (.cells #[.slice A0 d.now.st.length c0, .int .i64 d.now.step, .slice A2 d.now.word.length c2, .slice A3 d.past.length c3] 28)) _))
  have BRa : wa.heap[w.heap.size + 2]? = some (.cells #[.slice none 0 0, .int .i64 0, .slice none 0 0, .slice none 0 0] 28 (0, 0)) := (hba.block _ (by simp)).trans (by simpa using heap_alloc_new ((w.alloc (.cells #[.slice A0 d.now.st.length c0, .int .i64 d.now.step, .slice A2 d.now.word.length c2, .slice A3 d.past.length c3] 28)).alloc (.cells #[.int .i64 kd, .int .i64 aa, .int .i64 0] 30)) _)
  have hza : w.heap.size + 2 < wa.heap.size := by have := hba.size; simp at this; omega
  clear hba
  go_upto_region 3 with (fail)
  refine copies d w wa A0 A2 A3 c0 c2 c3 i0 i2 i3 hs1 hs2 hs3 HSM ba BXa _ _ _ _ _ _ _ _ _ (fun _ _ d _ _ h => (by cases d <;> exact h)) ?_
  rintro t wj hF
  obtain ⟨B0, e0, B2, e2, B3, e3, C0, k0, C2, k2, C3, k3, g6, g7⟩ := t
  obtain ⟨fbel, fb6, fb7, fne, fl6, fl7, m, f1, f2, fm0, fm, F1, F2⟩ := hF
  simp only [Two.v1, Two.v2] at *
  obtain ⟨W5, hW5⟩ : ∃ W5, W5 = set4 (set4 wj g6 (.slice B0 d.now.st.length e0) (.int .i64 d.now.step) (.slice B2 d.now.word.length e2) (.slice B3 d.past.length e3)) g7 (.slice C0 d.now.st.length k0) (.int .i64 d.now.step) (.slice C2 d.now.word.length k2) (.slice C3 d.past.length k3) := ⟨_, rfl⟩
  rw [← hW5]
  haveI bj : Bel wa wj := ⟨fbel⟩
  have b6 := block_far4 (block_set4 fb6 (.slice B0 d.now.st.length e0) (.int .i64 d.now.step) (.slice B2 d.now.word.length e2) (.slice B3 d.past.length e3)) fne (.slice C0 d.now.st.length k0) (.int .i64 d.now.step) (.slice C2 d.now.word.length k2) (.slice C3 d.past.length k3)
  have fb7' := block_far4 fb7 fne.symm (.slice B0 d.now.st.length e0) (.int .i64 d.now.step) (.slice B2 d.now.word.length e2) (.slice B3 d.past.length e3)
  have b7 := block_set4 fb7' (.slice C0 d.now.st.length k0) (.int .i64 d.now.step) (.slice C2 d.now.word.length k2) (.slice C3 d.past.length k3)
  have far : ∀ {k : Nat} {o : Obj}, k < wa.heap.size → wa.heap[k]? = some o → W5.heap[k]? = some o := fun {k o} hk ho => by
    rw [hW5]; exact block_far4 (block_far4 (block_at ho) (by omega) _ _ _ _) (by omega) _ _ _ _
  have BX := far (by omega) BXa
  have BD := far (by omega) BDa
  have BR := far (by omega) BRa
  have HD1 : Hid (DkO W5 wa.heap.size m f1 (.agg #[.slice B0 d.now.st.length e0, .int .i64 d.now.step, .slice B2 d.now.word.length e2, .slice B3 d.past.length e3]) d) := (by
    show DkO _ _ _ _ _ _
    rw [hW5]; exact DkO.set4 (DkO.set4 F1 fb6 (by decide) (by decide) _ _ _ _) fb7' (by decide) (by decide) _ _ _ _)
  have HD2 : Hid (DkO W5 m wj.heap.size f2 (.agg #[.slice C0 d.now.st.length k0, .int .i64 d.now.step, .slice C2 d.now.word.length k2, .slice C3 d.past.length k3]) d) := (by
    show DkO _ _ _ _ _ _
    rw [hW5]; exact DkO.set4 (DkO.set4 F2 fb6 (by decide) (by decide) _ _ _ _) fb7' (by decide) (by decide) _ _ _ _)
  haveI ba5 : Bel wa W5 := ⟨by rw [hW5]; exact below_set4 (below_set4 fbel fl6 _ _ _ _) fl7 _ _ _ _⟩
  haveI bw5 : Bel w W5 := Bel.step (w := w) ba5.out
  have HZJ : Hid (W5.heap.size = wj.heap.size) := by show _ = _; rw [hW5]; simp [size_set4]
  have HFM := Lib.hid fm; have HFN := Lib.hid fm0
  rw [← hW5] at b6 b7
  have HNE := Lib.hid fne; have HL6 := Lib.hid fl6; have HL7 := Lib.hid fl7
  clear hW5 far fb6 fb7 fb7' F1 F2 bj fbel fm fm0 BXa BDa BRa fne
  have HBX := Lib.hid BX; have HBD := Lib.hid BD; have HBR := Lib.hid BR; have HB6 := Lib.hid b6; have HB7 := Lib.hid b7
  clear BX BD BR b6 b7
  have d0 := block_cell HBD.out 0 rfl
  have d1 := block_cell HBD.out 1 rfl
  have d2 := block_cell HBD.out 2 rfl
  go_upto_region 6 with (fail)
  clear d0 d1 d2
  have hzw : wa.heap.size ≤ W5.heap.size := (Bel.out : Below wa.heap.size wa W5).size
  haveI : Bel w W5 := Bel.step (w := w) (Bel.out : Below wa.heap.size wa W5)
  have RR := block_at (W := W5) HBR.out
  have r0 := block_cell RR 0 rfl
  have r1 := block_cell RR 1 rfl
  have r2 := block_cell RR 2 rfl
  have r3 := block_cell RR 3 rfl
  have f0 := block_frozen RR 0
  have f1 := block_frozen RR 1
  have f2 := block_frozen RR 2
  have f3 := block_frozen RR 3
  have OO := block_at (W := W5) HB6.out
  have o0 := block_cell OO 0 rfl
  have o1 := block_cell OO 1 rfl
  have o2 := block_cell OO 2 rfl
  have o3 := block_cell OO 3 rfl
  have HF := Lib.hid ((((HD1.out.kept (w1 := W5) (fun k _ hk => (Bel.out : Below W5.heap.size W5 W5).block k (by have := HZJ.out; have := HFM.out; omega))).weak.set4 RR (by decide) (by decide) (.slice B0 d.now.st.length e0) (.int .i64 d.now.step) (.slice B2 d.now.word.length e2) (.slice B3 d.past.length e3)).lo (lo' := w.heap.size) (by omega)).hi (hi' := (set4 W5 (w.heap.size + 2) (.slice B0 d.now.st.length e0) (.int .i64 d.now.step) (.slice B2 d.now.word.length e2) (.slice B3 d.past.length e3)).heap.size) (by rw [size_set4]; have := HZJ.out; have := HFM.out; have := (Bel.out : Below W5.heap.size W5 W5).size; omega))
  have HB : Hid (Below w.heap.size w (set4 W5 (w.heap.size + 2) (.slice B0 d.now.st.length e0) (.int .i64 d.now.step) (.slice B2 d.now.word.length e2) (.slice B3 d.past.length e3))) := below_set4 Bel.out (by omega) _ _ _ _
  clear RR OO
  go_wp2
  exact bodyPost_ret (v := .tuple #[.agg #[.slice B0 d.now.st.length e0, .int .i64 d.now.step, .slice B2 d.now.word.length e2, .slice B3 d.past.length e3], .bool false]) (by simp [results, Tryd.results8, go_sem, r0, r1, r2, r3]) rfl ⟨_, by rw [HD.out.2], ⟨_, by rw [HD.out.1]; exact HF.out⟩, HB.out⟩

set_option maxHeartbeats 1000000 in
set_option maxRecDepth 100000 in
theorem i_do_neg (d : Dk) (kd aa : Int) (w : World) (A0 A2 A3 : Option Addr) (c0 c2 c3 : Nat) (i0 : Ints w (.slice A0 d.now.st.length c0) d.now.st) (i2 : Ints w (.slice A2 d.now.word.length c2) d.now.word) (i3 : Pls w (.slice A3 d.past.length c3) d.past) (hok : deskOk d = true) (hk : kd < 0) :
    Calls Tryd.prog 8 #[.agg #[.slice A0 d.now.st.length c0, .int .i64 d.now.step, .slice A2 d.now.word.length c2, .slice A3 d.past.length c3], .agg #[.int .i64 kd, .int .i64 aa, .int .i64 0]] w
      fun e w' => ∃ v', e = .returned (.tuple #[v', .bool (doOk d ⟨kd, aa, 0⟩)]) ∧ (∃ f, DkW w' w.heap.size w'.heap.size f v' (doDesk d ⟨kd, aa, 0⟩)) ∧ Below w.heap.size w w' := by
  have hn : (!deskOk d) = false := by simp [hok]
  obtain ⟨hs1, hs2, hs3, hs4⟩ := desk_small hok
  have HSM := Lib.hid hs4
  have HD := Lib.hid (do_not (a := ⟨kd, aa, 0⟩) hok (back_kind (by simp; omega)) (by rw [made_none (by simp; omega) (by simp; omega) (by simp; omega) (by simp; omega)]; exact took_z0 _))
  have k1 : (kd != 0) = true := by simp; omega
  have z0 : (kd == 0) = false := by simp; omega
  have z1 : (kd == 1) = false := by simp; omega
  have z2 : (kd == 2) = false := by simp; omega
  have z3 : (kd == 3) = false := by simp; omega
  have z4 : (kd == 4) = false := by simp; omega
  clear hok hs4 
  go_enter Tryd.func8, Tryd.ntmps8
  go_wp2_with fail
  refine (i_DeskOk _ d _ (DkI.mk i0.at i2.at i3.at)).mono ?_
  rintro e wa ⟨rfl, hba⟩
  haveI ba : Bel w wa := Bel.step (w := w) hba
  have BXa : wa.heap[w.heap.size]? = some (.cells #[.slice A0 d.now.st.length c0, .int .i64 d.now.step, .slice A2 d.now.word.length c2, .slice A3 d.past.length c3] 28 (0, 0)) := (hba.block _ (by simp <;> omega)).trans ((heap_alloc_old _ _ (by simp <;> omega)).trans ((heap_alloc_old _ _ (by simp)).trans (heap_alloc_new w _)))
  have BDa : wa.heap[w.heap.size + 1]? = some (.cells #[.int .i64 kd, .int .i64 aa, .int .i64 0] 30 (0, 0)) := (hba.block _ (by simp <;> omega)).trans ((heap_alloc_old _ _ (by simp)).trans (by simpa using heap_alloc_new (w.alloc (.cells #[.slice A0 d.now.st.length c0, .int .i64 d.now.step, .slice A2 d.now.word.length c2, .slice A3 d.past.length c3] 28)) _))
  have BRa : wa.heap[w.heap.size + 2]? = some (.cells #[.slice none 0 0, .int .i64 0, .slice none 0 0, .slice none 0 0] 28 (0, 0)) := (hba.block _ (by simp)).trans (by simpa using heap_alloc_new ((w.alloc (.cells #[.slice A0 d.now.st.length c0, .int .i64 d.now.step, .slice A2 d.now.word.length c2, .slice A3 d.past.length c3] 28)).alloc (.cells #[.int .i64 kd, .int .i64 aa, .int .i64 0] 30)) _)
  have hza : w.heap.size + 2 < wa.heap.size := by have := hba.size; simp at this; omega
  clear hba
  go_upto_region 3 with (fail)
  refine copies d w wa A0 A2 A3 c0 c2 c3 i0 i2 i3 hs1 hs2 hs3 HSM ba BXa _ _ _ _ _ _ _ _ _ (fun _ _ d _ _ h => (by cases d <;> exact h)) ?_
  rintro t wj hF
  obtain ⟨B0, e0, B2, e2, B3, e3, C0, k0, C2, k2, C3, k3, g6, g7⟩ := t
  obtain ⟨fbel, fb6, fb7, fne, fl6, fl7, m, f1, f2, fm0, fm, F1, F2⟩ := hF
  simp only [Two.v1, Two.v2] at *
  obtain ⟨W5, hW5⟩ : ∃ W5, W5 = set4 (set4 wj g6 (.slice B0 d.now.st.length e0) (.int .i64 d.now.step) (.slice B2 d.now.word.length e2) (.slice B3 d.past.length e3)) g7 (.slice C0 d.now.st.length k0) (.int .i64 d.now.step) (.slice C2 d.now.word.length k2) (.slice C3 d.past.length k3) := ⟨_, rfl⟩
  rw [← hW5]
  haveI bj : Bel wa wj := ⟨fbel⟩
  have b6 := block_far4 (block_set4 fb6 (.slice B0 d.now.st.length e0) (.int .i64 d.now.step) (.slice B2 d.now.word.length e2) (.slice B3 d.past.length e3)) fne (.slice C0 d.now.st.length k0) (.int .i64 d.now.step) (.slice C2 d.now.word.length k2) (.slice C3 d.past.length k3)
  have fb7' := block_far4 fb7 fne.symm (.slice B0 d.now.st.length e0) (.int .i64 d.now.step) (.slice B2 d.now.word.length e2) (.slice B3 d.past.length e3)
  have b7 := block_set4 fb7' (.slice C0 d.now.st.length k0) (.int .i64 d.now.step) (.slice C2 d.now.word.length k2) (.slice C3 d.past.length k3)
  have far : ∀ {k : Nat} {o : Obj}, k < wa.heap.size → wa.heap[k]? = some o → W5.heap[k]? = some o := fun {k o} hk ho => by
    rw [hW5]; exact block_far4 (block_far4 (block_at ho) (by omega) _ _ _ _) (by omega) _ _ _ _
  have BX := far (by omega) BXa
  have BD := far (by omega) BDa
  have BR := far (by omega) BRa
  have HD1 : Hid (DkO W5 wa.heap.size m f1 (.agg #[.slice B0 d.now.st.length e0, .int .i64 d.now.step, .slice B2 d.now.word.length e2, .slice B3 d.past.length e3]) d) := (by
    show DkO _ _ _ _ _ _
    rw [hW5]; exact DkO.set4 (DkO.set4 F1 fb6 (by decide) (by decide) _ _ _ _) fb7' (by decide) (by decide) _ _ _ _)
  have HD2 : Hid (DkO W5 m wj.heap.size f2 (.agg #[.slice C0 d.now.st.length k0, .int .i64 d.now.step, .slice C2 d.now.word.length k2, .slice C3 d.past.length k3]) d) := (by
    show DkO _ _ _ _ _ _
    rw [hW5]; exact DkO.set4 (DkO.set4 F2 fb6 (by decide) (by decide) _ _ _ _) fb7' (by decide) (by decide) _ _ _ _)
  haveI ba5 : Bel wa W5 := ⟨by rw [hW5]; exact below_set4 (below_set4 fbel fl6 _ _ _ _) fl7 _ _ _ _⟩
  haveI bw5 : Bel w W5 := Bel.step (w := w) ba5.out
  have HZJ : Hid (W5.heap.size = wj.heap.size) := by show _ = _; rw [hW5]; simp [size_set4]
  have HFM := Lib.hid fm; have HFN := Lib.hid fm0
  rw [← hW5] at b6 b7
  have HNE := Lib.hid fne; have HL6 := Lib.hid fl6; have HL7 := Lib.hid fl7
  clear hW5 far fb6 fb7 fb7' F1 F2 bj fbel fm fm0 BXa BDa BRa fne
  have HBX := Lib.hid BX; have HBD := Lib.hid BD; have HBR := Lib.hid BR; have HB6 := Lib.hid b6; have HB7 := Lib.hid b7
  clear BX BD BR b6 b7
  have d0 := block_cell HBD.out 0 rfl
  have d1 := block_cell HBD.out 1 rfl
  have d2 := block_cell HBD.out 2 rfl
  go_upto_region 8 with (fail)
  clear d0 d1 d2
  have hzw : wa.heap.size ≤ W5.heap.size := (Bel.out : Below wa.heap.size wa W5).size
  haveI : Bel w W5 := Bel.step (w := w) (Bel.out : Below wa.heap.size wa W5)
  have RR := block_at (W := W5) HBR.out
  have r0 := block_cell RR 0 rfl
  have r1 := block_cell RR 1 rfl
  have r2 := block_cell RR 2 rfl
  have r3 := block_cell RR 3 rfl
  have f0 := block_frozen RR 0
  have f1 := block_frozen RR 1
  have f2 := block_frozen RR 2
  have f3 := block_frozen RR 3
  have OO := block_at (W := W5) HB6.out
  have o0 := block_cell OO 0 rfl
  have o1 := block_cell OO 1 rfl
  have o2 := block_cell OO 2 rfl
  have o3 := block_cell OO 3 rfl
  have HF := Lib.hid ((((HD1.out.kept (w1 := W5) (fun k _ hk => (Bel.out : Below W5.heap.size W5 W5).block k (by have := HZJ.out; have := HFM.out; omega))).weak.set4 RR (by decide) (by decide) (.slice B0 d.now.st.length e0) (.int .i64 d.now.step) (.slice B2 d.now.word.length e2) (.slice B3 d.past.length e3)).lo (lo' := w.heap.size) (by omega)).hi (hi' := (set4 W5 (w.heap.size + 2) (.slice B0 d.now.st.length e0) (.int .i64 d.now.step) (.slice B2 d.now.word.length e2) (.slice B3 d.past.length e3)).heap.size) (by rw [size_set4]; have := HZJ.out; have := HFM.out; have := (Bel.out : Below W5.heap.size W5 W5).size; omega))
  have HB : Hid (Below w.heap.size w (set4 W5 (w.heap.size + 2) (.slice B0 d.now.st.length e0) (.int .i64 d.now.step) (.slice B2 d.now.word.length e2) (.slice B3 d.past.length e3))) := below_set4 Bel.out (by omega) _ _ _ _
  clear RR OO
  go_wp2
  exact bodyPost_ret (v := .tuple #[.agg #[.slice B0 d.now.st.length e0, .int .i64 d.now.step, .slice B2 d.now.word.length e2, .slice B3 d.past.length e3], .bool false]) (by simp [results, Tryd.results8, go_sem, r0, r1, r2, r3]) rfl ⟨_, by rw [HD.out.2], ⟨_, by rw [HD.out.1]; exact HF.out⟩, HB.out⟩

set_option maxHeartbeats 1000000 in
set_option maxRecDepth 100000 in
theorem i_do_big (d : Dk) (kd : Int) (w : World) (A0 A2 A3 : Option Addr) (c0 c2 c3 : Nat) (i0 : Ints w (.slice A0 d.now.st.length c0) d.now.st) (i2 : Ints w (.slice A2 d.now.word.length c2) d.now.word) (i3 : Pls w (.slice A3 d.past.length c3) d.past) (hok : deskOk d = true) (hk : 4 < kd) :
    Calls Tryd.prog 8 #[.agg #[.slice A0 d.now.st.length c0, .int .i64 d.now.step, .slice A2 d.now.word.length c2, .slice A3 d.past.length c3], .agg #[.int .i64 kd, .int .i64 0, .int .i64 0]] w
      fun e w' => ∃ v', e = .returned (.tuple #[v', .bool (doOk d ⟨kd, 0, 0⟩)]) ∧ (∃ f, DkW w' w.heap.size w'.heap.size f v' (doDesk d ⟨kd, 0, 0⟩)) ∧ Below w.heap.size w w' := by
  have hn : (!deskOk d) = false := by simp [hok]
  obtain ⟨hs1, hs2, hs3, hs4⟩ := desk_small hok
  have HSM := Lib.hid hs4
  have HD := Lib.hid (do_not (a := ⟨kd, 0, 0⟩) hok (back_kind (by simp; omega)) (by rw [made_none (by simp; omega) (by simp; omega) (by simp; omega) (by simp; omega)]; exact took_z0 _))
  have k1 : (kd != 0) = true := by simp; omega
  have k3 : 3 ≤ kd := by omega
  have z0 : (kd == 0) = false := by simp; omega
  have z1 : (kd == 1) = false := by simp; omega
  have z2 : (kd == 2) = false := by simp; omega
  have z3 : (kd == 3) = false := by simp; omega
  have z4 : (kd == 4) = false := by simp; omega
  clear hok hs4 
  go_enter Tryd.func8, Tryd.ntmps8
  go_wp2_with fail
  refine (i_DeskOk _ d _ (DkI.mk i0.at i2.at i3.at)).mono ?_
  rintro e wa ⟨rfl, hba⟩
  haveI ba : Bel w wa := Bel.step (w := w) hba
  have BXa : wa.heap[w.heap.size]? = some (.cells #[.slice A0 d.now.st.length c0, .int .i64 d.now.step, .slice A2 d.now.word.length c2, .slice A3 d.past.length c3] 28 (0, 0)) := (hba.block _ (by simp <;> omega)).trans ((heap_alloc_old _ _ (by simp <;> omega)).trans ((heap_alloc_old _ _ (by simp)).trans (heap_alloc_new w _)))
  have BDa : wa.heap[w.heap.size + 1]? = some (.cells #[.int .i64 kd, .int .i64 0, .int .i64 0] 30 (0, 0)) := (hba.block _ (by simp <;> omega)).trans ((heap_alloc_old _ _ (by simp)).trans (by simpa using heap_alloc_new (w.alloc (.cells #[.slice A0 d.now.st.length c0, .int .i64 d.now.step, .slice A2 d.now.word.length c2, .slice A3 d.past.length c3] 28)) _))
  have BRa : wa.heap[w.heap.size + 2]? = some (.cells #[.slice none 0 0, .int .i64 0, .slice none 0 0, .slice none 0 0] 28 (0, 0)) := (hba.block _ (by simp)).trans (by simpa using heap_alloc_new ((w.alloc (.cells #[.slice A0 d.now.st.length c0, .int .i64 d.now.step, .slice A2 d.now.word.length c2, .slice A3 d.past.length c3] 28)).alloc (.cells #[.int .i64 kd, .int .i64 0, .int .i64 0] 30)) _)
  have hza : w.heap.size + 2 < wa.heap.size := by have := hba.size; simp at this; omega
  clear hba
  go_upto_region 3 with (fail)
  refine copies d w wa A0 A2 A3 c0 c2 c3 i0 i2 i3 hs1 hs2 hs3 HSM ba BXa _ _ _ _ _ _ _ _ _ (fun _ _ d _ _ h => (by cases d <;> exact h)) ?_
  rintro t wj hF
  obtain ⟨B0, e0, B2, e2, B3, e3, C0, k0, C2, k2, C3, k3, g6, g7⟩ := t
  obtain ⟨fbel, fb6, fb7, fne, fl6, fl7, m, f1, f2, fm0, fm, F1, F2⟩ := hF
  simp only [Two.v1, Two.v2] at *
  obtain ⟨W5, hW5⟩ : ∃ W5, W5 = set4 (set4 wj g6 (.slice B0 d.now.st.length e0) (.int .i64 d.now.step) (.slice B2 d.now.word.length e2) (.slice B3 d.past.length e3)) g7 (.slice C0 d.now.st.length k0) (.int .i64 d.now.step) (.slice C2 d.now.word.length k2) (.slice C3 d.past.length k3) := ⟨_, rfl⟩
  rw [← hW5]
  haveI bj : Bel wa wj := ⟨fbel⟩
  have b6 := block_far4 (block_set4 fb6 (.slice B0 d.now.st.length e0) (.int .i64 d.now.step) (.slice B2 d.now.word.length e2) (.slice B3 d.past.length e3)) fne (.slice C0 d.now.st.length k0) (.int .i64 d.now.step) (.slice C2 d.now.word.length k2) (.slice C3 d.past.length k3)
  have fb7' := block_far4 fb7 fne.symm (.slice B0 d.now.st.length e0) (.int .i64 d.now.step) (.slice B2 d.now.word.length e2) (.slice B3 d.past.length e3)
  have b7 := block_set4 fb7' (.slice C0 d.now.st.length k0) (.int .i64 d.now.step) (.slice C2 d.now.word.length k2) (.slice C3 d.past.length k3)
  have far : ∀ {k : Nat} {o : Obj}, k < wa.heap.size → wa.heap[k]? = some o → W5.heap[k]? = some o := fun {k o} hk ho => by
    rw [hW5]; exact block_far4 (block_far4 (block_at ho) (by omega) _ _ _ _) (by omega) _ _ _ _
  have BX := far (by omega) BXa
  have BD := far (by omega) BDa
  have BR := far (by omega) BRa
  have HD1 : Hid (DkO W5 wa.heap.size m f1 (.agg #[.slice B0 d.now.st.length e0, .int .i64 d.now.step, .slice B2 d.now.word.length e2, .slice B3 d.past.length e3]) d) := (by
    show DkO _ _ _ _ _ _
    rw [hW5]; exact DkO.set4 (DkO.set4 F1 fb6 (by decide) (by decide) _ _ _ _) fb7' (by decide) (by decide) _ _ _ _)
  have HD2 : Hid (DkO W5 m wj.heap.size f2 (.agg #[.slice C0 d.now.st.length k0, .int .i64 d.now.step, .slice C2 d.now.word.length k2, .slice C3 d.past.length k3]) d) := (by
    show DkO _ _ _ _ _ _
    rw [hW5]; exact DkO.set4 (DkO.set4 F2 fb6 (by decide) (by decide) _ _ _ _) fb7' (by decide) (by decide) _ _ _ _)
  haveI ba5 : Bel wa W5 := ⟨by rw [hW5]; exact below_set4 (below_set4 fbel fl6 _ _ _ _) fl7 _ _ _ _⟩
  haveI bw5 : Bel w W5 := Bel.step (w := w) ba5.out
  have HZJ : Hid (W5.heap.size = wj.heap.size) := by show _ = _; rw [hW5]; simp [size_set4]
  have HFM := Lib.hid fm; have HFN := Lib.hid fm0
  rw [← hW5] at b6 b7
  have HNE := Lib.hid fne; have HL6 := Lib.hid fl6; have HL7 := Lib.hid fl7
  clear hW5 far fb6 fb7 fb7' F1 F2 bj fbel fm fm0 BXa BDa BRa fne
  have HBX := Lib.hid BX; have HBD := Lib.hid BD; have HBR := Lib.hid BR; have HB6 := Lib.hid b6; have HB7 := Lib.hid b7
  clear BX BD BR b6 b7
  have d0 := block_cell HBD.out 0 rfl
  have d1 := block_cell HBD.out 1 rfl
  have d2 := block_cell HBD.out 2 rfl
  go_upto_region 8 with (fail)
  clear d0 d1 d2
  have hzw : wa.heap.size ≤ W5.heap.size := (Bel.out : Below wa.heap.size wa W5).size
  haveI : Bel w W5 := Bel.step (w := w) (Bel.out : Below wa.heap.size wa W5)
  have RR := block_at (W := W5) HBR.out
  have r0 := block_cell RR 0 rfl
  have r1 := block_cell RR 1 rfl
  have r2 := block_cell RR 2 rfl
  have r3 := block_cell RR 3 rfl
  have f0 := block_frozen RR 0
  have f1 := block_frozen RR 1
  have f2 := block_frozen RR 2
  have f3 := block_frozen RR 3
  have OO := block_at (W := W5) HB6.out
  have o0 := block_cell OO 0 rfl
  have o1 := block_cell OO 1 rfl
  have o2 := block_cell OO 2 rfl
  have o3 := block_cell OO 3 rfl
  have HF := Lib.hid ((((HD1.out.kept (w1 := W5) (fun k _ hk => (Bel.out : Below W5.heap.size W5 W5).block k (by have := HZJ.out; have := HFM.out; omega))).weak.set4 RR (by decide) (by decide) (.slice B0 d.now.st.length e0) (.int .i64 d.now.step) (.slice B2 d.now.word.length e2) (.slice B3 d.past.length e3)).lo (lo' := w.heap.size) (by omega)).hi (hi' := (set4 W5 (w.heap.size + 2) (.slice B0 d.now.st.length e0) (.int .i64 d.now.step) (.slice B2 d.now.word.length e2) (.slice B3 d.past.length e3)).heap.size) (by rw [size_set4]; have := HZJ.out; have := HFM.out; have := (Bel.out : Below W5.heap.size W5 W5).size; omega))
  have HB : Hid (Below w.heap.size w (set4 W5 (w.heap.size + 2) (.slice B0 d.now.st.length e0) (.int .i64 d.now.step) (.slice B2 d.now.word.length e2) (.slice B3 d.past.length e3))) := below_set4 Bel.out (by omega) _ _ _ _
  clear RR OO
  go_wp2
  exact bodyPost_ret (v := .tuple #[.agg #[.slice B0 d.now.st.length e0, .int .i64 d.now.step, .slice B2 d.now.word.length e2, .slice B3 d.past.length e3], .bool false]) (by simp [results, Tryd.results8, go_sem, r0, r1, r2, r3]) rfl ⟨_, by rw [HD.out.2], ⟨_, by rw [HD.out.1]; exact HF.out⟩, HB.out⟩

set_option maxHeartbeats 1000000 in
set_option maxRecDepth 100000 in
theorem i_step_word (d : Dk) (aa : Int) (w : World) (A0 A2 A3 : Option Addr) (c0 c2 c3 : Nat) (i0 : Ints w (.slice A0 d.now.st.length c0) d.now.st) (i2 : Ints w (.slice A2 d.now.word.length c2) d.now.word) (i3 : Pls w (.slice A3 d.past.length c3) d.past) (hok : deskOk d = true) (hp : 0 < d.now.word.length) :
    Calls Tryd.prog 8 #[.agg #[.slice A0 d.now.st.length c0, .int .i64 d.now.step, .slice A2 d.now.word.length c2, .slice A3 d.past.length c3], .agg #[.int .i64 1, .int .i64 aa, .int .i64 0]] w
      fun e w' => ∃ v', e = .returned (.tuple #[v', .bool (doOk d ⟨1, aa, 0⟩)]) ∧ (∃ f, DkW w' w.heap.size w'.heap.size f v' (doDesk d ⟨1, aa, 0⟩)) ∧ Below w.heap.size w w' := by
  have hn : (!deskOk d) = false := by simp [hok]
  obtain ⟨hs1, hs2, hs3, hs4⟩ := desk_small hok
  have HSM := Lib.hid hs4
  have HD := Lib.hid (do_not (a := ⟨1, aa, 0⟩) hok (back_kind (by simp)) (by rw [made_step0 rfl hp]; exact took_z0 _))
  clear hok hs4 
  go_enter Tryd.func8, Tryd.ntmps8
  go_wp2_with fail
  refine (i_DeskOk _ d _ (DkI.mk i0.at i2.at i3.at)).mono ?_
  rintro e wa ⟨rfl, hba⟩
  haveI ba : Bel w wa := Bel.step (w := w) hba
  have BXa : wa.heap[w.heap.size]? = some (.cells #[.slice A0 d.now.st.length c0, .int .i64 d.now.step, .slice A2 d.now.word.length c2, .slice A3 d.past.length c3] 28 (0, 0)) := (hba.block _ (by simp <;> omega)).trans ((heap_alloc_old _ _ (by simp <;> omega)).trans ((heap_alloc_old _ _ (by simp)).trans (heap_alloc_new w _)))
  have BDa : wa.heap[w.heap.size + 1]? = some (.cells #[.int .i64 1, .int .i64 aa, .int .i64 0] 30 (0, 0)) := (hba.block _ (by simp <;> omega)).trans ((heap_alloc_old _ _ (by simp)).trans (by simpa using heap_alloc_new (w.alloc (.cells #[.slice A0 d.now.st.length c0, .int .i64 d.now.step, .slice A2 d.now.word.length c2, .slice A3 d.past.length c3] 28)) _))
  have BRa : wa.heap[w.heap.size + 2]? = some (.cells #[.slice none 0 0, .int .i64 0, .slice none 0 0, .slice none 0 0] 28 (0, 0)) := (hba.block _ (by simp)).trans (by simpa using heap_alloc_new ((w.alloc (.cells #[.slice A0 d.now.st.length c0, .int .i64 d.now.step, .slice A2 d.now.word.length c2, .slice A3 d.past.length c3] 28)).alloc (.cells #[.int .i64 1, .int .i64 aa, .int .i64 0] 30)) _)
  have hza : w.heap.size + 2 < wa.heap.size := by have := hba.size; simp at this; omega
  clear hba
  go_upto_region 3 with (fail)
  refine copies d w wa A0 A2 A3 c0 c2 c3 i0 i2 i3 hs1 hs2 hs3 HSM ba BXa _ _ _ _ _ _ _ _ _ (fun _ _ d _ _ h => (by cases d <;> exact h)) ?_
  rintro t wj hF
  obtain ⟨B0, e0, B2, e2, B3, e3, C0, k0, C2, k2, C3, k3, g6, g7⟩ := t
  obtain ⟨fbel, fb6, fb7, fne, fl6, fl7, m, f1, f2, fm0, fm, F1, F2⟩ := hF
  simp only [Two.v1, Two.v2] at *
  obtain ⟨W5, hW5⟩ : ∃ W5, W5 = set4 (set4 wj g6 (.slice B0 d.now.st.length e0) (.int .i64 d.now.step) (.slice B2 d.now.word.length e2) (.slice B3 d.past.length e3)) g7 (.slice C0 d.now.st.length k0) (.int .i64 d.now.step) (.slice C2 d.now.word.length k2) (.slice C3 d.past.length k3) := ⟨_, rfl⟩
  rw [← hW5]
  haveI bj : Bel wa wj := ⟨fbel⟩
  have b6 := block_far4 (block_set4 fb6 (.slice B0 d.now.st.length e0) (.int .i64 d.now.step) (.slice B2 d.now.word.length e2) (.slice B3 d.past.length e3)) fne (.slice C0 d.now.st.length k0) (.int .i64 d.now.step) (.slice C2 d.now.word.length k2) (.slice C3 d.past.length k3)
  have fb7' := block_far4 fb7 fne.symm (.slice B0 d.now.st.length e0) (.int .i64 d.now.step) (.slice B2 d.now.word.length e2) (.slice B3 d.past.length e3)
  have b7 := block_set4 fb7' (.slice C0 d.now.st.length k0) (.int .i64 d.now.step) (.slice C2 d.now.word.length k2) (.slice C3 d.past.length k3)
  have far : ∀ {k : Nat} {o : Obj}, k < wa.heap.size → wa.heap[k]? = some o → W5.heap[k]? = some o := fun {k o} hk ho => by
    rw [hW5]; exact block_far4 (block_far4 (block_at ho) (by omega) _ _ _ _) (by omega) _ _ _ _
  have BX := far (by omega) BXa
  have BD := far (by omega) BDa
  have BR := far (by omega) BRa
  have HD1 : Hid (DkO W5 wa.heap.size m f1 (.agg #[.slice B0 d.now.st.length e0, .int .i64 d.now.step, .slice B2 d.now.word.length e2, .slice B3 d.past.length e3]) d) := (by
    show DkO _ _ _ _ _ _
    rw [hW5]; exact DkO.set4 (DkO.set4 F1 fb6 (by decide) (by decide) _ _ _ _) fb7' (by decide) (by decide) _ _ _ _)
  have HD2 : Hid (DkO W5 m wj.heap.size f2 (.agg #[.slice C0 d.now.st.length k0, .int .i64 d.now.step, .slice C2 d.now.word.length k2, .slice C3 d.past.length k3]) d) := (by
    show DkO _ _ _ _ _ _
    rw [hW5]; exact DkO.set4 (DkO.set4 F2 fb6 (by decide) (by decide) _ _ _ _) fb7' (by decide) (by decide) _ _ _ _)
  haveI ba5 : Bel wa W5 := ⟨by rw [hW5]; exact below_set4 (below_set4 fbel fl6 _ _ _ _) fl7 _ _ _ _⟩
  haveI bw5 : Bel w W5 := Bel.step (w := w) ba5.out
  have HZJ : Hid (W5.heap.size = wj.heap.size) := by show _ = _; rw [hW5]; simp [size_set4]
  have HFM := Lib.hid fm; have HFN := Lib.hid fm0
  rw [← hW5] at b6 b7
  have HNE := Lib.hid fne; have HL6 := Lib.hid fl6; have HL7 := Lib.hid fl7
  clear hW5 far fb6 fb7 fb7' F1 F2 bj fbel fm fm0 BXa BDa BRa fne
  have HBX := Lib.hid BX; have HBD := Lib.hid BD; have HBR := Lib.hid BR; have HB6 := Lib.hid b6; have HB7 := Lib.hid b7
  clear BX BD BR b6 b7
  have n0 := block_cell HB7.out 0 rfl
  have n1 := block_cell HB7.out 1 rfl
  have n2 := block_cell HB7.out 2 rfl
  have n3 := block_cell HB7.out 3 rfl
  have d0 := block_cell HBD.out 0 rfl
  have d1 := block_cell HBD.out 1 rfl
  have d2 := block_cell HBD.out 2 rfl
  go_upto_region 16 with (fail)
  clear d0 d1 d2 n0 n1 n2 n3
  have hzw : wa.heap.size ≤ W5.heap.size := (Bel.out : Below wa.heap.size wa W5).size
  haveI : Bel w W5 := Bel.step (w := w) (Bel.out : Below wa.heap.size wa W5)
  have RR := block_at (W := W5) HBR.out
  have r0 := block_cell RR 0 rfl
  have r1 := block_cell RR 1 rfl
  have r2 := block_cell RR 2 rfl
  have r3 := block_cell RR 3 rfl
  have f0 := block_frozen RR 0
  have f1 := block_frozen RR 1
  have f2 := block_frozen RR 2
  have f3 := block_frozen RR 3
  have OO := block_at (W := W5) HB6.out
  have o0 := block_cell OO 0 rfl
  have o1 := block_cell OO 1 rfl
  have o2 := block_cell OO 2 rfl
  have o3 := block_cell OO 3 rfl
  have HF := Lib.hid ((((HD1.out.kept (w1 := W5) (fun k _ hk => (Bel.out : Below W5.heap.size W5 W5).block k (by have := HZJ.out; have := HFM.out; omega))).weak.set4 RR (by decide) (by decide) (.slice B0 d.now.st.length e0) (.int .i64 d.now.step) (.slice B2 d.now.word.length e2) (.slice B3 d.past.length e3)).lo (lo' := w.heap.size) (by omega)).hi (hi' := (set4 W5 (w.heap.size + 2) (.slice B0 d.now.st.length e0) (.int .i64 d.now.step) (.slice B2 d.now.word.length e2) (.slice B3 d.past.length e3)).heap.size) (by rw [size_set4]; have := HZJ.out; have := HFM.out; have := (Bel.out : Below W5.heap.size W5 W5).size; omega))
  have HB : Hid (Below w.heap.size w (set4 W5 (w.heap.size + 2) (.slice B0 d.now.st.length e0) (.int .i64 d.now.step) (.slice B2 d.now.word.length e2) (.slice B3 d.past.length e3))) := below_set4 Bel.out (by omega) _ _ _ _
  clear RR OO
  go_wp2
  exact bodyPost_ret (v := .tuple #[.agg #[.slice B0 d.now.st.length e0, .int .i64 d.now.step, .slice B2 d.now.word.length e2, .slice B3 d.past.length e3], .bool false]) (by simp [results, Tryd.results8, go_sem, r0, r1, r2, r3]) rfl ⟨_, by rw [HD.out.2], ⟨_, by rw [HD.out.1]; exact HF.out⟩, HB.out⟩

set_option maxHeartbeats 1000000 in
set_option maxRecDepth 100000 in
theorem i_back_none (d : Dk)  (w : World) (A0 A2 A3 : Option Addr) (c0 c2 c3 : Nat) (i0 : Ints w (.slice A0 d.now.st.length c0) d.now.st) (i2 : Ints w (.slice A2 d.now.word.length c2) d.now.word) (i3 : Pls w (.slice A3 d.past.length c3) d.past) (hok : deskOk d = true) (hp : ¬ 0 < d.past.length) :
    Calls Tryd.prog 8 #[.agg #[.slice A0 d.now.st.length c0, .int .i64 d.now.step, .slice A2 d.now.word.length c2, .slice A3 d.past.length c3], .agg #[.int .i64 4, .int .i64 0, .int .i64 0]] w
      fun e w' => ∃ v', e = .returned (.tuple #[v', .bool (doOk d ⟨4, 0, 0⟩)]) ∧ (∃ f, DkW w' w.heap.size w'.heap.size f v' (doDesk d ⟨4, 0, 0⟩)) ∧ Below w.heap.size w w' := by
  have hn : (!deskOk d) = false := by simp [hok]
  obtain ⟨hs1, hs2, hs3, hs4⟩ := desk_small hok
  have HSM := Lib.hid hs4
  have HD := Lib.hid (do_not (a := ⟨4, 0, 0⟩) hok (back_none (by omega)) (by rw [made_none (by simp) (by simp) (by simp) (by simp)]; exact took_z0 _))
  have hsub : (d.past.length : Int) - 1 < 0 := by omega
  clear hok hs4 
  go_enter Tryd.func8, Tryd.ntmps8
  go_wp2_with fail
  refine (i_DeskOk _ d _ (DkI.mk i0.at i2.at i3.at)).mono ?_
  rintro e wa ⟨rfl, hba⟩
  haveI ba : Bel w wa := Bel.step (w := w) hba
  have BXa : wa.heap[w.heap.size]? = some (.cells #[.slice A0 d.now.st.length c0, .int .i64 d.now.step, .slice A2 d.now.word.length c2, .slice A3 d.past.length c3] 28 (0, 0)) := (hba.block _ (by simp <;> omega)).trans ((heap_alloc_old _ _ (by simp <;> omega)).trans ((heap_alloc_old _ _ (by simp)).trans (heap_alloc_new w _)))
  have BDa : wa.heap[w.heap.size + 1]? = some (.cells #[.int .i64 4, .int .i64 0, .int .i64 0] 30 (0, 0)) := (hba.block _ (by simp <;> omega)).trans ((heap_alloc_old _ _ (by simp)).trans (by simpa using heap_alloc_new (w.alloc (.cells #[.slice A0 d.now.st.length c0, .int .i64 d.now.step, .slice A2 d.now.word.length c2, .slice A3 d.past.length c3] 28)) _))
  have BRa : wa.heap[w.heap.size + 2]? = some (.cells #[.slice none 0 0, .int .i64 0, .slice none 0 0, .slice none 0 0] 28 (0, 0)) := (hba.block _ (by simp)).trans (by simpa using heap_alloc_new ((w.alloc (.cells #[.slice A0 d.now.st.length c0, .int .i64 d.now.step, .slice A2 d.now.word.length c2, .slice A3 d.past.length c3] 28)).alloc (.cells #[.int .i64 4, .int .i64 0, .int .i64 0] 30)) _)
  have hza : w.heap.size + 2 < wa.heap.size := by have := hba.size; simp at this; omega
  clear hba
  go_upto_region 3 with (fail)
  refine copies d w wa A0 A2 A3 c0 c2 c3 i0 i2 i3 hs1 hs2 hs3 HSM ba BXa _ _ _ _ _ _ _ _ _ (fun _ _ d _ _ h => (by cases d <;> exact h)) ?_
  rintro t wj hF
  obtain ⟨B0, e0, B2, e2, B3, e3, C0, k0, C2, k2, C3, k3, g6, g7⟩ := t
  obtain ⟨fbel, fb6, fb7, fne, fl6, fl7, m, f1, f2, fm0, fm, F1, F2⟩ := hF
  simp only [Two.v1, Two.v2] at *
  obtain ⟨W5, hW5⟩ : ∃ W5, W5 = set4 (set4 wj g6 (.slice B0 d.now.st.length e0) (.int .i64 d.now.step) (.slice B2 d.now.word.length e2) (.slice B3 d.past.length e3)) g7 (.slice C0 d.now.st.length k0) (.int .i64 d.now.step) (.slice C2 d.now.word.length k2) (.slice C3 d.past.length k3) := ⟨_, rfl⟩
  rw [← hW5]
  haveI bj : Bel wa wj := ⟨fbel⟩
  have b6 := block_far4 (block_set4 fb6 (.slice B0 d.now.st.length e0) (.int .i64 d.now.step) (.slice B2 d.now.word.length e2) (.slice B3 d.past.length e3)) fne (.slice C0 d.now.st.length k0) (.int .i64 d.now.step) (.slice C2 d.now.word.length k2) (.slice C3 d.past.length k3)
  have fb7' := block_far4 fb7 fne.symm (.slice B0 d.now.st.length e0) (.int .i64 d.now.step) (.slice B2 d.now.word.length e2) (.slice B3 d.past.length e3)
  have b7 := block_set4 fb7' (.slice C0 d.now.st.length k0) (.int .i64 d.now.step) (.slice C2 d.now.word.length k2) (.slice C3 d.past.length k3)
  have far : ∀ {k : Nat} {o : Obj}, k < wa.heap.size → wa.heap[k]? = some o → W5.heap[k]? = some o := fun {k o} hk ho => by
    rw [hW5]; exact block_far4 (block_far4 (block_at ho) (by omega) _ _ _ _) (by omega) _ _ _ _
  have BX := far (by omega) BXa
  have BD := far (by omega) BDa
  have BR := far (by omega) BRa
  have HD1 : Hid (DkO W5 wa.heap.size m f1 (.agg #[.slice B0 d.now.st.length e0, .int .i64 d.now.step, .slice B2 d.now.word.length e2, .slice B3 d.past.length e3]) d) := (by
    show DkO _ _ _ _ _ _
    rw [hW5]; exact DkO.set4 (DkO.set4 F1 fb6 (by decide) (by decide) _ _ _ _) fb7' (by decide) (by decide) _ _ _ _)
  have HD2 : Hid (DkO W5 m wj.heap.size f2 (.agg #[.slice C0 d.now.st.length k0, .int .i64 d.now.step, .slice C2 d.now.word.length k2, .slice C3 d.past.length k3]) d) := (by
    show DkO _ _ _ _ _ _
    rw [hW5]; exact DkO.set4 (DkO.set4 F2 fb6 (by decide) (by decide) _ _ _ _) fb7' (by decide) (by decide) _ _ _ _)
  haveI ba5 : Bel wa W5 := ⟨by rw [hW5]; exact below_set4 (below_set4 fbel fl6 _ _ _ _) fl7 _ _ _ _⟩
  haveI bw5 : Bel w W5 := Bel.step (w := w) ba5.out
  have HZJ : Hid (W5.heap.size = wj.heap.size) := by show _ = _; rw [hW5]; simp [size_set4]
  have HFM := Lib.hid fm; have HFN := Lib.hid fm0
  rw [← hW5] at b6 b7
  have HNE := Lib.hid fne; have HL6 := Lib.hid fl6; have HL7 := Lib.hid fl7
  clear hW5 far fb6 fb7 fb7' F1 F2 bj fbel fm fm0 BXa BDa BRa fne
  have HBX := Lib.hid BX; have HBD := Lib.hid BD; have HBR := Lib.hid BR; have HB6 := Lib.hid b6; have HB7 := Lib.hid b7
  clear BX BD BR b6 b7
  have n0 := block_cell HB7.out 0 rfl
  have n1 := block_cell HB7.out 1 rfl
  have n2 := block_cell HB7.out 2 rfl
  have n3 := block_cell HB7.out 3 rfl
  have d0 := block_cell HBD.out 0 rfl
  have d1 := block_cell HBD.out 1 rfl
  have d2 := block_cell HBD.out 2 rfl
  go_upto_region 25 with (fail)
  clear d0 d1 d2 n0 n1 n2 n3
  have hzw : wa.heap.size ≤ W5.heap.size := (Bel.out : Below wa.heap.size wa W5).size
  haveI : Bel w W5 := Bel.step (w := w) (Bel.out : Below wa.heap.size wa W5)
  have RR := block_at (W := W5) HBR.out
  have r0 := block_cell RR 0 rfl
  have r1 := block_cell RR 1 rfl
  have r2 := block_cell RR 2 rfl
  have r3 := block_cell RR 3 rfl
  have f0 := block_frozen RR 0
  have f1 := block_frozen RR 1
  have f2 := block_frozen RR 2
  have f3 := block_frozen RR 3
  have OO := block_at (W := W5) HB6.out
  have o0 := block_cell OO 0 rfl
  have o1 := block_cell OO 1 rfl
  have o2 := block_cell OO 2 rfl
  have o3 := block_cell OO 3 rfl
  have HF := Lib.hid ((((HD1.out.kept (w1 := W5) (fun k _ hk => (Bel.out : Below W5.heap.size W5 W5).block k (by have := HZJ.out; have := HFM.out; omega))).weak.set4 RR (by decide) (by decide) (.slice B0 d.now.st.length e0) (.int .i64 d.now.step) (.slice B2 d.now.word.length e2) (.slice B3 d.past.length e3)).lo (lo' := w.heap.size) (by omega)).hi (hi' := (set4 W5 (w.heap.size + 2) (.slice B0 d.now.st.length e0) (.int .i64 d.now.step) (.slice B2 d.now.word.length e2) (.slice B3 d.past.length e3)).heap.size) (by rw [size_set4]; have := HZJ.out; have := HFM.out; have := (Bel.out : Below W5.heap.size W5 W5).size; omega))
  have HB : Hid (Below w.heap.size w (set4 W5 (w.heap.size + 2) (.slice B0 d.now.st.length e0) (.int .i64 d.now.step) (.slice B2 d.now.word.length e2) (.slice B3 d.past.length e3))) := below_set4 Bel.out (by omega) _ _ _ _
  clear RR OO
  go_wp2
  exact bodyPost_ret (v := .tuple #[.agg #[.slice B0 d.now.st.length e0, .int .i64 d.now.step, .slice B2 d.now.word.length e2, .slice B3 d.past.length e3], .bool false]) (by simp [results, Tryd.results8, go_sem, r0, r1, r2, r3]) rfl ⟨_, by rw [HD.out.2], ⟨_, by rw [HD.out.1]; exact HF.out⟩, HB.out⟩

theorem PutIn_is {u : List Int} {c m : Int} {b : Bool} (h : putFine u c m = b) (v0 : Value) (w : World) (h0 : Ints w v0 u) :
    Calls Tryd.prog 35 #[v0, .int .i64 c, .int .i64 m] w fun e w' => ∃ v, e = .returned (.tuple #[v, .bool b]) ∧ OwnI w' w.heap.size v (putList u c m) ∧ Below w.heap.size w w' := by
  have := i_PutIn v0 u c m w h0
  rw [h] at this; exact this

set_option maxHeartbeats 1000000 in
set_option maxRecDepth 100000 in
theorem i_put_no (d : Dk) (aa bb : Int) (w : World) (A0 A2 A3 : Option Addr) (c0 c2 c3 : Nat) (i0 : Ints w (.slice A0 d.now.st.length c0) d.now.st) (i2 : Ints w (.slice A2 d.now.word.length c2) d.now.word) (i3 : Pls w (.slice A3 d.past.length c3) d.past) (hok : deskOk d = true) (hp : putFine d.now.st aa bb = false) :
    Calls Tryd.prog 8 #[.agg #[.slice A0 d.now.st.length c0, .int .i64 d.now.step, .slice A2 d.now.word.length c2, .slice A3 d.past.length c3], .agg #[.int .i64 0, .int .i64 aa, .int .i64 bb]] w
      fun e w' => ∃ v', e = .returned (.tuple #[v', .bool (doOk d ⟨0, aa, bb⟩)]) ∧ (∃ f, DkW w' w.heap.size w'.heap.size f v' (doDesk d ⟨0, aa, bb⟩)) ∧ Below w.heap.size w w' := by
  have hn : (!deskOk d) = false := by simp [hok]
  obtain ⟨hs1, hs2, hs3, hs4⟩ := desk_small hok
  have HSM := Lib.hid hs4
  have HD := Lib.hid (do_not (a := ⟨0, aa, bb⟩) hok (back_kind (by simp)) (put_no hp))
  have HPI := Lib.hid (PutIn_is hp)
  clear hok hs4 hp
  go_enter Tryd.func8, Tryd.ntmps8
  go_wp2_with fail
  refine (i_DeskOk _ d _ (DkI.mk i0.at i2.at i3.at)).mono ?_
  rintro e wa ⟨rfl, hba⟩
  haveI ba : Bel w wa := Bel.step (w := w) hba
  have BXa : wa.heap[w.heap.size]? = some (.cells #[.slice A0 d.now.st.length c0, .int .i64 d.now.step, .slice A2 d.now.word.length c2, .slice A3 d.past.length c3] 28 (0, 0)) := (hba.block _ (by simp <;> omega)).trans ((heap_alloc_old _ _ (by simp <;> omega)).trans ((heap_alloc_old _ _ (by simp)).trans (heap_alloc_new w _)))
  have BDa : wa.heap[w.heap.size + 1]? = some (.cells #[.int .i64 0, .int .i64 aa, .int .i64 bb] 30 (0, 0)) := (hba.block _ (by simp <;> omega)).trans ((heap_alloc_old _ _ (by simp)).trans (by simpa using heap_alloc_new (w.alloc (.cells #[.slice A0 d.now.st.length c0, .int .i64 d.now.step, .slice A2 d.now.word.length c2, .slice A3 d.past.length c3] 28)) _))
  have BRa : wa.heap[w.heap.size + 2]? = some (.cells #[.slice none 0 0, .int .i64 0, .slice none 0 0, .slice none 0 0] 28 (0, 0)) := (hba.block _ (by simp)).trans (by simpa using heap_alloc_new ((w.alloc (.cells #[.slice A0 d.now.st.length c0, .int .i64 d.now.step, .slice A2 d.now.word.length c2, .slice A3 d.past.length c3] 28)).alloc (.cells #[.int .i64 0, .int .i64 aa, .int .i64 bb] 30)) _)
  have hza : w.heap.size + 2 < wa.heap.size := by have := hba.size; simp at this; omega
  clear hba
  go_upto_region 3 with (fail)
  refine copies d w wa A0 A2 A3 c0 c2 c3 i0 i2 i3 hs1 hs2 hs3 HSM ba BXa _ _ _ _ _ _ _ _ _ (fun _ _ d _ _ h => (by cases d <;> exact h)) ?_
  rintro t wj hF
  obtain ⟨B0, e0, B2, e2, B3, e3, C0, k0, C2, k2, C3, k3, g6, g7⟩ := t
  obtain ⟨fbel, fb6, fb7, fne, fl6, fl7, m, f1, f2, fm0, fm, F1, F2⟩ := hF
  simp only [Two.v1, Two.v2] at *
  obtain ⟨W5, hW5⟩ : ∃ W5, W5 = set4 (set4 wj g6 (.slice B0 d.now.st.length e0) (.int .i64 d.now.step) (.slice B2 d.now.word.length e2) (.slice B3 d.past.length e3)) g7 (.slice C0 d.now.st.length k0) (.int .i64 d.now.step) (.slice C2 d.now.word.length k2) (.slice C3 d.past.length k3) := ⟨_, rfl⟩
  rw [← hW5]
  haveI bj : Bel wa wj := ⟨fbel⟩
  have b6 := block_far4 (block_set4 fb6 (.slice B0 d.now.st.length e0) (.int .i64 d.now.step) (.slice B2 d.now.word.length e2) (.slice B3 d.past.length e3)) fne (.slice C0 d.now.st.length k0) (.int .i64 d.now.step) (.slice C2 d.now.word.length k2) (.slice C3 d.past.length k3)
  have fb7' := block_far4 fb7 fne.symm (.slice B0 d.now.st.length e0) (.int .i64 d.now.step) (.slice B2 d.now.word.length e2) (.slice B3 d.past.length e3)
  have b7 := block_set4 fb7' (.slice C0 d.now.st.length k0) (.int .i64 d.now.step) (.slice C2 d.now.word.length k2) (.slice C3 d.past.length k3)
  have far : ∀ {k : Nat} {o : Obj}, k < wa.heap.size → wa.heap[k]? = some o → W5.heap[k]? = some o := fun {k o} hk ho => by
    rw [hW5]; exact block_far4 (block_far4 (block_at ho) (by omega) _ _ _ _) (by omega) _ _ _ _
  have BX := far (by omega) BXa
  have BD := far (by omega) BDa
  have BR := far (by omega) BRa
  have HD1 : Hid (DkO W5 wa.heap.size m f1 (.agg #[.slice B0 d.now.st.length e0, .int .i64 d.now.step, .slice B2 d.now.word.length e2, .slice B3 d.past.length e3]) d) := (by
    show DkO _ _ _ _ _ _
    rw [hW5]; exact DkO.set4 (DkO.set4 F1 fb6 (by decide) (by decide) _ _ _ _) fb7' (by decide) (by decide) _ _ _ _)
  have HD2 : Hid (DkO W5 m wj.heap.size f2 (.agg #[.slice C0 d.now.st.length k0, .int .i64 d.now.step, .slice C2 d.now.word.length k2, .slice C3 d.past.length k3]) d) := (by
    show DkO _ _ _ _ _ _
    rw [hW5]; exact DkO.set4 (DkO.set4 F2 fb6 (by decide) (by decide) _ _ _ _) fb7' (by decide) (by decide) _ _ _ _)
  haveI ba5 : Bel wa W5 := ⟨by rw [hW5]; exact below_set4 (below_set4 fbel fl6 _ _ _ _) fl7 _ _ _ _⟩
  haveI bw5 : Bel w W5 := Bel.step (w := w) ba5.out
  have HZJ : Hid (W5.heap.size = wj.heap.size) := by show _ = _; rw [hW5]; simp [size_set4]
  have HFM := Lib.hid fm; have HFN := Lib.hid fm0
  rw [← hW5] at b6 b7
  have HNE := Lib.hid fne; have HL6 := Lib.hid fl6; have HL7 := Lib.hid fl7
  clear hW5 far fb6 fb7 fb7' F1 F2 bj fbel fm fm0 BXa BDa BRa fne
  have HBX := Lib.hid BX; have HBD := Lib.hid BD; have HBR := Lib.hid BR; have HB6 := Lib.hid b6; have HB7 := Lib.hid b7
  clear BX BD BR b6 b7
  have n0 := block_cell HB7.out 0 rfl
  have n1 := block_cell HB7.out 1 rfl
  have n2 := block_cell HB7.out 2 rfl
  have n3 := block_cell HB7.out 3 rfl
  have d0 := block_cell HBD.out 0 rfl
  have d1 := block_cell HBD.out 1 rfl
  have d2 := block_cell HBD.out 2 rfl
  go_upto_region 10 with (fail)
  go_region_held3 (fun w' => w'.cell? ⟨g7, 0, none⟩ = some (.slice C0 d.now.st.length k0) ∧ w'.cell? ⟨w.heap.size + 1, 1, none⟩ = some (.int .i64 aa) ∧ w'.cell? ⟨w.heap.size + 1, 2, none⟩ = some (.int .i64 bb))
    (exact ⟨cell_at n0, cell_at d1, cell_at d2⟩)
    ((go_at_call 35; refine (HPI.out _ _ (OwnI.ints HD2.out.parts.1.1).at).mono ?_; rintro e w8 ⟨vu, rfl, hU, hb8⟩; obtain ⟨U0, u0, rfl⟩ := hU.ints.form; haveI b58 : Bel W5 w8 := Bel.step (w := W5) hb8))
  have hU' := Lib.hid hU
  clear hU n0 n1 n2 n3
  have n2 := block_cell (block_at (W := w8) HB7.out) 2 rfl
  haveI ba8 : Bel wa w8 := Bel.step (w := wa) b58.out
  go_upto_region 12 with (fail)
  clear n2 d0 d1 d2
  have hzw : wa.heap.size ≤ w8.heap.size := (Bel.out : Below wa.heap.size wa w8).size
  haveI : Bel w w8 := Bel.step (w := w) (Bel.out : Below wa.heap.size wa w8)
  have RR := block_at (W := w8) HBR.out
  have r0 := block_cell RR 0 rfl
  have r1 := block_cell RR 1 rfl
  have r2 := block_cell RR 2 rfl
  have r3 := block_cell RR 3 rfl
  have f0 := block_frozen RR 0
  have f1 := block_frozen RR 1
  have f2 := block_frozen RR 2
  have f3 := block_frozen RR 3
  have OO := block_at (W := w8) HB6.out
  have o0 := block_cell OO 0 rfl
  have o1 := block_cell OO 1 rfl
  have o2 := block_cell OO 2 rfl
  have o3 := block_cell OO 3 rfl
  have HF := Lib.hid ((((HD1.out.kept (w1 := w8) (fun k _ hk => (Bel.out : Below W5.heap.size W5 w8).block k (by have := HZJ.out; have := HFM.out; omega))).weak.set4 RR (by decide) (by decide) (.slice B0 d.now.st.length e0) (.int .i64 d.now.step) (.slice B2 d.now.word.length e2) (.slice B3 d.past.length e3)).lo (lo' := w.heap.size) (by omega)).hi (hi' := (set4 w8 (w.heap.size + 2) (.slice B0 d.now.st.length e0) (.int .i64 d.now.step) (.slice B2 d.now.word.length e2) (.slice B3 d.past.length e3)).heap.size) (by rw [size_set4]; have := HZJ.out; have := HFM.out; have := (Bel.out : Below W5.heap.size W5 w8).size; omega))
  have HB : Hid (Below w.heap.size w (set4 w8 (w.heap.size + 2) (.slice B0 d.now.st.length e0) (.int .i64 d.now.step) (.slice B2 d.now.word.length e2) (.slice B3 d.past.length e3))) := below_set4 Bel.out (by omega) _ _ _ _
  clear RR OO
  go_wp2
  exact bodyPost_ret (v := .tuple #[.agg #[.slice B0 d.now.st.length e0, .int .i64 d.now.step, .slice B2 d.now.word.length e2, .slice B3 d.past.length e3], .bool false]) (by simp [results, Tryd.results8, go_sem, r0, r1, r2, r3]) rfl ⟨_, by rw [HD.out.2], ⟨_, by rw [HD.out.1]; exact HF.out⟩, HB.out⟩

set_option maxHeartbeats 1000000 in
set_option maxRecDepth 100000 in
theorem i_put_word (d : Dk) (aa bb : Int) (w : World) (A0 A2 A3 : Option Addr) (c0 c2 c3 : Nat) (i0 : Ints w (.slice A0 d.now.st.length c0) d.now.st) (i2 : Ints w (.slice A2 d.now.word.length c2) d.now.word) (i3 : Pls w (.slice A3 d.past.length c3) d.past) (hok : deskOk d = true) (hp : putFine d.now.st aa bb = true) (hw : 0 < d.now.word.length) :
    Calls Tryd.prog 8 #[.agg #[.slice A0 d.now.st.length c0, .int .i64 d.now.step, .slice A2 d.now.word.length c2, .slice A3 d.past.length c3], .agg #[.int .i64 0, .int .i64 aa, .int .i64 bb]] w
      fun e w' => ∃ v', e = .returned (.tuple #[v', .bool (doOk d ⟨0, aa, bb⟩)]) ∧ (∃ f, DkW w' w.heap.size w'.heap.size f v' (doDesk d ⟨0, aa, bb⟩)) ∧ Below w.heap.size w w' := by
  have hn : (!deskOk d) = false := by simp [hok]
  obtain ⟨hs1, hs2, hs3, hs4⟩ := desk_small hok
  have HSM := Lib.hid hs4
  have HD := Lib.hid (do_not (a := ⟨0, aa, bb⟩) hok (back_kind (by simp)) (by rw [made_put0 rfl hw]; exact took_z0 _))
  have HPI := Lib.hid (PutIn_is hp)
  clear hok hs4 hp
  go_enter Tryd.func8, Tryd.ntmps8
  go_wp2_with fail
  refine (i_DeskOk _ d _ (DkI.mk i0.at i2.at i3.at)).mono ?_
  rintro e wa ⟨rfl, hba⟩
  haveI ba : Bel w wa := Bel.step (w := w) hba
  have BXa : wa.heap[w.heap.size]? = some (.cells #[.slice A0 d.now.st.length c0, .int .i64 d.now.step, .slice A2 d.now.word.length c2, .slice A3 d.past.length c3] 28 (0, 0)) := (hba.block _ (by simp <;> omega)).trans ((heap_alloc_old _ _ (by simp <;> omega)).trans ((heap_alloc_old _ _ (by simp)).trans (heap_alloc_new w _)))
  have BDa : wa.heap[w.heap.size + 1]? = some (.cells #[.int .i64 0, .int .i64 aa, .int .i64 bb] 30 (0, 0)) := (hba.block _ (by simp <;> omega)).trans ((heap_alloc_old _ _ (by simp)).trans (by simpa using heap_alloc_new (w.alloc (.cells #[.slice A0 d.now.st.length c0, .int .i64 d.now.step, .slice A2 d.now.word.length c2, .slice A3 d.past.length c3] 28)) _))
  have BRa : wa.heap[w.heap.size + 2]? = some (.cells #[.slice none 0 0, .int .i64 0, .slice none 0 0, .slice none 0 0] 28 (0, 0)) := (hba.block _ (by simp)).trans (by simpa using heap_alloc_new ((w.alloc (.cells #[.slice A0 d.now.st.length c0, .int .i64 d.now.step, .slice A2 d.now.word.length c2, .slice A3 d.past.length c3] 28)).alloc (.cells #[.int .i64 0, .int .i64 aa, .int .i64 bb] 30)) _)
  have hza : w.heap.size + 2 < wa.heap.size := by have := hba.size; simp at this; omega
  clear hba
  go_upto_region 3 with (fail)
  refine copies d w wa A0 A2 A3 c0 c2 c3 i0 i2 i3 hs1 hs2 hs3 HSM ba BXa _ _ _ _ _ _ _ _ _ (fun _ _ d _ _ h => (by cases d <;> exact h)) ?_
  rintro t wj hF
  obtain ⟨B0, e0, B2, e2, B3, e3, C0, k0, C2, k2, C3, k3, g6, g7⟩ := t
  obtain ⟨fbel, fb6, fb7, fne, fl6, fl7, m, f1, f2, fm0, fm, F1, F2⟩ := hF
  simp only [Two.v1, Two.v2] at *
  obtain ⟨W5, hW5⟩ : ∃ W5, W5 = set4 (set4 wj g6 (.slice B0 d.now.st.length e0) (.int .i64 d.now.step) (.slice B2 d.now.word.length e2) (.slice B3 d.past.length e3)) g7 (.slice C0 d.now.st.length k0) (.int .i64 d.now.step) (.slice C2 d.now.word.length k2) (.slice C3 d.past.length k3) := ⟨_, rfl⟩
  rw [← hW5]
  haveI bj : Bel wa wj := ⟨fbel⟩
  have b6 := block_far4 (block_set4 fb6 (.slice B0 d.now.st.length e0) (.int .i64 d.now.step) (.slice B2 d.now.word.length e2) (.slice B3 d.past.length e3)) fne (.slice C0 d.now.st.length k0) (.int .i64 d.now.step) (.slice C2 d.now.word.length k2) (.slice C3 d.past.length k3)
  have fb7' := block_far4 fb7 fne.symm (.slice B0 d.now.st.length e0) (.int .i64 d.now.step) (.slice B2 d.now.word.length e2) (.slice B3 d.past.length e3)
  have b7 := block_set4 fb7' (.slice C0 d.now.st.length k0) (.int .i64 d.now.step) (.slice C2 d.now.word.length k2) (.slice C3 d.past.length k3)
  have far : ∀ {k : Nat} {o : Obj}, k < wa.heap.size → wa.heap[k]? = some o → W5.heap[k]? = some o := fun {k o} hk ho => by
    rw [hW5]; exact block_far4 (block_far4 (block_at ho) (by omega) _ _ _ _) (by omega) _ _ _ _
  have BX := far (by omega) BXa
  have BD := far (by omega) BDa
  have BR := far (by omega) BRa
  have HD1 : Hid (DkO W5 wa.heap.size m f1 (.agg #[.slice B0 d.now.st.length e0, .int .i64 d.now.step, .slice B2 d.now.word.length e2, .slice B3 d.past.length e3]) d) := (by
    show DkO _ _ _ _ _ _
    rw [hW5]; exact DkO.set4 (DkO.set4 F1 fb6 (by decide) (by decide) _ _ _ _) fb7' (by decide) (by decide) _ _ _ _)
  have HD2 : Hid (DkO W5 m wj.heap.size f2 (.agg #[.slice C0 d.now.st.length k0, .int .i64 d.now.step, .slice C2 d.now.word.length k2, .slice C3 d.past.length k3]) d) := (by
    show DkO _ _ _ _ _ _
    rw [hW5]; exact DkO.set4 (DkO.set4 F2 fb6 (by decide) (by decide) _ _ _ _) fb7' (by decide) (by decide) _ _ _ _)
  haveI ba5 : Bel wa W5 := ⟨by rw [hW5]; exact below_set4 (below_set4 fbel fl6 _ _ _ _) fl7 _ _ _ _⟩
  haveI bw5 : Bel w W5 := Bel.step (w := w) ba5.out
  have HZJ : Hid (W5.heap.size = wj.heap.size) := by show _ = _; rw [hW5]; simp [size_set4]
  have HFM := Lib.hid fm; have HFN := Lib.hid fm0
  rw [← hW5] at b6 b7
  have HNE := Lib.hid fne; have HL6 := Lib.hid fl6; have HL7 := Lib.hid fl7
  clear hW5 far fb6 fb7 fb7' F1 F2 bj fbel fm fm0 BXa BDa BRa fne
  have HBX := Lib.hid BX; have HBD := Lib.hid BD; have HBR := Lib.hid BR; have HB6 := Lib.hid b6; have HB7 := Lib.hid b7
  clear BX BD BR b6 b7
  have n0 := block_cell HB7.out 0 rfl
  have n1 := block_cell HB7.out 1 rfl
  have n2 := block_cell HB7.out 2 rfl
  have n3 := block_cell HB7.out 3 rfl
  have d0 := block_cell HBD.out 0 rfl
  have d1 := block_cell HBD.out 1 rfl
  have d2 := block_cell HBD.out 2 rfl
  go_upto_region 10 with (fail)
  go_region_held3 (fun w' => w'.cell? ⟨g7, 0, none⟩ = some (.slice C0 d.now.st.length k0) ∧ w'.cell? ⟨w.heap.size + 1, 1, none⟩ = some (.int .i64 aa) ∧ w'.cell? ⟨w.heap.size + 1, 2, none⟩ = some (.int .i64 bb))
    (exact ⟨cell_at n0, cell_at d1, cell_at d2⟩)
    ((go_at_call 35; refine (HPI.out _ _ (OwnI.ints HD2.out.parts.1.1).at).mono ?_; rintro e w8 ⟨vu, rfl, hU, hb8⟩; obtain ⟨U0, u0, rfl⟩ := hU.ints.form; haveI b58 : Bel W5 w8 := Bel.step (w := W5) hb8))
  have hU' := Lib.hid hU
  clear hU n0 n1 n2 n3
  have n2 := block_cell (block_at (W := w8) HB7.out) 2 rfl
  haveI ba8 : Bel wa w8 := Bel.step (w := wa) b58.out
  go_upto_region 12 with (fail)
  clear n2 d0 d1 d2
  have hzw : wa.heap.size ≤ w8.heap.size := (Bel.out : Below wa.heap.size wa w8).size
  haveI : Bel w w8 := Bel.step (w := w) (Bel.out : Below wa.heap.size wa w8)
  have RR := block_at (W := w8) HBR.out
  have r0 := block_cell RR 0 rfl
  have r1 := block_cell RR 1 rfl
  have r2 := block_cell RR 2 rfl
  have r3 := block_cell RR 3 rfl
  have f0 := block_frozen RR 0
  have f1 := block_frozen RR 1
  have f2 := block_frozen RR 2
  have f3 := block_frozen RR 3
  have OO := block_at (W := w8) HB6.out
  have o0 := block_cell OO 0 rfl
  have o1 := block_cell OO 1 rfl
  have o2 := block_cell OO 2 rfl
  have o3 := block_cell OO 3 rfl
  have HF := Lib.hid ((((HD1.out.kept (w1 := w8) (fun k _ hk => (Bel.out : Below W5.heap.size W5 w8).block k (by have := HZJ.out; have := HFM.out; omega))).weak.set4 RR (by decide) (by decide) (.slice B0 d.now.st.length e0) (.int .i64 d.now.step) (.slice B2 d.now.word.length e2) (.slice B3 d.past.length e3)).lo (lo' := w.heap.size) (by omega)).hi (hi' := (set4 w8 (w.heap.size + 2) (.slice B0 d.now.st.length e0) (.int .i64 d.now.step) (.slice B2 d.now.word.length e2) (.slice B3 d.past.length e3)).heap.size) (by rw [size_set4]; have := HZJ.out; have := HFM.out; have := (Bel.out : Below W5.heap.size W5 w8).size; omega))
  have HB : Hid (Below w.heap.size w (set4 w8 (w.heap.size + 2) (.slice B0 d.now.st.length e0) (.int .i64 d.now.step) (.slice B2 d.now.word.length e2) (.slice B3 d.past.length e3))) := below_set4 Bel.out (by omega) _ _ _ _
  clear RR OO
  go_wp2
  exact bodyPost_ret (v := .tuple #[.agg #[.slice B0 d.now.st.length e0, .int .i64 d.now.step, .slice B2 d.now.word.length e2, .slice B3 d.past.length e3], .bool false]) (by simp [results, Tryd.results8, go_sem, r0, r1, r2, r3]) rfl ⟨_, by rw [HD.out.2], ⟨_, by rw [HD.out.1]; exact HF.out⟩, HB.out⟩
end Go.Proofs.YtpfncjaclgcbnaaDoor.Ub
