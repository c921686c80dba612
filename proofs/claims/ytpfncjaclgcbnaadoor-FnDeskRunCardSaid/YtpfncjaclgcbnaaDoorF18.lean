/- The program's DeskDo: back to the place of before. -/
import Derived.Test.YtpfncjaclgcbnaaDoorF17
set_option linter.unusedVariables false
set_option linter.unusedSimpArgs false
namespace Go.Proofs.YtpfncjaclgcbnaaDoor.Ub
open Go.RowKit Go.Proofs.YtpfncjaclgcbnaaDoorW


set_option maxHeartbeats 1000000 in
set_option maxRecDepth 100000 in
theorem i_do_back (d : Dk) (w : World) (A0 A2 A3 : Option Addr) (c0 c2 c3 : Nat) (i0 : Ints w (.slice A0 d.now.st.length c0) d.now.st) (i2 : Ints w (.slice A2 d.now.word.length c2) d.now.word) (i3 : Pls w (.slice A3 d.past.length c3) d.past) (hok : deskOk d = true) (hp : 0 < d.past.length) :
    Calls Tryd.prog 8 #[.agg #[.slice A0 d.now.st.length c0, .int .i64 d.now.step, .slice A2 d.now.word.length c2, .slice A3 d.past.length c3], .agg #[.int .i64 4, .int .i64 0, .int .i64 0]] w
      fun e w' => ∃ v', e = .returned (.tuple #[v', .bool (doOk d ⟨4, 0, 0⟩)]) ∧ (∃ f, DkW w' w.heap.size w'.heap.size f v' (doDesk d ⟨4, 0, 0⟩)) ∧ Below w.heap.size w w' := by
  have hn : (!deskOk d) = false := by simp [hok]
  obtain ⟨hs1, hs2, hs3, hs4⟩ := desk_small hok
  have HSM := Lib.hid hs4
  have HD := Lib.hid (do_back (a := ⟨4, 0, 0⟩) hok (by simp [backOk, isBack, hp]))
  clear hok hs4
  go_enter Tryd.func8, Tryd.ntmps8
  go_wp2_with fail
  refine (i_DeskOk _ d _ (DkI.mk i0.at i2.at i3.at)).mono ?_
  rintro e wa ⟨rfl, hba⟩
  haveI ba : Bel w wa := Bel.step (w := w) hba
  have BXa : wa.heap[w.heap.size]? = some (.cells #[.slice A0 d.now.st.length c0, .int .i64 d.now.step, .slice A2 d.now.word.length c2, .slice A3 d.past.length c3] 28 (0, 0)) := (hba.block _ (by simp <;> omega)).trans ((heap_alloc_old _ _ (by simp <;> omega)).trans ((heap_alloc_old _ _ (by simp)).trans (heap_alloc_new w _)))
  have BDa : wa.heap[w.heap.size + 1]? = some (.cells #[.int .i64 4, .int .i64 0, .int .i64 0] 30 (0, 0)) := (hba.block _ (by simp <;> omega)).trans ((heap_alloc_old _ _ (by simp)).trans (by simpa using heap_alloc_new (w.alloc (.cells #[.slice A0 d.now.st.length c0, .int .i64 d.now.step, .slice A2 d.now.word.length c2, .slice A3 d.past.length c3] 28)) _))
  have BRa : wa.heap[w.heap.size + 2]? = some (.cells #[.slice none 0 0, .int .i64 0, .slice none 0 0, .slice none 0 0] 28 (0, 0)) := (hba.block _ (by simp)).trans (by simpa using heap_alloc_new ((w.alloc (.cells #[.slice A0 d.now.st.length c0, .int .i64 d.now.step, .slice A2 d.now.word.length c2, .slice A3 d.past.length c3] 28)).alloc (.cells #[.int .i64 4, .int .i64 0, .int .i64 0] 30)) _)
  have hza : w.heap.size + 2 < wa.heap.size := by have := hba.size; simp at this; omega
  clear hba
  go_upto_region 3 with (fail)
  refine copies d w wa A0 A2 A3 c0 c2 c3 i0 i2 i3 hs1 hs2 hs3 HSM ba BXa _ _ _ _ _ _ _ _ _ (fun _ _ d _ _ h => (by cases d <;> exact h)) ?_
  rintro t wj hF
  obtain ⟨B0, e0, B2, e2, B3, e3, C0, k0, C2, k2, C3, k3, g6, g7⟩ := t
  obtain ⟨fbel, fb6, fb7, fne, fl6, fl7, m, f1, f2, fm0, fm, F1, F2⟩ := hF
  simp only [Two.v1, Two.v2] at *
  obtain ⟨W5, hW5⟩ : ∃ W5, W5 = set4 (set4 wj g6 (.slice B0 d.now.st.length e0) (.int .i64 d.now.step) (.slice B2 d.now.word.length e2) (.slice B3 d.past.length e3)) g7 (.slice C0 d.now.st.length k0) (.int .i64 d.now.step) (.slice C2 d.now.word.length k2) (.slice C3 d.past.length k3) := ⟨_, rfl⟩
  rw [← hW5]
  haveI bj : Bel wa wj := ⟨fbel⟩
  have b6 := block_far4 (block_set4 fb6 (.slice B0 d.now.st.length e0) (.int .i64 d.now.step) (.slice B2 d.now.word.length e2) (.slice B3 d.past.length e3)) fne (.slice C0 d.now.st.length k0) (.int .i64 d.now.step) (.slice C2 d.now.word.length k2) (.slice C3 d.past.length k3)
  have fb7' := block_far4 fb7 fne.symm (.slice B0 d.now.st.length e0) (.int .i64 d.now.step) (.slice B2 d.now.word.length e2) (.slice B3 d.past.length e3)
  have b7 := block_set4 fb7' (.slice C0 d.now.st.length k0) (.int .i64 d.now.step) (.slice C2 d.now.word.length k2) (.slice C3 d.past.length k3)
  have far : ∀ {k : Nat} {o : Obj}, k < wa.heap.size → wa.heap[k]? = some o → W5.heap[k]? = some o := fun {k o} hk ho => by
    rw [hW5]; exact block_far4 (block_far4 (block_at ho) (by omega) _ _ _ _) (by omega) _ _ _ _
  have BX := far (by omega) BXa
  have BD := far (by omega) BDa
  have BR := far (by omega) BRa
  have HD1 : Hid (DkO W5 wa.heap.size m f1 (.agg #[.slice B0 d.now.st.length e0, .int .i64 d.now.step, .slice B2 d.now.word.length e2, .slice B3 d.past.length e3]) d) := (by
    show DkO _ _ _ _ _ _
    rw [hW5]; exact DkO.set4 (DkO.set4 F1 fb6 (by decide) (by decide) _ _ _ _) fb7' (by decide) (by decide) _ _ _ _)
  have HD2 : Hid (DkO W5 m wj.heap.size f2 (.agg #[.slice C0 d.now.st.length k0, .int .i64 d.now.step, .slice C2 d.now.word.length k2, .slice C3 d.past.length k3]) d) := (by
    show DkO _ _ _ _ _ _
    rw [hW5]; exact DkO.set4 (DkO.set4 F2 fb6 (by decide) (by decide) _ _ _ _) fb7' (by decide) (by decide) _ _ _ _)
  haveI ba5 : Bel wa W5 := ⟨by rw [hW5]; exact below_set4 (below_set4 fbel fl6 _ _ _ _) fl7 _ _ _ _⟩
  haveI bw5 : Bel w W5 := Bel.step (w := w) ba5.out
  have HZJ : Hid (W5.heap.size = wj.heap.size) := by show _ = _; rw [hW5]; simp [size_set4]
  have HFM := Lib.hid fm; have HFN := Lib.hid fm0
  rw [← hW5] at b6 b7
  have HNE := Lib.hid fne; have HL6 := Lib.hid fl6; have HL7 := Lib.hid fl7
  clear hW5 far fb6 fb7 fb7' F1 F2 bj fbel fm fm0 BXa BDa BRa fne
  have HBX := Lib.hid BX; have HBD := Lib.hid BD; have HBR := Lib.hid BR; have HB6 := Lib.hid b6; have HB7 := Lib.hid b7
  clear BX BD BR b6 b7
  obtain ⟨n, hm⟩ : ∃ n, d.past.length = n + 1 := ⟨d.past.length - 1, by omega⟩
  obtain ⟨g, z0', z2', hA, hmc, hcm, q0, q1, q2, f', hU0, hU2, hUP⟩ := OwnPs.last HD2.out.parts.2.2 hm
  subst hA
  obtain ⟨U0, u0, rfl⟩ := hU0.ints.form
  obtain ⟨U2, u2, rfl⟩ := hU2.ints.form
  have hsub : (d.past.length : Int) - 1 = (n : Int) := by omega
  have hlt : n < d.past.length := by omega
  have hnk : n ≤ k3 := by omega
  have HD2' : Hid (doDesk d ⟨4, 0, 0⟩ = ⟨d.past.getD n z0, d.past.take n⟩) := by show _ = _; rw [HD.out.1, show d.past.length - 1 = n by omega]
  have HUD := Lib.hid (DkW.of (d := ⟨d.past.getD n z0, d.past.take n⟩) hU0 hU2 (OwnPs.clip hUP (by rw [List.length_take]; omega)))
  have HM := Lib.hid hm; clear hm
  clear hU0 hU2 hUP
  generalize d.past.getD n z0 = q at *
  have d0 := block_cell HBD.out 0 rfl
  have d1 := block_cell HBD.out 1 rfl
  have d2 := block_cell HBD.out 2 rfl
  have n3 := block_cell HB7.out 3 rfl
  go_upto_region 26 with (fail)
  clear d0 d1 d2
  refine PrintLast.start_ (n := 13) (S := fun w' => w'.cell? ⟨g7, 3, none⟩ = some (.slice (some ⟨g, 0, none⟩) d.past.length k3) ∧ w'.cell? ⟨g, n * 3, none⟩ = some (.slice U0 q.st.length u0) ∧ w'.cell? ⟨g, n * 3 + 1, none⟩ = some (.int .i64 q.step) ∧ w'.cell? ⟨g, n * 3 + 2, none⟩ = some (.slice U2 q.word.length u2)) (ds := [11]) #[false, false, false, false, false, false, false, false, false, false, false, false, false] (by kernel_rfl) rfl rfl ⟨cell_at n3, cell_at q0, cell_at q1, cell_at q2⟩ (fun hHeld => ?_)
  refine PrintLast.pure_ (i := 0) (N := (some 113)) (v := ?_) (a' := ?_) #[true, false, false, false, false, false, false, false, false, false, false, false, false] rfl rfl (by kernel_rfl) (fun _ _ _ h => h) (Or.inl ⟨by rfl, ?_⟩) ?_ ?_
  rotate_left
  · (intro w'; go_simp; with_reducible rfl)
  rotate_left
  · (simp only [Act.put, List.setIfInBounds_toArray, List.set_cons_zero, List.set_cons_succ, PrintLast.i64_w, PrintLast.i32_w]; rfl)
  refine PrintLast.pure_ (i := 2) (N := (some 115)) (v := ?_) (a' := ?_) #[true, false, true, false, false, false, false, false, false, false, false, false, false] rfl rfl (by kernel_rfl) (fun _ _ _ h => h) (Or.inl ⟨by rfl, ?_⟩) ?_ ?_
  rotate_left
  · (intro w'; go_simp; with_reducible rfl)
  rotate_left
  · (simp only [Act.put, List.setIfInBounds_toArray, List.set_cons_zero, List.set_cons_succ, PrintLast.i64_w, PrintLast.i32_w]; rfl)
  refine PrintLast.pure_ (i := 5) (N := (some 118)) (v := ?_) (a' := ?_) #[true, false, true, false, false, true, false, false, false, false, false, false, false] rfl rfl (by kernel_rfl) (fun _ _ _ h => h) (Or.inl ⟨by rfl, ?_⟩) ?_ ?_
  rotate_left
  · (intro w'; go_simp; with_reducible rfl)
  rotate_left
  · (simp only [Act.put, List.setIfInBounds_toArray, List.set_cons_zero, List.set_cons_succ, PrintLast.i64_w, PrintLast.i32_w]; rfl)
  refine PrintLast.pure_ (i := 7) (N := (some 120)) (v := ?_) (a' := ?_) #[true, false, true, false, false, true, false, true, false, false, false, false, false] rfl rfl (by kernel_rfl) (fun _ _ _ h => h) (Or.inl ⟨by rfl, ?_⟩) ?_ ?_
  rotate_left
  · (intro w'; go_simp; with_reducible rfl)
  rotate_left
  · (simp only [Act.put, List.setIfInBounds_toArray, List.set_cons_zero, List.set_cons_succ, PrintLast.i64_w, PrintLast.i32_w]; rfl)
  refine PrintLast.take_ (i := 1) (N := (some 114)) (v := ?_) (a' := ?_) #[true, true, true, false, false, true, false, true, false, false, false, false, false] rfl rfl (by kernel_rfl) (fun _ _ _ h => h) (Or.inl ⟨by rfl, ?_⟩) hHeld ?_ ?_
  rotate_left
  · (rintro w' ⟨s0, s1, s2, s3⟩; go_simp; with_reducible rfl)
  rotate_left
  · (simp only [Act.put, List.setIfInBounds_toArray, List.set_cons_zero, List.set_cons_succ, PrintLast.i64_w, PrintLast.i32_w]; rfl)
  refine PrintLast.pure_ (i := 3) (N := (some 116)) (v := ?_) (a' := ?_) #[true, true, true, true, false, true, false, true, false, false, false, false, false] rfl rfl (by kernel_rfl) (fun _ _ _ h => h) (Or.inl ⟨by rfl, ?_⟩) ?_ ?_
  rotate_left
  · (intro w'; go_simp; with_reducible rfl)
  rotate_left
  · (simp only [Act.put, List.setIfInBounds_toArray, List.set_cons_zero, List.set_cons_succ, PrintLast.i64_w, PrintLast.i32_w]; rfl)
  refine PrintLast.take_ (i := 4) (N := (some 117)) (v := ?_) (a' := ?_) #[true, true, true, true, true, true, false, true, false, false, false, false, false] rfl rfl (by kernel_rfl) (fun _ _ _ h => h) (Or.inl ⟨by rfl, ?_⟩) hHeld ?_ ?_
  rotate_left
  · (rintro w' ⟨s0, s1, s2, s3⟩; go_simp; with_reducible rfl)
  rotate_left
  · (simp only [Act.put, List.setIfInBounds_toArray, List.set_cons_zero, List.set_cons_succ, PrintLast.i64_w, PrintLast.i32_w]; rfl)
  refine PrintLast.take_ (i := 6) (N := (some 119)) (v := ?_) (a' := ?_) #[true, true, true, true, true, true, true, true, false, false, false, false, false] rfl rfl (by kernel_rfl) (fun _ _ _ h => h) (Or.inl ⟨by rfl, ?_⟩) hHeld ?_ ?_
  rotate_left
  · (rintro w' ⟨s0, s1, s2, s3⟩; go_simp; with_reducible rfl)
  rotate_left
  · (simp only [Act.put, List.setIfInBounds_toArray, List.set_cons_zero, List.set_cons_succ, PrintLast.i64_w, PrintLast.i32_w]; rfl)
  refine PrintLast.pure_ (i := 8) (N := (some 121)) (v := ?_) (a' := ?_) #[true, true, true, true, true, true, true, true, true, false, false, false, false] rfl rfl (by kernel_rfl) (fun _ _ _ h => h) (Or.inl ⟨by rfl, ?_⟩) ?_ ?_
  rotate_left
  · (intro w'; go_simp; with_reducible rfl)
  rotate_left
  · (simp only [Act.put, List.setIfInBounds_toArray, List.set_cons_zero, List.set_cons_succ, PrintLast.i64_w, PrintLast.i32_w]; rfl)
  refine PrintLast.one_ (i := 9) (N := (some 122)) #[true, true, true, true, true, true, true, true, true, true, false, false, false] rfl rfl (by kernel_rfl) (by decide) (fun K hK => ?_)
  refine PrintLast.goes_ Tryd.func36 (by kernel_rfl) rfl #[.slice (some ⟨g, 0, none⟩) n k3] (by rfl) rfl rfl (by (try simp only [List.map_toArray, List.map_cons, List.map_nil]); first | done | rfl) ?_
  refine (i_Clip _ n k3 _ (by omega) (by omega)).mono ?_
  rintro e w9 ⟨rfl, rfl⟩
  refine ⟨_, rfl, ?_⟩
  refine hK.out _ _ ⟨cell_at n3, cell_at q0, cell_at q1, cell_at q2⟩ (fun hHeld => ?_)
  clear hK K
  refine PrintLast.norm_ (a' := ?_) ?_ ?_
  rotate_left
  · (show Act.put _ (some 122) _ = _; simp only [Act.put, List.setIfInBounds_toArray, List.set_cons_zero, List.set_cons_succ, PrintLast.i64_w, PrintLast.i32_w]; rfl)
  refine PrintLast.pure_ (i := 10) (N := (some 123)) (v := ?_) (a' := ?_) #[true, true, true, true, true, true, true, true, true, true, true, false, false] rfl rfl (by kernel_rfl) (fun _ _ _ h => h) (Or.inl ⟨by rfl, ?_⟩) ?_ ?_
  rotate_left
  · (intro w'; go_simp; with_reducible rfl)
  rotate_left
  · (simp only [Act.put, List.setIfInBounds_toArray, List.set_cons_zero, List.set_cons_succ, PrintLast.i64_w, PrintLast.i32_w]; rfl)
  have RR := HBR.out
  have r0 := block_cell RR 0 rfl
  have r1 := block_cell RR 1 rfl
  have r2 := block_cell RR 2 rfl
  have r3 := block_cell RR 3 rfl
  have f0 := block_frozen RR 0
  have f1 := block_frozen RR 1
  have f2 := block_frozen RR 2
  have f3 := block_frozen RR 3
  have hF4 := HUD.out.set4 RR (by decide) (by decide) (.slice U0 q.st.length u0) (.int .i64 q.step) (.slice U2 q.word.length u2) (.slice (some ⟨g, 0, none⟩) n n)
  have HF := Lib.hid (((hF4.kept (w1 := (set4 W5 (w.heap.size + 2) (.slice U0 q.st.length u0) (.int .i64 q.step) (.slice U2 q.word.length u2) (.slice (some ⟨g, 0, none⟩) n n)).drew) (fun k _ hk => rfl)).lo (lo' := w.heap.size) (by have := HFN.out; omega)).hi (hi' := ((set4 W5 (w.heap.size + 2) (.slice U0 q.st.length u0) (.int .i64 q.step) (.slice U2 q.word.length u2) (.slice (some ⟨g, 0, none⟩) n n)).drew).heap.size) (by have := HZJ.out; simp [size_set4]; omega))
  have HB : Hid (Below w.heap.size w ((set4 W5 (w.heap.size + 2) (.slice U0 q.st.length u0) (.int .i64 q.step) (.slice U2 q.word.length u2) (.slice (some ⟨g, 0, none⟩) n n)).drew)) := (below_set4 bw5.out (by omega) _ _ _ _).drew
  clear hF4
  clear RR
  refine PrintLast.last_ (i := 11) (N := none) #[true, true, true, true, true, true, true, true, true, true, true, true, false] rfl rfl (by kernel_rfl) (by decide) (fun K hK => ?_)
  refine PrintLast.skip_ (w1 := ?_) (by rfl) rfl ?_ ?_
  rotate_left
  · (go_simp; rfl)
  refine hK.out _ _ ?_
  clear hK K
  refine PrintLast.pure_ (i := 12) (N := (some 5)) (v := ?_) (a' := ?_) #[true, true, true, true, true, true, true, true, true, true, true, true, true] rfl rfl (by kernel_rfl) (fun _ _ _ h => h) (Or.inl ⟨by rfl, ?_⟩) ?_ ?_
  rotate_left
  · (intro w'; go_simp; with_reducible rfl)
  rotate_left
  · (simp only [Act.put, List.setIfInBounds_toArray, List.set_cons_zero, List.set_cons_succ, PrintLast.i64_w, PrintLast.i32_w]; rfl)
  refine PrintLast.done_ (by kernel_rfl) ?_
  go_wp2
  exact bodyPost_ret (v := .tuple #[.agg #[.slice U0 q.st.length u0, .int .i64 q.step, .slice U2 q.word.length u2, .slice (some ⟨g, 0, none⟩) n n], .bool true]) (by simp [results, Tryd.results8, go_sem, r0, r1, r2, r3]) rfl ⟨_, by rw [HD.out.2], ⟨_, by rw [HD2'.out]; exact HF.out⟩, HB.out⟩
end Go.Proofs.YtpfncjaclgcbnaaDoor.Ub
