/- Contract of the reference's DeskDo. -/
import Derived.Test.YtpfncjaclgcbnaaDoorF14
import Derived.Test.YtpfncjaclgcbnaaDoorF8
import Derived.Test.YtpfncjaclgcbnaaDoorOwn3
set_option linter.unusedVariables false
set_option linter.unusedSimpArgs false
namespace Go.Proofs.YtpfncjaclgcbnaaDoor.Ub
open Go.RowKit Go.Proofs.YtpfncjaclgcbnaaDoorW


set_option maxHeartbeats 1000000 in
set_option maxRecDepth 100000 in
theorem s_do_none (d : Dk) (a : Dd) (w : World) (A0 A2 A3 : Option Addr) (c0 c2 c3 : Nat) (i0 : Ints w (.slice A0 d.now.st.length c0) d.now.st) (i2 : Ints w (.slice A2 d.now.word.length c2) d.now.word) (i3 : Pls w (.slice A3 d.past.length c3) d.past) (hok : deskOk d = false) :
    Calls Tryd.prog 9 #[.agg #[.slice A0 d.now.st.length c0, .int .i64 d.now.step, .slice A2 d.now.word.length c2, .slice A3 d.past.length c3], .agg #[.int .i64 a.kind, .int .i64 a.a, .int .i64 a.b]] w
      fun e w' => ∃ v', e = .returned (.tuple #[v', .bool (doOk d a)]) ∧ DkP w' w.heap.size v' (doDesk d a) d.past.length ∧ Below w.heap.size w w' := by
  have hn : (!deskOk d) = true := by simp [hok]
  have HD := Lib.hid (do_none (a := a) hok)
  clear hok
  go_enter Tryd.func9, Tryd.ntmps9
  go_wp2_with fail
  refine (s_DeskOk _ d _ (DkI.mk i0.at i2.at i3.at)).mono ?_
  rintro e wa ⟨rfl, hba⟩
  haveI ba : Bel w wa := Bel.step (w := w) hba
  have BXa : wa.heap[w.heap.size]? = some (.cells #[.slice A0 d.now.st.length c0, .int .i64 d.now.step, .slice A2 d.now.word.length c2, .slice A3 d.past.length c3] 28 (0, 0)) := (hba.block _ (by simp <;> omega)).trans ((heap_alloc_old _ _ (by simp <;> omega)).trans ((heap_alloc_old _ _ (by simp)).trans (heap_alloc_new w _)))
  have BDa : wa.heap[w.heap.size + 1]? = some (.cells #[.int .i64 a.kind, .int .i64 a.a, .int .i64 a.b] 30 (0, 0)) := (hba.block _ (by simp <;> omega)).trans ((heap_alloc_old _ _ (by simp)).trans (by simpa using heap_alloc_new (w.alloc (.cells #[.slice A0 d.now.st.length c0, .int .i64 d.now.step, .slice A2 d.now.word.length c2, .slice A3 d.past.length c3] 28)) _))
  have BRa : wa.heap[w.heap.size + 2]? = some (.cells #[.slice none 0 0, .int .i64 0, .slice none 0 0, .slice none 0 0] 28 (0, 0)) := (hba.block _ (by simp)).trans (by simpa using heap_alloc_new ((w.alloc (.cells #[.slice A0 d.now.st.length c0, .int .i64 d.now.step, .slice A2 d.now.word.length c2, .slice A3 d.past.length c3] 28)).alloc (.cells #[.int .i64 a.kind, .int .i64 a.a, .int .i64 a.b] 30)) _)
  have hza : w.heap.size + 2 < wa.heap.size := by have := hba.size; simp at this; omega
  clear hba
  have RR := BRa
  have r0 := block_cell RR 0 rfl
  have r1 := block_cell RR 1 rfl
  have r2 := block_cell RR 2 rfl
  have r3 := block_cell RR 3 rfl
  have f0 := block_frozen RR 0
  have f1 := block_frozen RR 1
  have f2 := block_frozen RR 2
  have f3 := block_frozen RR 3
  have HB := Lib.hid (below_set4 ba.out (g := w.heap.size + 2) (by omega) (.slice none 0 0) (.int .i64 0) (.slice none 0 0) (.slice none 0 0))
  clear RR BXa BDa BRa hza
  go_wp2
  exact bodyPost_ret (v := .tuple #[.agg #[.slice none 0 0, .int .i64 0, .slice none 0 0, .slice none 0 0], .bool false]) (by simp [results, Tryd.results9, go_sem, r0, r1, r2, r3]) rfl ⟨_, by rw [HD.out.2], by rw [HD.out.1]; exact ⟨DkS.nil _ _, fun _ => HasD.nil _ _⟩, HB.out⟩



set_option maxHeartbeats 1000000 in
set_option maxRecDepth 100000 in
theorem s_do_back (d : Dk) (w : World) (A0 A2 A3 : Option Addr) (c0 c2 c3 : Nat) (i0 : Ints w (.slice A0 d.now.st.length c0) d.now.st) (i2 : Ints w (.slice A2 d.now.word.length c2) d.now.word) (i3 : Pls w (.slice A3 d.past.length c3) d.past) (hok : deskOk d = true) (hp : 0 < d.past.length) :
    Calls Tryd.prog 9 #[.agg #[.slice A0 d.now.st.length c0, .int .i64 d.now.step, .slice A2 d.now.word.length c2, .slice A3 d.past.length c3], .agg #[.int .i64 4, .int .i64 0, .int .i64 0]] w
      fun e w' => ∃ v', e = .returned (.tuple #[v', .bool (doOk d ⟨4, 0, 0⟩)]) ∧ DkP w' w.heap.size v' (doDesk d ⟨4, 0, 0⟩) d.past.length ∧ Below w.heap.size w w' := by
  have hn : (!deskOk d) = false := by simp [hok]
  have HD := Lib.hid (do_back (a := ⟨4, 0, 0⟩) hok (by simp [backOk, isBack, hp]))
  obtain ⟨hs1, hs2, hs3, hs4⟩ := desk_small hok
  have HSM := Lib.hid hs4
  clear hok hs4
  go_enter Tryd.func9, Tryd.ntmps9
  go_wp2_with fail
  refine (s_DeskOk _ d _ (DkI.mk i0.at i2.at i3.at)).mono ?_
  rintro e wa ⟨rfl, hba⟩
  haveI ba : Bel w wa := Bel.step (w := w) hba
  have BXa : wa.heap[w.heap.size]? = some (.cells #[.slice A0 d.now.st.length c0, .int .i64 d.now.step, .slice A2 d.now.word.length c2, .slice A3 d.past.length c3] 28 (0, 0)) := (hba.block _ (by simp <;> omega)).trans ((heap_alloc_old _ _ (by simp <;> omega)).trans ((heap_alloc_old _ _ (by simp)).trans (heap_alloc_new w _)))
  have BDa : wa.heap[w.heap.size + 1]? = some (.cells #[.int .i64 4, .int .i64 0, .int .i64 0] 30 (0, 0)) := (hba.block _ (by simp <;> omega)).trans ((heap_alloc_old _ _ (by simp)).trans (by simpa using heap_alloc_new (w.alloc (.cells #[.slice A0 d.now.st.length c0, .int .i64 d.now.step, .slice A2 d.now.word.length c2, .slice A3 d.past.length c3] 28)) _))
  have BRa : wa.heap[w.heap.size + 2]? = some (.cells #[.slice none 0 0, .int .i64 0, .slice none 0 0, .slice none 0 0] 28 (0, 0)) := (hba.block _ (by simp)).trans (by simpa using heap_alloc_new ((w.alloc (.cells #[.slice A0 d.now.st.length c0, .int .i64 d.now.step, .slice A2 d.now.word.length c2, .slice A3 d.past.length c3] 28)).alloc (.cells #[.int .i64 4, .int .i64 0, .int .i64 0] 30)) _)
  have hza : w.heap.size + 2 < wa.heap.size := by have := hba.size; simp at this; omega
  clear hba
  have x0 := block_cell BXa 0 rfl
  have x1 := block_cell BXa 1 rfl
  have x2 := block_cell BXa 2 rfl
  have x3 := block_cell BXa 3 rfl
  go_wp2_with fail
  clear x0 x1 x2 x3
  refine (s_l15Copy _ d _ (DkI.mk i0.at i2.at i3.at) (by omega) (by omega) (by omega) (fun j hj => by have := HSM.out j hj; omega)).mono ?_
  rintro e w1 ⟨v1, rfl, ⟨f, hD⟩, hb1⟩
  obtain ⟨y0, y2, y3, rfl, hT0, hT2, hPs⟩ := hD
  obtain ⟨B0, e0, rfl⟩ := hT0.ints.form
  obtain ⟨B2, e2, rfl⟩ := hT2.ints.form
  obtain ⟨B3, e3, rfl⟩ := hPs.pls.form
  haveI b1 : Bel wa w1 := Bel.step (w := wa) hb1
  go_upto_region 4 with (fail)
  obtain ⟨W5, hW5⟩ : ∃ W5, W5 = w1.alloc (.cells #[.slice B0 d.now.st.length e0, .int .i64 d.now.step, .slice B2 d.now.word.length e2, .slice B3 d.past.length e3] 28) := ⟨_, rfl⟩
  rw [← hW5]
  haveI b5 : Bel w1 W5 := by rw [hW5]; exact Bel.alloc
  haveI ba5 : Bel wa W5 := Bel.step (w := wa) b5.out
  haveI bw5 : Bel w W5 := Bel.step (w := w) ba5.out
  have BO : W5.heap[w1.heap.size]? = some (.cells #[.slice B0 d.now.st.length e0, .int .i64 d.now.step, .slice B2 d.now.word.length e2, .slice B3 d.past.length e3] 28 (0, 0)) := by rw [hW5]; exact heap_alloc_new _ _
  have HDO : Hid (DkO W5 wa.heap.size w1.heap.size f (.agg #[.slice B0 d.now.st.length e0, .int .i64 d.now.step, .slice B2 d.now.word.length e2, .slice B3 d.past.length e3]) d) :=
    (DkO.kept (⟨_, _, _, rfl, hT0, hT2, hPs⟩ : DkO w1 wa.heap.size w1.heap.size f _ d) (fun k _ hk => b5.out.block k hk) : _)
  have hz1 : wa.heap.size ≤ w1.heap.size := hb1.size
  have hz5 : W5.heap.size = w1.heap.size + 1 := by rw [hW5]; simp
  have BX := block_at (W := W5) BXa
  have BD := block_at (W := W5) BDa
  have BR := block_at (W := W5) BRa
  have HZ5 := Lib.hid hz5
  clear hW5 hT0 hT2 hPs hb1 BXa BDa BRa hz5
  obtain ⟨m, hm⟩ : ∃ m, d.past.length = m + 1 := ⟨d.past.length - 1, by omega⟩
  obtain ⟨g, z0', z2', hA, hmc, hcm, q0, q1, q2, f', hU0, hU2, hUP⟩ := OwnPs.last HDO.out.parts.2.2 hm
  subst hA
  obtain ⟨U0, u0, rfl⟩ := hU0.ints.form
  obtain ⟨U2, u2, rfl⟩ := hU2.ints.form
  have hsub : (d.past.length : Int) - 1 = (m : Int) := by omega
  have hlt : m < d.past.length := by omega
  have HD2 : Hid (doDesk d ⟨4, 0, 0⟩ = ⟨d.past.getD m z0, d.past.take m⟩) := by show _ = _; rw [HD.out.1, show d.past.length - 1 = m by omega]
  have HM := Lib.hid hm; clear hm
  have HUD := Lib.hid (DkO.of (d := ⟨d.past.getD m z0, d.past.take m⟩) hU0 hU2 hUP)
  clear hU0 hU2 hUP
  generalize d.past.getD m z0 = q at *
  have x3 := block_cell BX 3 rfl
  have d0 := block_cell BD 0 rfl
  have d1 := block_cell BD 1 rfl
  have d2 := block_cell BD 2 rfl
  have o3 := block_cell BO 3 rfl
  have o0 := block_cell BO 0 rfl
  have o1 := block_cell BO 1 rfl
  have o2 := block_cell BO 2 rfl
  have p0 := block_frozen BO 0
  have p1 := block_frozen BO 1
  have p2 := block_frozen BO 2
  have p3 := block_frozen BO 3
  have HBO := Lib.hid BO; have HBR := Lib.hid BR
  clear BX BD BO BR
  go_upto_region 8 with (fail)
  obtain ⟨W6, hW6⟩ : ∃ W6, W6 = set4 W5 w1.heap.size (.slice U0 q.st.length u0) (.int .i64 q.step) (.slice U2 q.word.length u2) (.slice (some ⟨g, 0, none⟩) m e3) := ⟨_, rfl⟩
  have e6 := hW6
  unfold set4 at e6
  rw [← e6]
  have RR : W6.heap[w.heap.size + 2]? = some (.cells #[.slice none 0 0, .int .i64 0, .slice none 0 0, .slice none 0 0] 28 (0, 0)) := by rw [hW6]; exact block_far4 HBR.out (by omega) _ _ _ _
  have BO6 : W6.heap[w1.heap.size]? = some (.cells #[(.slice U0 q.st.length u0), (.int .i64 q.step), (.slice U2 q.word.length u2), (.slice (some ⟨g, 0, none⟩) m e3)] 28 (0, 0)) := by rw [hW6]; exact block_set4 HBO.out _ _ _ _
  have r0 := block_cell RR 0 rfl
  have r1 := block_cell RR 1 rfl
  have r2 := block_cell RR 2 rfl
  have r3 := block_cell RR 3 rfl
  have f0 := block_frozen RR 0
  have f1 := block_frozen RR 1
  have f2 := block_frozen RR 2
  have f3 := block_frozen RR 3
  clear o0 o1 o2 o3 p0 p1 p2 p3
  have o0 := block_cell BO6 0 rfl
  have o1 := block_cell BO6 1 rfl
  have o2 := block_cell BO6 2 rfl
  have o3 := block_cell BO6 3 rfl
  have HB : Hid (Below w.heap.size w (set4 W6 (w.heap.size + 2) (.slice U0 q.st.length u0) (.int .i64 q.step) (.slice U2 q.word.length u2) (.slice (some ⟨g, 0, none⟩) m e3))) := (by
    show Below _ _ _
    rw [hW6]; exact below_set4 (below_set4 bw5.out (by omega) _ _ _ _) (by omega) _ _ _ _)
  have HF := Lib.hid (((HUD.out.weak.set4 HBO.out (by decide) (by decide) (.slice U0 q.st.length u0) (.int .i64 q.step) (.slice U2 q.word.length u2) (.slice (some ⟨g, 0, none⟩) m e3)).set4 (hW6 ▸ RR) (by decide) (by decide) (.slice U0 q.st.length u0) (.int .i64 q.step) (.slice U2 q.word.length u2) (.slice (some ⟨g, 0, none⟩) m e3)).stay (lo' := w.heap.size) (by omega) (by simp only [size_set4]; have := HZ5.out; omega))
  have HG := Lib.hid ((((HUD.out.has.set4 HBO.out (by decide) (by decide) (.slice U0 q.st.length u0) (.int .i64 q.step) (.slice U2 q.word.length u2) (.slice (some ⟨g, 0, none⟩) m e3)).set4 (hW6 ▸ RR) (by decide) (by decide) (.slice U0 q.st.length u0) (.int .i64 q.step) (.slice U2 q.word.length u2) (.slice (some ⟨g, 0, none⟩) m e3)).lo (lo' := w.heap.size) (by omega)))
  rw [← hW6] at HF HG
  clear RR BO6 hW6 e6
  go_wp2
  exact bodyPost_ret (v := .tuple #[.agg #[.slice U0 q.st.length u0, .int .i64 q.step, .slice U2 q.word.length u2, .slice (some ⟨g, 0, none⟩) m e3], .bool true]) (by simp [results, Tryd.results9, go_sem, r0, r1, r2, r3]) rfl ⟨_, by rw [HD.out.2], by rw [HD2.out]; exact ⟨HF.out, fun _ => HG.out⟩, HB.out⟩


theorem placeOk_is {q : Pl} {b : Bool} (h : placeOk q = b) (v : Value) (w' : World) (hp : PlI w' v q) : Calls Tryd.prog 42 #[v] w' fun e w'' => e = .returned (.bool b) ∧ Below w'.heap.size w' w'' := by
  have := s_PlaceOk v q w' hp
  rw [h] at this; exact this
set_option maxHeartbeats 1000000 in
set_option maxRecDepth 100000 in
theorem s_do_bad (d : Dk) (a : Dd) (q : Pl) (hq : madeOf d.now a = q) (w : World) (A0 A2 A3 : Option Addr) (c0 c2 c3 : Nat) (i0 : Ints w (.slice A0 d.now.st.length c0) d.now.st) (i2 : Ints w (.slice A2 d.now.word.length c2) d.now.word) (i3 : Pls w (.slice A3 d.past.length c3) d.past) (hok : deskOk d = true)
    (hk : (a.kind == 4) = false) (hqo : placeOk q = false) :
    Calls Tryd.prog 9 #[.agg #[.slice A0 d.now.st.length c0, .int .i64 d.now.step, .slice A2 d.now.word.length c2, .slice A3 d.past.length c3], .agg #[.int .i64 a.kind, .int .i64 a.a, .int .i64 a.b]] w
      fun e w' => ∃ v', e = .returned (.tuple #[v', .bool (doOk d a)]) ∧ DkP w' w.heap.size v' (doDesk d a) d.past.length ∧ Below w.heap.size w w' := by
  have hn : (!deskOk d) = false := by simp [hok]
  have HPO := Lib.hid (placeOk_is hqo)
  have HD := Lib.hid (do_not hok (back_kind (by simpa using hk)) (by rw [hq]; simp [took, hqo]))
  obtain ⟨hs1, hs2, hs3, hs4⟩ := desk_small hok
  have HSM := Lib.hid hs4
  clear hok hs4 hqo
  go_enter Tryd.func9, Tryd.ntmps9
  go_wp2_with fail
  refine (s_DeskOk _ d _ (DkI.mk i0.at i2.at i3.at)).mono ?_
  rintro e wa ⟨rfl, hba⟩
  haveI ba : Bel w wa := Bel.step (w := w) hba
  have BXa : wa.heap[w.heap.size]? = some (.cells #[.slice A0 d.now.st.length c0, .int .i64 d.now.step, .slice A2 d.now.word.length c2, .slice A3 d.past.length c3] 28 (0, 0)) := (hba.block _ (by simp <;> omega)).trans ((heap_alloc_old _ _ (by simp <;> omega)).trans ((heap_alloc_old _ _ (by simp)).trans (heap_alloc_new w _)))
  have BDa : wa.heap[w.heap.size + 1]? = some (.cells #[.int .i64 a.kind, .int .i64 a.a, .int .i64 a.b] 30 (0, 0)) := (hba.block _ (by simp <;> omega)).trans ((heap_alloc_old _ _ (by simp)).trans (by simpa using heap_alloc_new (w.alloc (.cells #[.slice A0 d.now.st.length c0, .int .i64 d.now.step, .slice A2 d.now.word.length c2, .slice A3 d.past.length c3] 28)) _))
  have BRa : wa.heap[w.heap.size + 2]? = some (.cells #[.slice none 0 0, .int .i64 0, .slice none 0 0, .slice none 0 0] 28 (0, 0)) := (hba.block _ (by simp)).trans (by simpa using heap_alloc_new ((w.alloc (.cells #[.slice A0 d.now.st.length c0, .int .i64 d.now.step, .slice A2 d.now.word.length c2, .slice A3 d.past.length c3] 28)).alloc (.cells #[.int .i64 a.kind, .int .i64 a.a, .int .i64 a.b] 30)) _)
  have hza : w.heap.size + 2 < wa.heap.size := by have := hba.size; simp at this; omega
  clear hba
  have x0 := block_cell BXa 0 rfl
  have x1 := block_cell BXa 1 rfl
  have x2 := block_cell BXa 2 rfl
  have x3 := block_cell BXa 3 rfl
  go_wp2_with fail
  clear x0 x1 x2 x3
  refine (s_l15Copy _ d _ (DkI.mk i0.at i2.at i3.at) (by omega) (by omega) (by omega) (fun j hj => by have := HSM.out j hj; omega)).mono ?_
  rintro e w1 ⟨v1, rfl, ⟨f, hD⟩, hb1⟩
  obtain ⟨y0, y2, y3, rfl, hT0, hT2, hPs⟩ := hD
  obtain ⟨B0, e0, rfl⟩ := hT0.ints.form
  obtain ⟨B2, e2, rfl⟩ := hT2.ints.form
  obtain ⟨B3, e3, rfl⟩ := hPs.pls.form
  haveI b1 : Bel wa w1 := Bel.step (w := wa) hb1
  go_upto_region 4 with (fail)
  obtain ⟨W5, hW5⟩ : ∃ W5, W5 = w1.alloc (.cells #[.slice B0 d.now.st.length e0, .int .i64 d.now.step, .slice B2 d.now.word.length e2, .slice B3 d.past.length e3] 28) := ⟨_, rfl⟩
  rw [← hW5]
  haveI b5 : Bel w1 W5 := by rw [hW5]; exact Bel.alloc
  haveI ba5 : Bel wa W5 := Bel.step (w := wa) b5.out
  haveI bw5 : Bel w W5 := Bel.step (w := w) ba5.out
  have BO : W5.heap[w1.heap.size]? = some (.cells #[.slice B0 d.now.st.length e0, .int .i64 d.now.step, .slice B2 d.now.word.length e2, .slice B3 d.past.length e3] 28 (0, 0)) := by rw [hW5]; exact heap_alloc_new _ _
  have HDO : Hid (DkO W5 wa.heap.size w1.heap.size f (.agg #[.slice B0 d.now.st.length e0, .int .i64 d.now.step, .slice B2 d.now.word.length e2, .slice B3 d.past.length e3]) d) :=
    (DkO.kept (⟨_, _, _, rfl, hT0, hT2, hPs⟩ : DkO w1 wa.heap.size w1.heap.size f _ d) (fun k _ hk => b5.out.block k hk) : _)
  have hz1 : wa.heap.size ≤ w1.heap.size := hb1.size
  have hz5 : W5.heap.size = w1.heap.size + 1 := by rw [hW5]; simp
  have BX := block_at (W := W5) BXa
  have BD := block_at (W := W5) BDa
  have BR := block_at (W := W5) BRa
  have HZ5 := Lib.hid hz5
  clear hW5 hT0 hT2 hPs hb1 BXa BDa BRa hz5
  have x3 := block_cell BX 3 rfl
  have d0 := block_cell BD 0 rfl
  have d1 := block_cell BD 1 rfl
  have d2 := block_cell BD 2 rfl
  have x0 := block_cell BX 0 rfl
  have x1 := block_cell BX 1 rfl
  have x2 := block_cell BX 2 rfl
  have HMD := Lib.hid (fun w' h => s_l15Made (.agg #[.slice A0 d.now.st.length c0, .int .i64 d.now.step, .slice A2 d.now.word.length c2]) d.now a w' h (by omega) (by omega))
  rw [hq] at HMD
  go_wp2_with fail
  refine (HMD.out _ (PlI.mk i0.at i2.at)).mono ?_
  rintro e w7 ⟨v7, rfl, ⟨m0, m2, rfl, hM0, hM2⟩, hb7⟩
  obtain ⟨M0, n0, rfl⟩ := hM0.ints.form
  obtain ⟨M2, n2, rfl⟩ := hM2.ints.form
  haveI b7 : Bel W5 w7 := Bel.step (w := W5) hb7
  go_upto_region 10 with (fail)
  obtain ⟨W8, hW8⟩ : ∃ W8, W8 = w7.alloc (.cells #[.slice M0 q.st.length n0, .int .i64 q.step, .slice M2 q.word.length n2] 25) := ⟨_, rfl⟩
  rw [← hW8]
  haveI b8 : Bel w7 W8 := by rw [hW8]; exact Bel.alloc
  haveI b58 : Bel W5 W8 := Bel.step (w := W5) b8.out
  haveI bw8 : Bel w W8 := Bel.step (w := w) b58.out
  have BT : W8.heap[w7.heap.size]? = some (.cells #[.slice M0 q.st.length n0, .int .i64 q.step, .slice M2 q.word.length n2] 25 (0, 0)) := by rw [hW8]; exact heap_alloc_new _ _
  have HMI0 := Lib.hid (OwnI.at hM0 (w1 := W8))
  have HMI2 := Lib.hid (OwnI.at hM2 (w1 := W8))
  have hz7 : W5.heap.size ≤ w7.heap.size := hb7.size
  have hz8 : w7.heap.size + 1 = W8.heap.size := by rw [hW8]; simp
  have hz58 := HZ5.out
  clear x0 x1 x2 x3 d0 d1 d2
  have x0 := block_cell (block_at (W := W8) BX) 0 rfl
  have x1 := block_cell (block_at (W := W8) BX) 1 rfl
  have x2 := block_cell (block_at (W := W8) BX) 2 rfl
  have u0 := block_cell BT 0 rfl
  have u1 := block_cell BT 1 rfl
  have u2 := block_cell BT 2 rfl
  have HBT := Lib.hid BT; have HBX := Lib.hid BX; have HBO := Lib.hid BO; have HBR := Lib.hid BR; have HZ8 := Lib.hid hz8; have HZ58 := Lib.hid hz58
  clear hW8 BT BX BO BR BD hM0 hM2 hb7 HMD hz8 hz58
  refine PrintLast.start_ (n := 11) (S := fun w' => w'.cell? ⟨w.heap.size, 0, none⟩ = some (.slice A0 d.now.st.length c0) ∧ w'.cell? ⟨w.heap.size, 1, none⟩ = some (.int .i64 d.now.step) ∧ w'.cell? ⟨w.heap.size, 2, none⟩ = some (.slice A2 d.now.word.length c2) ∧ w'.cell? ⟨w7.heap.size, 0, none⟩ = some (.slice M0 q.st.length n0) ∧ w'.cell? ⟨w7.heap.size, 1, none⟩ = some (.int .i64 q.step) ∧ w'.cell? ⟨w7.heap.size, 2, none⟩ = some (.slice M2 q.word.length n2)) (ds := []) #[false, false, false, false, false, false, false, false, false, false, false] (by kernel_rfl) rfl rfl ⟨cell_at x0, cell_at x1, cell_at x2, cell_at u0, cell_at u1, cell_at u2⟩ (fun hHeld => ?_)
  refine PrintLast.take_ (i := 0) (N := (some 44)) (v := ?_) (a' := ?_) #[true, false, false, false, false, false, false, false, false, false, false] rfl rfl (by kernel_rfl) (fun _ _ _ h => h) (Or.inl ⟨by rfl, ?_⟩) hHeld ?_ ?_
  rotate_left
  · (rintro w' ⟨s0, s1, s2, s3, s4, s5⟩; go_simp; with_reducible rfl)
  rotate_left
  · (simp only [Act.put, List.setIfInBounds_toArray, List.set_cons_zero, List.set_cons_succ, PrintLast.i64_w, PrintLast.i32_w]; rfl)
  refine PrintLast.one_ (i := 1) (N := (some 45)) #[true, true, false, false, false, false, false, false, false, false, false] rfl rfl (by kernel_rfl) (by decide) (fun K hK => ?_)
  refine PrintLast.goes_ Tryd.func42 (by kernel_rfl) rfl #[.agg #[.slice M0 q.st.length n0, .int .i64 q.step, .slice M2 q.word.length n2]] (by rfl) rfl rfl (by (try simp only [List.map_toArray, List.map_cons, List.map_nil]); first | done | rfl) ?_
  refine (HPO.out _ _ (PlI.mk (OwnI.ints HMI0.out).at (OwnI.ints HMI2.out).at)).mono ?_
  rintro e w9 ⟨rfl, hb9⟩
  haveI : Bel W8 w9 := Bel.step (w := W8) hb9
  refine ⟨_, rfl, ?_⟩
  refine hK.out _ _ ⟨cell_at x0, cell_at x1, cell_at x2, cell_at u0, cell_at u1, cell_at u2⟩ (fun hHeld => ?_)
  clear hK K
  refine PrintLast.norm_ (a' := ?_) ?_ ?_
  rotate_left
  · (show Act.put _ (some 45) _ = _; simp only [Act.put, List.setIfInBounds_toArray, List.set_cons_zero, List.set_cons_succ, PrintLast.i64_w, PrintLast.i32_w]; rfl)
  refine PrintLast.pure_ (i := 2) (N := (some 46)) (v := ?_) (a' := ?_) #[true, true, true, false, false, false, false, false, false, false, false] rfl rfl (by kernel_rfl) (fun _ _ _ h => h) (Or.inl ⟨by rfl, ?_⟩) ?_ ?_
  rotate_left
  · (intro w'; go_simp; with_reducible rfl)
  rotate_left
  · (simp only [Act.put, List.setIfInBounds_toArray, List.set_cons_zero, List.set_cons_succ, PrintLast.i64_w, PrintLast.i32_w]; rfl)
  refine PrintLast.pure_ (i := 3) (N := (some 47)) (v := ?_) (a' := ?_) #[true, true, true, true, false, false, false, false, false, false, false] rfl rfl (by kernel_rfl) (fun _ _ _ h => h) (Or.inl ⟨by rfl, ?_⟩) ?_ ?_
  rotate_left
  · (intro w'; go_simp; with_reducible rfl)
  rotate_left
  · (simp only [Act.put, List.setIfInBounds_toArray, List.set_cons_zero, List.set_cons_succ, PrintLast.i64_w, PrintLast.i32_w]; rfl)
  refine PrintLast.pure_ (i := 4) (N := (some 48)) (v := undef) (a' := ?_) #[true, true, true, true, true, false, false, false, false, false, false] rfl rfl (by kernel_rfl) (fun _ _ _ h => h) (Or.inr ⟨by rfl, rfl⟩) ?_ ?_
  rotate_left
  · (simp only [Act.put, List.setIfInBounds_toArray, List.set_cons_zero, List.set_cons_succ, PrintLast.i64_w, PrintLast.i32_w]; rfl)
  refine PrintLast.pure_ (i := 5) (N := (some 49)) (v := undef) (a' := ?_) #[true, true, true, true, true, true, false, false, false, false, false] rfl rfl (by kernel_rfl) (fun _ _ _ h => h) (Or.inr ⟨by rfl, rfl⟩) ?_ ?_
  rotate_left
  · (simp only [Act.put, List.setIfInBounds_toArray, List.set_cons_zero, List.set_cons_succ, PrintLast.i64_w, PrintLast.i32_w]; rfl)
  refine PrintLast.pure_ (i := 6) (N := (some 50)) (v := undef) (a' := ?_) #[true, true, true, true, true, true, true, false, false, false, false] rfl rfl (by kernel_rfl) (fun _ _ _ h => h) (Or.inr ⟨by rfl, rfl⟩) ?_ ?_
  rotate_left
  · (simp only [Act.put, List.setIfInBounds_toArray, List.set_cons_zero, List.set_cons_succ, PrintLast.i64_w, PrintLast.i32_w]; rfl)
  refine PrintLast.pure_ (i := 7) (N := (some 51)) (v := undef) (a' := ?_) #[true, true, true, true, true, true, true, true, false, false, false] rfl rfl (by kernel_rfl) (fun _ _ _ h => h) (Or.inr ⟨by rfl, rfl⟩) ?_ ?_
  rotate_left
  · (simp only [Act.put, List.setIfInBounds_toArray, List.set_cons_zero, List.set_cons_succ, PrintLast.i64_w, PrintLast.i32_w]; rfl)
  refine PrintLast.pure_ (i := 8) (N := (some 52)) (v := undef) (a' := ?_) #[true, true, true, true, true, true, true, true, true, false, false] rfl rfl (by kernel_rfl) (fun _ _ _ h => h) (Or.inr ⟨by rfl, rfl⟩) ?_ ?_
  rotate_left
  · (simp only [Act.put, List.setIfInBounds_toArray, List.set_cons_zero, List.set_cons_succ, PrintLast.i64_w, PrintLast.i32_w]; rfl)
  refine PrintLast.pure_ (i := 9) (N := (some 53)) (v := undef) (a' := ?_) #[true, true, true, true, true, true, true, true, true, true, false] rfl rfl (by kernel_rfl) (fun _ _ _ h => h) (Or.inr ⟨by rfl, rfl⟩) ?_ ?_
  rotate_left
  · (simp only [Act.put, List.setIfInBounds_toArray, List.set_cons_zero, List.set_cons_succ, PrintLast.i64_w, PrintLast.i32_w]; rfl)
  refine PrintLast.pure_ (i := 10) (N := (some 54)) (v := ?_) (a' := ?_) #[true, true, true, true, true, true, true, true, true, true, true] rfl rfl (by kernel_rfl) (fun _ _ _ h => h) (Or.inl ⟨by rfl, ?_⟩) ?_ ?_
  rotate_left
  · (intro w'; go_simp; with_reducible rfl)
  rotate_left
  · (simp only [Act.put, List.setIfInBounds_toArray, List.set_cons_zero, List.set_cons_succ, PrintLast.i64_w, PrintLast.i32_w]; rfl)
  refine PrintLast.done_ (by kernel_rfl) ?_
  haveI bw9 : Bel W5 w9 := Bel.step (w := W5) (Bel.out : Below W8.heap.size W8 w9)
  haveI : Bel w w9 := Bel.step (w := w) bw9.out
  have RR := block_at (W := w9) HBR.out
  have r0 := block_cell RR 0 rfl
  have r1 := block_cell RR 1 rfl
  have r2 := block_cell RR 2 rfl
  have r3 := block_cell RR 3 rfl
  have f0 := block_frozen RR 0
  have f1 := block_frozen RR 1
  have f2 := block_frozen RR 2
  have f3 := block_frozen RR 3
  have OO := block_at (W := w9) HBO.out
  have o0 := block_cell OO 0 rfl
  have o1 := block_cell OO 1 rfl
  have o2 := block_cell OO 2 rfl
  have o3 := block_cell OO 3 rfl
  have HF := Lib.hid (((HDO.out.kept (w1 := w9) (fun k _ hk => bw9.out.block k (by have := HZ58.out; omega))).weak.set4 RR (by decide) (by decide) (.slice B0 d.now.st.length e0) (.int .i64 d.now.step) (.slice B2 d.now.word.length e2) (.slice B3 d.past.length e3)).stay (lo' := w.heap.size) (by omega) (by simp only [size_set4]; have := bw9.out.size; have := HZ58.out; omega))
  have HG := Lib.hid (((HDO.out.kept (w1 := w9) (fun k _ hk => bw9.out.block k (by have := HZ58.out; omega))).has.set4 RR (by decide) (by decide) (.slice B0 d.now.st.length e0) (.int .i64 d.now.step) (.slice B2 d.now.word.length e2) (.slice B3 d.past.length e3)).lo (lo' := w.heap.size) (by omega))
  have HB : Hid (Below w.heap.size w (set4 w9 (w.heap.size + 2) (.slice B0 d.now.st.length e0) (.int .i64 d.now.step) (.slice B2 d.now.word.length e2) (.slice B3 d.past.length e3))) := below_set4 Bel.out (by omega) _ _ _ _
  clear RR OO x0 x1 x2 u0 u1 u2
  go_wp2
  exact bodyPost_ret (v := .tuple #[.agg #[.slice B0 d.now.st.length e0, .int .i64 d.now.step, .slice B2 d.now.word.length e2, .slice B3 d.past.length e3], .bool false]) (by simp [results, Tryd.results9, go_sem, r0, r1, r2, r3]) rfl ⟨_, by rw [HD.out.2], by rw [HD.out.1]; exact ⟨HF.out, fun _ => HG.out⟩, HB.out⟩

set_option maxHeartbeats 1000000 in
set_option maxRecDepth 100000 in
theorem s_do_same (d : Dk) (a : Dd) (q : Pl) (hq : madeOf d.now a = q) (w : World) (A0 A2 A3 : Option Addr) (c0 c2 c3 : Nat) (i0 : Ints w (.slice A0 d.now.st.length c0) d.now.st) (i2 : Ints w (.slice A2 d.now.word.length c2) d.now.word) (i3 : Pls w (.slice A3 d.past.length c3) d.past) (hok : deskOk d = true)
    (hk : (a.kind == 4) = false) (hqo : placeOk q = true) (hqt : placeT q = placeT d.now) :
    Calls Tryd.prog 9 #[.agg #[.slice A0 d.now.st.length c0, .int .i64 d.now.step, .slice A2 d.now.word.length c2, .slice A3 d.past.length c3], .agg #[.int .i64 a.kind, .int .i64 a.a, .int .i64 a.b]] w
      fun e w' => ∃ v', e = .returned (.tuple #[v', .bool (doOk d a)]) ∧ DkP w' w.heap.size v' (doDesk d a) d.past.length ∧ Below w.heap.size w w' := by
  have hn : (!deskOk d) = false := by simp [hok]
  have HPO := Lib.hid (placeOk_is hqo)
  have HD := Lib.hid (do_not hok (back_kind (by simpa using hk)) (by rw [hq]; simp [took, hqt]))
  obtain ⟨hs1, hs2, hs3, hs4⟩ := desk_small hok
  have HSM := Lib.hid hs4
  have HQT := Lib.hid hqt
  clear hok hs4 hqo hqt
  go_enter Tryd.func9, Tryd.ntmps9
  go_wp2_with fail
  refine (s_DeskOk _ d _ (DkI.mk i0.at i2.at i3.at)).mono ?_
  rintro e wa ⟨rfl, hba⟩
  haveI ba : Bel w wa := Bel.step (w := w) hba
  have BXa : wa.heap[w.heap.size]? = some (.cells #[.slice A0 d.now.st.length c0, .int .i64 d.now.step, .slice A2 d.now.word.length c2, .slice A3 d.past.length c3] 28 (0, 0)) := (hba.block _ (by simp <;> omega)).trans ((heap_alloc_old _ _ (by simp <;> omega)).trans ((heap_alloc_old _ _ (by simp)).trans (heap_alloc_new w _)))
  have BDa : wa.heap[w.heap.size + 1]? = some (.cells #[.int .i64 a.kind, .int .i64 a.a, .int .i64 a.b] 30 (0, 0)) := (hba.block _ (by simp <;> omega)).trans ((heap_alloc_old _ _ (by simp)).trans (by simpa using heap_alloc_new (w.alloc (.cells #[.slice A0 d.now.st.length c0, .int .i64 d.now.step, .slice A2 d.now.word.length c2, .slice A3 d.past.length c3] 28)) _))
  have BRa : wa.heap[w.heap.size + 2]? = some (.cells #[.slice none 0 0, .int .i64 0, .slice none 0 0, .slice none 0 0] 28 (0, 0)) := (hba.block _ (by simp)).trans (by simpa using heap_alloc_new ((w.alloc (.cells #[.slice A0 d.now.st.length c0, .int .i64 d.now.step, .slice A2 d.now.word.length c2, .slice A3 d.past.length c3] 28)).alloc (.cells #[.int .i64 a.kind, .int .i64 a.a, .int .i64 a.b] 30)) _)
  have hza : w.heap.size + 2 < wa.heap.size := by have := hba.size; simp at this; omega
  clear hba
  have x0 := block_cell BXa 0 rfl
  have x1 := block_cell BXa 1 rfl
  have x2 := block_cell BXa 2 rfl
  have x3 := block_cell BXa 3 rfl
  go_wp2_with fail
  clear x0 x1 x2 x3
  refine (s_l15Copy _ d _ (DkI.mk i0.at i2.at i3.at) (by omega) (by omega) (by omega) (fun j hj => by have := HSM.out j hj; omega)).mono ?_
  rintro e w1 ⟨v1, rfl, ⟨f, hD⟩, hb1⟩
  obtain ⟨y0, y2, y3, rfl, hT0, hT2, hPs⟩ := hD
  obtain ⟨B0, e0, rfl⟩ := hT0.ints.form
  obtain ⟨B2, e2, rfl⟩ := hT2.ints.form
  obtain ⟨B3, e3, rfl⟩ := hPs.pls.form
  haveI b1 : Bel wa w1 := Bel.step (w := wa) hb1
  go_upto_region 4 with (fail)
  obtain ⟨W5, hW5⟩ : ∃ W5, W5 = w1.alloc (.cells #[.slice B0 d.now.st.length e0, .int .i64 d.now.step, .slice B2 d.now.word.length e2, .slice B3 d.past.length e3] 28) := ⟨_, rfl⟩
  rw [← hW5]
  haveI b5 : Bel w1 W5 := by rw [hW5]; exact Bel.alloc
  haveI ba5 : Bel wa W5 := Bel.step (w := wa) b5.out
  haveI bw5 : Bel w W5 := Bel.step (w := w) ba5.out
  have BO : W5.heap[w1.heap.size]? = some (.cells #[.slice B0 d.now.st.length e0, .int .i64 d.now.step, .slice B2 d.now.word.length e2, .slice B3 d.past.length e3] 28 (0, 0)) := by rw [hW5]; exact heap_alloc_new _ _
  have HDO : Hid (DkO W5 wa.heap.size w1.heap.size f (.agg #[.slice B0 d.now.st.length e0, .int .i64 d.now.step, .slice B2 d.now.word.length e2, .slice B3 d.past.length e3]) d) :=
    (DkO.kept (⟨_, _, _, rfl, hT0, hT2, hPs⟩ : DkO w1 wa.heap.size w1.heap.size f _ d) (fun k _ hk => b5.out.block k hk) : _)
  have hz1 : wa.heap.size ≤ w1.heap.size := hb1.size
  have hz5 : W5.heap.size = w1.heap.size + 1 := by rw [hW5]; simp
  have BX := block_at (W := W5) BXa
  have BD := block_at (W := W5) BDa
  have BR := block_at (W := W5) BRa
  have HZ5 := Lib.hid hz5
  clear hW5 hT0 hT2 hPs hb1 BXa BDa BRa hz5
  have x3 := block_cell BX 3 rfl
  have d0 := block_cell BD 0 rfl
  have d1 := block_cell BD 1 rfl
  have d2 := block_cell BD 2 rfl
  have x0 := block_cell BX 0 rfl
  have x1 := block_cell BX 1 rfl
  have x2 := block_cell BX 2 rfl
  have HMD := Lib.hid (fun w' h => s_l15Made (.agg #[.slice A0 d.now.st.length c0, .int .i64 d.now.step, .slice A2 d.now.word.length c2]) d.now a w' h (by omega) (by omega))
  rw [hq] at HMD
  go_wp2_with fail
  refine (HMD.out _ (PlI.mk i0.at i2.at)).mono ?_
  rintro e w7 ⟨v7, rfl, ⟨m0, m2, rfl, hM0, hM2⟩, hb7⟩
  obtain ⟨M0, n0, rfl⟩ := hM0.ints.form
  obtain ⟨M2, n2, rfl⟩ := hM2.ints.form
  haveI b7 : Bel W5 w7 := Bel.step (w := W5) hb7
  go_upto_region 10 with (fail)
  obtain ⟨W8, hW8⟩ : ∃ W8, W8 = w7.alloc (.cells #[.slice M0 q.st.length n0, .int .i64 q.step, .slice M2 q.word.length n2] 25) := ⟨_, rfl⟩
  rw [← hW8]
  haveI b8 : Bel w7 W8 := by rw [hW8]; exact Bel.alloc
  haveI b58 : Bel W5 W8 := Bel.step (w := W5) b8.out
  haveI bw8 : Bel w W8 := Bel.step (w := w) b58.out
  have BT : W8.heap[w7.heap.size]? = some (.cells #[.slice M0 q.st.length n0, .int .i64 q.step, .slice M2 q.word.length n2] 25 (0, 0)) := by rw [hW8]; exact heap_alloc_new _ _
  have HMI0 := Lib.hid (OwnI.at hM0 (w1 := W8))
  have HMI2 := Lib.hid (OwnI.at hM2 (w1 := W8))
  have hz7 : W5.heap.size ≤ w7.heap.size := hb7.size
  have hz8 : w7.heap.size + 1 = W8.heap.size := by rw [hW8]; simp
  have hz58 := HZ5.out
  clear x0 x1 x2 x3 d0 d1 d2
  have x0 := block_cell (block_at (W := W8) BX) 0 rfl
  have x1 := block_cell (block_at (W := W8) BX) 1 rfl
  have x2 := block_cell (block_at (W := W8) BX) 2 rfl
  have u0 := block_cell BT 0 rfl
  have u1 := block_cell BT 1 rfl
  have u2 := block_cell BT 2 rfl
  have HBT := Lib.hid BT; have HBX := Lib.hid BX; have HBO := Lib.hid BO; have HBR := Lib.hid BR; have HZ8 := Lib.hid hz8; have HZ58 := Lib.hid hz58
  clear hW8 BT BX BO BR BD hM0 hM2 hb7 HMD hz8 hz58
  go_region_held3 (fun w' => w'.cell? ⟨w.heap.size, 0, none⟩ = some (.slice A0 d.now.st.length c0) ∧ w'.cell? ⟨w.heap.size, 1, none⟩ = some (.int .i64 d.now.step) ∧ w'.cell? ⟨w.heap.size, 2, none⟩ = some (.slice A2 d.now.word.length c2) ∧
      w'.cell? ⟨w7.heap.size, 0, none⟩ = some (.slice M0 q.st.length n0) ∧ w'.cell? ⟨w7.heap.size, 1, none⟩ = some (.int .i64 q.step) ∧ w'.cell? ⟨w7.heap.size, 2, none⟩ = some (.slice M2 q.word.length n2))
    (exact ⟨cell_at x0, cell_at x1, cell_at x2, cell_at u0, cell_at u1, cell_at u2⟩)
    (first
      | (go_at_call 42; refine (HPO.out _ _ (PlI.mk (OwnI.ints HMI0.out).at (OwnI.ints HMI2.out).at)).mono ?_; rintro e w9 ⟨rfl, hb9⟩; haveI : Bel W8 w9 := Bel.step (w := W8) hb9; haveI : Bel w w9 := Bel.step (w := w) hb9)
      | (go_at_call_of 43 (Value.agg #[.slice M0 q.st.length n0, .int .i64 q.step, .slice M2 q.word.length n2]); refine (s_PlaceText _ q _ (PlI.mk (OwnI.ints HMI0.out).at (OwnI.ints HMI2.out).at)).mono ?_; rintro e wb ⟨rfl, hbb⟩; haveI : Bel W8 wb := Bel.step (w := W8) hbb; haveI : Bel w wb := Bel.step (w := w) hbb)
      | (go_at_call_of 43 (Value.agg #[.slice A0 d.now.st.length c0, .int .i64 d.now.step, .slice A2 d.now.word.length c2]); refine (s_PlaceText _ d.now _ (PlI.mk i0.at i2.at)).mono ?_; rintro e wc ⟨rfl, hbc⟩; haveI : Bel W8 wc := Bel.step (w := W8) hbc))
  rw [show (placeT q == placeT d.now) = true from by simp [HQT.out]]
  haveI bw9 : Bel W5 wc := Bel.step (w := W5) (Bel.out : Below W8.heap.size W8 wc)
  haveI : Bel w wc := Bel.step (w := w) bw9.out
  have RR := block_at (W := wc) HBR.out
  have r0 := block_cell RR 0 rfl
  have r1 := block_cell RR 1 rfl
  have r2 := block_cell RR 2 rfl
  have r3 := block_cell RR 3 rfl
  have f0 := block_frozen RR 0
  have f1 := block_frozen RR 1
  have f2 := block_frozen RR 2
  have f3 := block_frozen RR 3
  have OO := block_at (W := wc) HBO.out
  have o0 := block_cell OO 0 rfl
  have o1 := block_cell OO 1 rfl
  have o2 := block_cell OO 2 rfl
  have o3 := block_cell OO 3 rfl
  have HF := Lib.hid (((HDO.out.kept (w1 := wc) (fun k _ hk => bw9.out.block k (by have := HZ58.out; omega))).weak.set4 RR (by decide) (by decide) (.slice B0 d.now.st.length e0) (.int .i64 d.now.step) (.slice B2 d.now.word.length e2) (.slice B3 d.past.length e3)).stay (lo' := w.heap.size) (by omega) (by simp only [size_set4]; have := bw9.out.size; have := HZ58.out; omega))
  have HG := Lib.hid (((HDO.out.kept (w1 := wc) (fun k _ hk => bw9.out.block k (by have := HZ58.out; omega))).has.set4 RR (by decide) (by decide) (.slice B0 d.now.st.length e0) (.int .i64 d.now.step) (.slice B2 d.now.word.length e2) (.slice B3 d.past.length e3)).lo (lo' := w.heap.size) (by omega))
  have HB : Hid (Below w.heap.size w (set4 wc (w.heap.size + 2) (.slice B0 d.now.st.length e0) (.int .i64 d.now.step) (.slice B2 d.now.word.length e2) (.slice B3 d.past.length e3))) := below_set4 Bel.out (by omega) _ _ _ _
  clear RR OO x0 x1 x2 u0 u1 u2
  go_wp2
  exact bodyPost_ret (v := .tuple #[.agg #[.slice B0 d.now.st.length e0, .int .i64 d.now.step, .slice B2 d.now.word.length e2, .slice B3 d.past.length e3], .bool false]) (by simp [results, Tryd.results9, go_sem, r0, r1, r2, r3]) rfl ⟨_, by rw [HD.out.2], by rw [HD.out.1]; exact ⟨HF.out, fun _ => HG.out⟩, HB.out⟩


set_option maxHeartbeats 1000000 in
set_option maxRecDepth 100000 in
theorem s_do_took (d : Dk) (a : Dd) (q : Pl) (hq : madeOf d.now a = q) (w : World) (A0 A2 A3 : Option Addr) (c0 c2 c3 : Nat) (i0 : Ints w (.slice A0 d.now.st.length c0) d.now.st) (i2 : Ints w (.slice A2 d.now.word.length c2) d.now.word) (i3 : Pls w (.slice A3 d.past.length c3) d.past) (hok : deskOk d = true)
    (hk : (a.kind == 4) = false) (hqo : placeOk q = true) (hqt : ¬ placeT q = placeT d.now) :
    Calls Tryd.prog 9 #[.agg #[.slice A0 d.now.st.length c0, .int .i64 d.now.step, .slice A2 d.now.word.length c2, .slice A3 d.past.length c3], .agg #[.int .i64 a.kind, .int .i64 a.a, .int .i64 a.b]] w
      fun e w' => ∃ v', e = .returned (.tuple #[v', .bool (doOk d a)]) ∧ DkP w' w.heap.size v' (doDesk d a) d.past.length ∧ Below w.heap.size w w' := by
  have hn : (!deskOk d) = false := by simp [hok]
  have HPO := Lib.hid (placeOk_is hqo)
  have HD := Lib.hid (do_took hok (back_kind (by simpa using hk)) (by rw [hq]; simp [took, hqo, hqt]))
  rw [hq] at HD
  obtain ⟨hs1, hs2, hs3, hs4⟩ := desk_small hok
  have HSM := Lib.hid hs4
  have HQT := Lib.hid hqt
  clear hok hs4 hqo hqt
  go_enter Tryd.func9, Tryd.ntmps9
  go_wp2_with fail
  refine (s_DeskOk _ d _ (DkI.mk i0.at i2.at i3.at)).mono ?_
  rintro e wa ⟨rfl, hba⟩
  haveI ba : Bel w wa := Bel.step (w := w) hba
  have BXa : wa.heap[w.heap.size]? = some (.cells #[.slice A0 d.now.st.length c0, .int .i64 d.now.step, .slice A2 d.now.word.length c2, .slice A3 d.past.length c3] 28 (0, 0)) := (hba.block _ (by simp <;> omega)).trans ((heap_alloc_old _ _ (by simp <;> omega)).trans ((heap_alloc_old _ _ (by simp)).trans (heap_alloc_new w _)))
  have BDa : wa.heap[w.heap.size + 1]? = some (.cells #[.int .i64 a.kind, .int .i64 a.a, .int .i64 a.b] 30 (0, 0)) := (hba.block _ (by simp <;> omega)).trans ((heap_alloc_old _ _ (by simp)).trans (by simpa using heap_alloc_new (w.alloc (.cells #[.slice A0 d.now.st.length c0, .int .i64 d.now.step, .slice A2 d.now.word.length c2, .slice A3 d.past.length c3] 28)) _))
  have BRa : wa.heap[w.heap.size + 2]? = some (.cells #[.slice none 0 0, .int .i64 0, .slice none 0 0, .slice none 0 0] 28 (0, 0)) := (hba.block _ (by simp)).trans (by simpa using heap_alloc_new ((w.alloc (.cells #[.slice A0 d.now.st.length c0, .int .i64 d.now.step, .slice A2 d.now.word.length c2, .slice A3 d.past.length c3] 28)).alloc (.cells #[.int .i64 a.kind, .int .i64 a.a, .int .i64 a.b] 30)) _)
  have hza : w.heap.size + 2 < wa.heap.size := by have := hba.size; simp at this; omega
  clear hba
  have x0 := block_cell BXa 0 rfl
  have x1 := block_cell BXa 1 rfl
  have x2 := block_cell BXa 2 rfl
  have x3 := block_cell BXa 3 rfl
  go_wp2_with fail
  clear x0 x1 x2 x3
  refine (s_l15Copy _ d _ (DkI.mk i0.at i2.at i3.at) (by omega) (by omega) (by omega) (fun j hj => by have := HSM.out j hj; omega)).mono ?_
  rintro e w1 ⟨v1, rfl, ⟨f, hD⟩, hb1⟩
  obtain ⟨y0, y2, y3, rfl, hT0, hT2, hPs⟩ := hD
  obtain ⟨B0, e0, rfl⟩ := hT0.ints.form
  obtain ⟨B2, e2, rfl⟩ := hT2.ints.form
  obtain ⟨B3, e3, rfl⟩ := hPs.pls.form
  haveI b1 : Bel wa w1 := Bel.step (w := wa) hb1
  go_upto_region 4 with (fail)
  obtain ⟨W5, hW5⟩ : ∃ W5, W5 = w1.alloc (.cells #[.slice B0 d.now.st.length e0, .int .i64 d.now.step, .slice B2 d.now.word.length e2, .slice B3 d.past.length e3] 28) := ⟨_, rfl⟩
  rw [← hW5]
  haveI b5 : Bel w1 W5 := by rw [hW5]; exact Bel.alloc
  haveI ba5 : Bel wa W5 := Bel.step (w := wa) b5.out
  haveI bw5 : Bel w W5 := Bel.step (w := w) ba5.out
  have BO : W5.heap[w1.heap.size]? = some (.cells #[.slice B0 d.now.st.length e0, .int .i64 d.now.step, .slice B2 d.now.word.length e2, .slice B3 d.past.length e3] 28 (0, 0)) := by rw [hW5]; exact heap_alloc_new _ _
  have HDO : Hid (DkO W5 wa.heap.size w1.heap.size f (.agg #[.slice B0 d.now.st.length e0, .int .i64 d.now.step, .slice B2 d.now.word.length e2, .slice B3 d.past.length e3]) d) :=
    (DkO.kept (⟨_, _, _, rfl, hT0, hT2, hPs⟩ : DkO w1 wa.heap.size w1.heap.size f _ d) (fun k _ hk => b5.out.block k hk) : _)
  have hz1 : wa.heap.size ≤ w1.heap.size := hb1.size
  have hz5 : W5.heap.size = w1.heap.size + 1 := by rw [hW5]; simp
  have BX := block_at (W := W5) BXa
  have BD := block_at (W := W5) BDa
  have BR := block_at (W := W5) BRa
  have HZ5 := Lib.hid hz5
  clear hW5 hT0 hT2 hPs hb1 BXa BDa BRa hz5
  have x3 := block_cell BX 3 rfl
  have d0 := block_cell BD 0 rfl
  have d1 := block_cell BD 1 rfl
  have d2 := block_cell BD 2 rfl
  have x0 := block_cell BX 0 rfl
  have x1 := block_cell BX 1 rfl
  have x2 := block_cell BX 2 rfl
  have HMD := Lib.hid (fun w' h => s_l15Made (.agg #[.slice A0 d.now.st.length c0, .int .i64 d.now.step, .slice A2 d.now.word.length c2]) d.now a w' h (by omega) (by omega))
  rw [hq] at HMD
  go_wp2_with fail
  refine (HMD.out _ (PlI.mk i0.at i2.at)).mono ?_
  rintro e w7 ⟨v7, rfl, ⟨m0, m2, rfl, hM0, hM2⟩, hb7⟩
  obtain ⟨M0, n0, rfl⟩ := hM0.ints.form
  obtain ⟨M2, n2, rfl⟩ := hM2.ints.form
  haveI b7 : Bel W5 w7 := Bel.step (w := W5) hb7
  go_upto_region 10 with (fail)
  obtain ⟨W8, hW8⟩ : ∃ W8, W8 = w7.alloc (.cells #[.slice M0 q.st.length n0, .int .i64 q.step, .slice M2 q.word.length n2] 25) := ⟨_, rfl⟩
  rw [← hW8]
  haveI b8 : Bel w7 W8 := by rw [hW8]; exact Bel.alloc
  haveI b58 : Bel W5 W8 := Bel.step (w := W5) b8.out
  haveI bw8 : Bel w W8 := Bel.step (w := w) b58.out
  have BT : W8.heap[w7.heap.size]? = some (.cells #[.slice M0 q.st.length n0, .int .i64 q.step, .slice M2 q.word.length n2] 25 (0, 0)) := by rw [hW8]; exact heap_alloc_new _ _
  have HMI0 := Lib.hid (OwnI.at hM0 (w1 := W8))
  have HMI2 := Lib.hid (OwnI.at hM2 (w1 := W8))
  have hz7 : W5.heap.size ≤ w7.heap.size := hb7.size
  have hz8 : w7.heap.size + 1 = W8.heap.size := by rw [hW8]; simp
  have hz58 := HZ5.out
  clear x0 x1 x2 x3 d0 d1 d2
  have x0 := block_cell (block_at (W := W8) BX) 0 rfl
  have x1 := block_cell (block_at (W := W8) BX) 1 rfl
  have x2 := block_cell (block_at (W := W8) BX) 2 rfl
  have u0 := block_cell BT 0 rfl
  have u1 := block_cell BT 1 rfl
  have u2 := block_cell BT 2 rfl
  have HBT := Lib.hid BT; have HBX := Lib.hid BX; have HBO := Lib.hid BO; have HBR := Lib.hid BR; have HZ8 := Lib.hid hz8; have HZ58 := Lib.hid hz58
  clear hW8 BT BX BO BR BD hM0 hM2 hb7 HMD hz8 hz58
  go_region_held3 (fun w' => w'.cell? ⟨w.heap.size, 0, none⟩ = some (.slice A0 d.now.st.length c0) ∧ w'.cell? ⟨w.heap.size, 1, none⟩ = some (.int .i64 d.now.step) ∧ w'.cell? ⟨w.heap.size, 2, none⟩ = some (.slice A2 d.now.word.length c2) ∧
      w'.cell? ⟨w7.heap.size, 0, none⟩ = some (.slice M0 q.st.length n0) ∧ w'.cell? ⟨w7.heap.size, 1, none⟩ = some (.int .i64 q.step) ∧ w'.cell? ⟨w7.heap.size, 2, none⟩ = some (.slice M2 q.word.length n2))
    (exact ⟨cell_at x0, cell_at x1, cell_at x2, cell_at u0, cell_at u1, cell_at u2⟩)
    (first
      | (go_at_call 42; refine (HPO.out _ _ (PlI.mk (OwnI.ints HMI0.out).at (OwnI.ints HMI2.out).at)).mono ?_; rintro e w9 ⟨rfl, hb9⟩; haveI : Bel W8 w9 := Bel.step (w := W8) hb9; haveI : Bel w w9 := Bel.step (w := w) hb9)
      | (go_at_call_of 43 (Value.agg #[.slice M0 q.st.length n0, .int .i64 q.step, .slice M2 q.word.length n2]); refine (s_PlaceText _ q _ (PlI.mk (OwnI.ints HMI0.out).at (OwnI.ints HMI2.out).at)).mono ?_; rintro e wb ⟨rfl, hbb⟩; haveI : Bel W8 wb := Bel.step (w := W8) hbb; haveI : Bel w wb := Bel.step (w := w) hbb)
      | (go_at_call_of 43 (Value.agg #[.slice A0 d.now.st.length c0, .int .i64 d.now.step, .slice A2 d.now.word.length c2]); refine (s_PlaceText _ d.now _ (PlI.mk i0.at i2.at)).mono ?_; rintro e wc ⟨rfl, hbc⟩; haveI : Bel W8 wc := Bel.step (w := W8) hbc))
  rw [show (placeT q == placeT d.now) = false from by simp [HQT.out]]
  haveI bw9 : Bel W5 wc := Bel.step (w := W5) (Bel.out : Below W8.heap.size W8 wc)
  haveI bwc : Bel w wc := Bel.step (w := w) bw9.out
  have hz9 : W8.heap.size ≤ wc.heap.size := (Bel.out : Below W8.heap.size W8 wc).size
  have OO := block_at (W := wc) HBO.out
  have o0 := block_cell OO 0 rfl
  have o1 := block_cell OO 1 rfl
  have o2 := block_cell OO 2 rfl
  have o3 := block_cell OO 3 rfl
  have hDc := (HDO.out.kept (w1 := wc) (fun k _ hk => bw9.out.block k (by have := HZ58.out; omega))).parts
  have HOO := Lib.hid OO
  have HZ9 := Lib.hid hz9
  clear x0 x1 x2 u0 u1 u2 OO hz9
  obtain ⟨hT0, hT2, es, hes1, hes2, hes3⟩ := hDc
  have HT0 := Lib.hid hT0; have HT2 := Lib.hid hT2; have HE1 := Lib.hid hes1; have HE2 := Lib.hid hes2; have HE3 := Lib.hid hes3
  clear hT0 hT2 hes1 hes2 hes3
  go_upto_region 12 with (fail)
  go_wp2_with (at_builtin; refine stop ?_)
  refine go_on ?_
  have hal : Bel wc (wc.alloc (.cells #[.slice B0 d.now.st.length e0, .int .i64 d.now.step, .slice B2 d.now.word.length e2] 25)) := Bel.alloc
  have hown := own_below HE1.out hal.out
  refine app_list eP rfl _ _ rfl wa.heap.size (.slice B3 d.past.length e3) d.past.length es rfl hown wc.heap.size 1 1 #[.slice B0 d.now.st.length e0, .int .i64 d.now.step, .slice B2 d.now.word.length e2] rfl (heap_alloc_new wc _) rfl (by simp [Value.oneCell']) (by omega) (by omega) (by omega) (by have := HZ9.out; have := HZ8.out; have := HZ58.out; simp; omega) ?_
  intro g cap w3 hown3 hgr hat
  have BO3 := block_other (block_at (W := wc.alloc (.cells #[.slice B0 d.now.st.length e0, .int .i64 d.now.step, .slice B2 d.now.word.length e2] 25)) HOO.out) hown hgr (by decide)
  have BR3 := block_other (block_at (W := wc.alloc (.cells #[.slice B0 d.now.st.length e0, .int .i64 d.now.step, .slice B2 d.now.word.length e2] 25)) (block_at (W := wc) HBR.out)) hown hgr (by decide)
  have BT3 : w3.heap[w7.heap.size]? = some (.cells #[.slice M0 q.st.length n0, .int .i64 q.step, .slice M2 q.word.length n2] 25 (0, 0)) :=
    (hgr.block _ (by have := HZ8.out; have := HZ9.out; simp; omega) (fun e => by have := HE2.out _ e.symm; have := HZ58.out; omega)).trans (block_at (block_at (W := wc) HBT.out))
  have HPS := HasPs.push (p := d.now) hown (fun j hj => by
      obtain ⟨a0, a2, k0, k1, k2, k3, k4⟩ := HE3.out j hj
      exact ⟨a0, a2, k0, k1, k2, k3.kept (fun i _ hi => hal.out.block i (by have := HZ9.out; have := HZ8.out; have := HZ58.out; omega)), k4.kept (fun i _ hi => hal.out.block i (by have := HZ9.out; have := HZ8.out; have := HZ58.out; omega))⟩)
    (OwnI.at HT0.out.1 (b := hal)) (OwnI.at HT2.out.1 (b := hal)) (Nat.le_refl _) (Nat.le_refl _) hgr hown3
  have hM0 := own_other (OwnI.at (OwnI.at HMI0.out (w1 := wc)) (b := hal)) hown hgr (by decide)
  have hM2 := own_other (OwnI.at (OwnI.at HMI2.out (w1 := wc)) (b := hal)) hown hgr (by decide)
  have hB3 : Below w.heap.size w w3 := Below.grown ((Bel.out : Below w.heap.size w wc).trans (hal.out.mono (Bel.out : Below w.heap.size w wc).size) : Below w.heap.size w (wc.alloc (.cells #[.slice B0 d.now.st.length e0, .int .i64 d.now.step, .slice B2 d.now.word.length e2] 25))) hgr (by have := HZ9.out; have := HZ8.out; have := HZ58.out; simp; omega) (fun k e => by have := (World.ownsRow.lt hown k e).1; omega)
  have hgc : d.past.length + 1 ≤ cap := by
    obtain ⟨_, ⟨e, _⟩ | ⟨_, _, _, e, _, _, hc, _⟩⟩ := hown3
    · cases e
    · cases e; exact hc
  have HX := Lib.hid (Fin.mk BO3 BR3 HPS (OwnI.mono (lo' := w.heap.size) hM0 (by have := HZ58.out; omega)) (OwnI.mono (lo' := w.heap.size) hM2 (by have := HZ58.out; omega)) hB3)
  have HBT3 := Lib.hid BT3
  have o3 := block_cell BO3 3 rfl
  have p3 := block_frozen BO3 3
  have gne : w7.heap.size ≠ w1.heap.size := by have := HZ58.out; omega
  have GNE := Lib.hid gne
  clear BO3 BR3 BT3 HPS hM0 hM2 hB3 hown hown3 hgr hat gne
  go_upto_region 13 with (fail)
  obtain ⟨W10, hW10⟩ : ∃ W10, W10 = w3.setCell ⟨w1.heap.size, 3, none⟩ (.slice (some ⟨g, 0, none⟩) (d.past.length + 1) cap) := ⟨_, rfl⟩
  rw [← hW10]
  have HY := Lib.hid (HX.out.set (by omega) (by omega) 3 (.slice (some ⟨g, 0, none⟩) (d.past.length + 1) cap))
  have BT10 : W10.heap[w7.heap.size]? = some (.cells #[.slice M0 q.st.length n0, .int .i64 q.step, .slice M2 q.word.length n2] 25 (0, 0)) := by rw [hW10]; exact block_far HBT3.out GNE.out
  rw [← hW10] at HY
  clear hW10 o3 p3
  have o3 : W10.cell? ⟨w1.heap.size, 3, none⟩ = some (.slice (some ⟨g, 0, none⟩) (d.past.length + 1) cap) := block_cell HY.out.out 3 rfl
  have p0 := block_frozen HY.out.out 0
  have p1 := block_frozen HY.out.out 1
  have p2 := block_frozen HY.out.out 2
  have p3 := block_frozen HY.out.out 3
  have o0 : W10.cell? ⟨w1.heap.size, 0, none⟩ = some (.slice B0 d.now.st.length e0) := block_cell HY.out.out 0 rfl
  have o1 : W10.cell? ⟨w1.heap.size, 1, none⟩ = some (.int .i64 d.now.step) := block_cell HY.out.out 1 rfl
  have o2 : W10.cell? ⟨w1.heap.size, 2, none⟩ = some (.slice B2 d.now.word.length e2) := block_cell HY.out.out 2 rfl
  have u0 := block_cell BT10 0 rfl
  have u1 := block_cell BT10 1 rfl
  have u2 := block_cell BT10 2 rfl
  clear BT10
  have gne := GNE.out
  have RNE : Hid (w.heap.size + 2 ≠ w1.heap.size) := by show _ ≠ _; omega
  have RLE : Hid (w.heap.size ≤ w1.heap.size) := by show _ ≤ _; omega
  by_cases hl : 8 < d.past.length + 1
  · have h1c : 1 < cap := by omega
    have HPP := Lib.hid (pushPast_long (p := d.now) hl)
    go_upto_region 16 with (fail)
    obtain ⟨W12, hW12⟩ : ∃ W12, W12 = ((((W10.setCell ⟨w1.heap.size, 3, none⟩ (.slice (some ⟨g, 3, none⟩) d.past.length (cap - 1))).setCell ⟨w1.heap.size, 0, none⟩ (.slice M0 q.st.length n0)).setCell ⟨w1.heap.size, 1, none⟩ (.int .i64 q.step)).setCell ⟨w1.heap.size, 2, none⟩ (.slice M2 q.word.length n2)) := ⟨_, rfl⟩
    rw [← hW12]
    have HF := Lib.hid ((((HY.out.set RNE.out RLE.out 3 (.slice (some ⟨g, 3, none⟩) d.past.length (cap - 1))).set RNE.out RLE.out 0 (.slice M0 q.st.length n0)).set RNE.out RLE.out 1 (.int .i64 q.step)).set RNE.out RLE.out 2 (.slice M2 q.word.length n2))
    rw [← hW12] at HF
    clear o0 o1 o2 o3 p0 p1 p2 p3 u0 u1 u2
    have o0 : W12.cell? ⟨w1.heap.size, 0, none⟩ = some (.slice M0 q.st.length n0) := block_cell HF.out.out 0 rfl
    have o1 : W12.cell? ⟨w1.heap.size, 1, none⟩ = some (.int .i64 q.step) := block_cell HF.out.out 1 rfl
    have o2 : W12.cell? ⟨w1.heap.size, 2, none⟩ = some (.slice M2 q.word.length n2) := block_cell HF.out.out 2 rfl
    have o3 : W12.cell? ⟨w1.heap.size, 3, none⟩ = some (.slice (some ⟨g, 3, none⟩) d.past.length (cap - 1)) := block_cell HF.out.out 3 rfl
    have RR := HF.out.res
    have r0 := block_cell RR 0 rfl
    have r1 := block_cell RR 1 rfl
    have r2 := block_cell RR 2 rfl
    have r3 := block_cell RR 3 rfl
    have f0 := block_frozen RR 0
    have f1 := block_frozen RR 1
    have f2 := block_frozen RR 2
    have f3 := block_frozen RR 3
    have HP4 := Lib.hid (HF.out.past.set4 RR (by decide) (by decide) (.slice M0 q.st.length n0) (.int .i64 q.step) (.slice M2 q.word.length n2) (.slice (some ⟨g, 3, none⟩) d.past.length (cap - 1)))
    have HS4 := Lib.hid (OwnI.set4 HF.out.st RR (by decide) (.slice M0 q.st.length n0) (.int .i64 q.step) (.slice M2 q.word.length n2) (.slice (some ⟨g, 3, none⟩) d.past.length (cap - 1)))
    have HW4 := Lib.hid (OwnI.set4 HF.out.word RR (by decide) (.slice M0 q.st.length n0) (.int .i64 q.step) (.slice M2 q.word.length n2) (.slice (some ⟨g, 3, none⟩) d.past.length (cap - 1)))
    have HB4 := Lib.hid (below_set4 HF.out.below (g := w.heap.size + 2) (by omega) (.slice M0 q.st.length n0) (.int .i64 q.step) (.slice M2 q.word.length n2) (.slice (some ⟨g, 3, none⟩) d.past.length (cap - 1)))
    clear RR hW12 gne
    go_wp2
    exact bodyPost_ret (v := .tuple #[.agg #[.slice M0 q.st.length n0, .int .i64 q.step, .slice M2 q.word.length n2, (.slice (some ⟨g, 3, none⟩) d.past.length (cap - 1))], .bool true]) (by simp [results, Tryd.results9, go_sem, r0, r1, r2, r3]) rfl ⟨_, by rw [HD.out.2], by rw [HD.out.1, HPP.out]; exact ⟨fun WW hk => DkI.mk (d := ⟨q, _⟩) (OwnI.ints (OwnI.keeps HS4.out hk)) (OwnI.ints (OwnI.keeps HW4.out hk)) (HasPs.kept HP4.out (fun k a b => hk k (by omega) b)).pls.drop1, fun hl8 => absurd hl8 (by omega)⟩, HB4.out⟩
  · have HPP := Lib.hid (pushPast_short (p := d.now) hl)
    go_upto_region 16 with (fail)
    obtain ⟨W12, hW12⟩ : ∃ W12, W12 = (((W10.setCell ⟨w1.heap.size, 0, none⟩ (.slice M0 q.st.length n0)).setCell ⟨w1.heap.size, 1, none⟩ (.int .i64 q.step)).setCell ⟨w1.heap.size, 2, none⟩ (.slice M2 q.word.length n2)) := ⟨_, rfl⟩
    rw [← hW12]
    have HF := Lib.hid (((HY.out.set RNE.out RLE.out 0 (.slice M0 q.st.length n0)).set RNE.out RLE.out 1 (.int .i64 q.step)).set RNE.out RLE.out 2 (.slice M2 q.word.length n2))
    rw [← hW12] at HF
    clear o0 o1 o2 o3 p0 p1 p2 p3 u0 u1 u2
    have o0 : W12.cell? ⟨w1.heap.size, 0, none⟩ = some (.slice M0 q.st.length n0) := block_cell HF.out.out 0 rfl
    have o1 : W12.cell? ⟨w1.heap.size, 1, none⟩ = some (.int .i64 q.step) := block_cell HF.out.out 1 rfl
    have o2 : W12.cell? ⟨w1.heap.size, 2, none⟩ = some (.slice M2 q.word.length n2) := block_cell HF.out.out 2 rfl
    have o3 : W12.cell? ⟨w1.heap.size, 3, none⟩ = some (.slice (some ⟨g, 0, none⟩) (d.past.length + 1) cap) := block_cell HF.out.out 3 rfl
    have RR := HF.out.res
    have r0 := block_cell RR 0 rfl
    have r1 := block_cell RR 1 rfl
    have r2 := block_cell RR 2 rfl
    have r3 := block_cell RR 3 rfl
    have f0 := block_frozen RR 0
    have f1 := block_frozen RR 1
    have f2 := block_frozen RR 2
    have f3 := block_frozen RR 3
    have HP4 := Lib.hid (HF.out.past.set4 RR (by decide) (by decide) (.slice M0 q.st.length n0) (.int .i64 q.step) (.slice M2 q.word.length n2) (.slice (some ⟨g, 0, none⟩) (d.past.length + 1) cap))
    have HS4 := Lib.hid (OwnI.set4 HF.out.st RR (by decide) (.slice M0 q.st.length n0) (.int .i64 q.step) (.slice M2 q.word.length n2) (.slice (some ⟨g, 0, none⟩) (d.past.length + 1) cap))
    have HW4 := Lib.hid (OwnI.set4 HF.out.word RR (by decide) (.slice M0 q.st.length n0) (.int .i64 q.step) (.slice M2 q.word.length n2) (.slice (some ⟨g, 0, none⟩) (d.past.length + 1) cap))
    have HB4 := Lib.hid (below_set4 HF.out.below (g := w.heap.size + 2) (by omega) (.slice M0 q.st.length n0) (.int .i64 q.step) (.slice M2 q.word.length n2) (.slice (some ⟨g, 0, none⟩) (d.past.length + 1) cap))
    clear RR hW12 gne
    go_wp2
    exact bodyPost_ret (v := .tuple #[.agg #[.slice M0 q.st.length n0, .int .i64 q.step, .slice M2 q.word.length n2, (.slice (some ⟨g, 0, none⟩) (d.past.length + 1) cap)], .bool true]) (by simp [results, Tryd.results9, go_sem, r0, r1, r2, r3]) rfl ⟨_, by rw [HD.out.2], by rw [HD.out.1, HPP.out]; exact ⟨fun WW hk => DkI.mk (d := ⟨q, _⟩) (OwnI.ints (OwnI.keeps HS4.out hk)) (OwnI.ints (OwnI.keeps HW4.out hk)) (HasPs.kept HP4.out (fun k a b => hk k (by omega) b)).pls, fun hl8 => ⟨_, _, _, rfl, HS4.out, HW4.out, HP4.out.lo (by omega)⟩⟩, HB4.out⟩

set_option maxHeartbeats 1000000 in
set_option maxRecDepth 100000 in
theorem s_do_4a (d : Dk) (w : World) (A0 A2 A3 : Option Addr) (c0 c2 c3 : Nat) (i0 : Ints w (.slice A0 d.now.st.length c0) d.now.st) (i2 : Ints w (.slice A2 d.now.word.length c2) d.now.word) (i3 : Pls w (.slice A3 d.past.length c3) d.past) (hok : deskOk d = true)
    (aa bb : Int) (ha : (aa == 0) = false) :
    Calls Tryd.prog 9 #[.agg #[.slice A0 d.now.st.length c0, .int .i64 d.now.step, .slice A2 d.now.word.length c2, .slice A3 d.past.length c3], .agg #[.int .i64 4, .int .i64 aa, .int .i64 bb]] w
      fun e w' => ∃ v', e = .returned (.tuple #[v', .bool (doOk d ⟨4, aa, bb⟩)]) ∧ DkP w' w.heap.size v' (doDesk d ⟨4, aa, bb⟩) d.past.length ∧ Below w.heap.size w w' := by
  have hn : (!deskOk d) = false := by simp [hok]
  have hq : madeOf d.now ⟨4, aa, bb⟩ = z0 := made_none (by simp) (by simp) (by simp) (by simp)
  have HPO := Lib.hid (placeOk_is z0_not)
  have HD := Lib.hid (do_not (a := ⟨4, aa, bb⟩) hok (back_a (by simpa using ha)) (by rw [hq]; exact took_z0 _))
  obtain ⟨hs1, hs2, hs3, hs4⟩ := desk_small hok
  have HSM := Lib.hid hs4
  obtain ⟨q, hqz⟩ : ∃ q, z0 = q := ⟨_, rfl⟩
  rw [hqz] at hq HPO
  clear hok hs4 hqz
  go_enter Tryd.func9, Tryd.ntmps9
  go_wp2_with fail
  refine (s_DeskOk _ d _ (DkI.mk i0.at i2.at i3.at)).mono ?_
  rintro e wa ⟨rfl, hba⟩
  haveI ba : Bel w wa := Bel.step (w := w) hba
  have BXa : wa.heap[w.heap.size]? = some (.cells #[.slice A0 d.now.st.length c0, .int .i64 d.now.step, .slice A2 d.now.word.length c2, .slice A3 d.past.length c3] 28 (0, 0)) := (hba.block _ (by simp <;> omega)).trans ((heap_alloc_old _ _ (by simp <;> omega)).trans ((heap_alloc_old _ _ (by simp)).trans (heap_alloc_new w _)))
  have BDa : wa.heap[w.heap.size + 1]? = some (.cells #[.int .i64 4, .int .i64 aa, .int .i64 bb] 30 (0, 0)) := (hba.block _ (by simp <;> omega)).trans ((heap_alloc_old _ _ (by simp)).trans (by simpa using heap_alloc_new (w.alloc (.cells #[.slice A0 d.now.st.length c0, .int .i64 d.now.step, .slice A2 d.now.word.length c2, .slice A3 d.past.length c3] 28)) _))
  have BRa : wa.heap[w.heap.size + 2]? = some (.cells #[.slice none 0 0, .int .i64 0, .slice none 0 0, .slice none 0 0] 28 (0, 0)) := (hba.block _ (by simp)).trans (by simpa using heap_alloc_new ((w.alloc (.cells #[.slice A0 d.now.st.length c0, .int .i64 d.now.step, .slice A2 d.now.word.length c2, .slice A3 d.past.length c3] 28)).alloc (.cells #[.int .i64 4, .int .i64 aa, .int .i64 bb] 30)) _)
  have hza : w.heap.size + 2 < wa.heap.size := by have := hba.size; simp at this; omega
  clear hba
  have x0 := block_cell BXa 0 rfl
  have x1 := block_cell BXa 1 rfl
  have x2 := block_cell BXa 2 rfl
  have x3 := block_cell BXa 3 rfl
  go_wp2_with fail
  clear x0 x1 x2 x3
  refine (s_l15Copy _ d _ (DkI.mk i0.at i2.at i3.at) (by omega) (by omega) (by omega) (fun j hj => by have := HSM.out j hj; omega)).mono ?_
  rintro e w1 ⟨v1, rfl, ⟨f, hD⟩, hb1⟩
  obtain ⟨y0, y2, y3, rfl, hT0, hT2, hPs⟩ := hD
  obtain ⟨B0, e0, rfl⟩ := hT0.ints.form
  obtain ⟨B2, e2, rfl⟩ := hT2.ints.form
  obtain ⟨B3, e3, rfl⟩ := hPs.pls.form
  haveI b1 : Bel wa w1 := Bel.step (w := wa) hb1
  go_upto_region 4 with (fail)
  obtain ⟨W5, hW5⟩ : ∃ W5, W5 = w1.alloc (.cells #[.slice B0 d.now.st.length e0, .int .i64 d.now.step, .slice B2 d.now.word.length e2, .slice B3 d.past.length e3] 28) := ⟨_, rfl⟩
  rw [← hW5]
  haveI b5 : Bel w1 W5 := by rw [hW5]; exact Bel.alloc
  haveI ba5 : Bel wa W5 := Bel.step (w := wa) b5.out
  haveI bw5 : Bel w W5 := Bel.step (w := w) ba5.out
  have BO : W5.heap[w1.heap.size]? = some (.cells #[.slice B0 d.now.st.length e0, .int .i64 d.now.step, .slice B2 d.now.word.length e2, .slice B3 d.past.length e3] 28 (0, 0)) := by rw [hW5]; exact heap_alloc_new _ _
  have HDO : Hid (DkO W5 wa.heap.size w1.heap.size f (.agg #[.slice B0 d.now.st.length e0, .int .i64 d.now.step, .slice B2 d.now.word.length e2, .slice B3 d.past.length e3]) d) :=
    (DkO.kept (⟨_, _, _, rfl, hT0, hT2, hPs⟩ : DkO w1 wa.heap.size w1.heap.size f _ d) (fun k _ hk => b5.out.block k hk) : _)
  have hz1 : wa.heap.size ≤ w1.heap.size := hb1.size
  have hz5 : W5.heap.size = w1.heap.size + 1 := by rw [hW5]; simp
  have BX := block_at (W := W5) BXa
  have BD := block_at (W := W5) BDa
  have BR := block_at (W := W5) BRa
  have HZ5 := Lib.hid hz5
  clear hW5 hT0 hT2 hPs hb1 BXa BDa BRa hz5
  have x3 := block_cell BX 3 rfl
  have d0 := block_cell BD 0 rfl
  have d1 := block_cell BD 1 rfl
  have d2 := block_cell BD 2 rfl
  have x0 := block_cell BX 0 rfl
  have x1 := block_cell BX 1 rfl
  have x2 := block_cell BX 2 rfl
  have HMD := Lib.hid (fun w' h => s_l15Made (.agg #[.slice A0 d.now.st.length c0, .int .i64 d.now.step, .slice A2 d.now.word.length c2]) d.now ⟨4, aa, bb⟩ w' h (by omega) (by omega))
  rw [hq] at HMD
  go_wp2_with fail
  refine (HMD.out _ (PlI.mk i0.at i2.at)).mono ?_
  rintro e w7 ⟨v7, rfl, ⟨m0, m2, rfl, hM0, hM2⟩, hb7⟩
  obtain ⟨M0, n0, rfl⟩ := hM0.ints.form
  obtain ⟨M2, n2, rfl⟩ := hM2.ints.form
  haveI b7 : Bel W5 w7 := Bel.step (w := W5) hb7
  go_upto_region 10 with (fail)
  obtain ⟨W8, hW8⟩ : ∃ W8, W8 = w7.alloc (.cells #[.slice M0 q.st.length n0, .int .i64 q.step, .slice M2 q.word.length n2] 25) := ⟨_, rfl⟩
  rw [← hW8]
  haveI b8 : Bel w7 W8 := by rw [hW8]; exact Bel.alloc
  haveI b58 : Bel W5 W8 := Bel.step (w := W5) b8.out
  haveI bw8 : Bel w W8 := Bel.step (w := w) b58.out
  have BT : W8.heap[w7.heap.size]? = some (.cells #[.slice M0 q.st.length n0, .int .i64 q.step, .slice M2 q.word.length n2] 25 (0, 0)) := by rw [hW8]; exact heap_alloc_new _ _
  have HMI0 := Lib.hid (OwnI.at hM0 (w1 := W8))
  have HMI2 := Lib.hid (OwnI.at hM2 (w1 := W8))
  have hz7 : W5.heap.size ≤ w7.heap.size := hb7.size
  have hz8 : w7.heap.size + 1 = W8.heap.size := by rw [hW8]; simp
  have hz58 := HZ5.out
  clear x0 x1 x2 x3 d0 d1 d2
  have x0 := block_cell (block_at (W := W8) BX) 0 rfl
  have x1 := block_cell (block_at (W := W8) BX) 1 rfl
  have x2 := block_cell (block_at (W := W8) BX) 2 rfl
  have u0 := block_cell BT 0 rfl
  have u1 := block_cell BT 1 rfl
  have u2 := block_cell BT 2 rfl
  have HBT := Lib.hid BT; have HBX := Lib.hid BX; have HBO := Lib.hid BO; have HBR := Lib.hid BR; have HZ8 := Lib.hid hz8; have HZ58 := Lib.hid hz58
  clear hW8 BT BX BO BR BD hM0 hM2 hb7 HMD hz8 hz58
  refine PrintLast.start_ (n := 11) (S := fun w' => w'.cell? ⟨w.heap.size, 0, none⟩ = some (.slice A0 d.now.st.length c0) ∧ w'.cell? ⟨w.heap.size, 1, none⟩ = some (.int .i64 d.now.step) ∧ w'.cell? ⟨w.heap.size, 2, none⟩ = some (.slice A2 d.now.word.length c2) ∧ w'.cell? ⟨w7.heap.size, 0, none⟩ = some (.slice M0 q.st.length n0) ∧ w'.cell? ⟨w7.heap.size, 1, none⟩ = some (.int .i64 q.step) ∧ w'.cell? ⟨w7.heap.size, 2, none⟩ = some (.slice M2 q.word.length n2)) (ds := []) #[false, false, false, false, false, false, false, false, false, false, false] (by kernel_rfl) rfl rfl ⟨cell_at x0, cell_at x1, cell_at x2, cell_at u0, cell_at u1, cell_at u2⟩ (fun hHeld => ?_)
  refine PrintLast.take_ (i := 0) (N := (some 44)) (v := ?_) (a' := ?_) #[true, false, false, false, false, false, false, false, false, false, false] rfl rfl (by kernel_rfl) (fun _ _ _ h => h) (Or.inl ⟨by rfl, ?_⟩) hHeld ?_ ?_
  rotate_left
  · (rintro w' ⟨s0, s1, s2, s3, s4, s5⟩; go_simp; with_reducible rfl)
  rotate_left
  · (simp only [Act.put, List.setIfInBounds_toArray, List.set_cons_zero, List.set_cons_succ, PrintLast.i64_w, PrintLast.i32_w]; rfl)
  refine PrintLast.one_ (i := 1) (N := (some 45)) #[true, true, false, false, false, false, false, false, false, false, false] rfl rfl (by kernel_rfl) (by decide) (fun K hK => ?_)
  refine PrintLast.goes_ Tryd.func42 (by kernel_rfl) rfl #[.agg #[.slice M0 q.st.length n0, .int .i64 q.step, .slice M2 q.word.length n2]] (by rfl) rfl rfl (by (try simp only [List.map_toArray, List.map_cons, List.map_nil]); first | done | rfl) ?_
  refine (HPO.out _ _ (PlI.mk (OwnI.ints HMI0.out).at (OwnI.ints HMI2.out).at)).mono ?_
  rintro e w9 ⟨rfl, hb9⟩
  haveI : Bel W8 w9 := Bel.step (w := W8) hb9
  refine ⟨_, rfl, ?_⟩
  refine hK.out _ _ ⟨cell_at x0, cell_at x1, cell_at x2, cell_at u0, cell_at u1, cell_at u2⟩ (fun hHeld => ?_)
  clear hK K
  refine PrintLast.norm_ (a' := ?_) ?_ ?_
  rotate_left
  · (show Act.put _ (some 45) _ = _; simp only [Act.put, List.setIfInBounds_toArray, List.set_cons_zero, List.set_cons_succ, PrintLast.i64_w, PrintLast.i32_w]; rfl)
  refine PrintLast.pure_ (i := 2) (N := (some 46)) (v := ?_) (a' := ?_) #[true, true, true, false, false, false, false, false, false, false, false] rfl rfl (by kernel_rfl) (fun _ _ _ h => h) (Or.inl ⟨by rfl, ?_⟩) ?_ ?_
  rotate_left
  · (intro w'; go_simp; with_reducible rfl)
  rotate_left
  · (simp only [Act.put, List.setIfInBounds_toArray, List.set_cons_zero, List.set_cons_succ, PrintLast.i64_w, PrintLast.i32_w]; rfl)
  refine PrintLast.pure_ (i := 3) (N := (some 47)) (v := ?_) (a' := ?_) #[true, true, true, true, false, false, false, false, false, false, false] rfl rfl (by kernel_rfl) (fun _ _ _ h => h) (Or.inl ⟨by rfl, ?_⟩) ?_ ?_
  rotate_left
  · (intro w'; go_simp; with_reducible rfl)
  rotate_left
  · (simp only [Act.put, List.setIfInBounds_toArray, List.set_cons_zero, List.set_cons_succ, PrintLast.i64_w, PrintLast.i32_w]; rfl)
  refine PrintLast.pure_ (i := 4) (N := (some 48)) (v := undef) (a' := ?_) #[true, true, true, true, true, false, false, false, false, false, false] rfl rfl (by kernel_rfl) (fun _ _ _ h => h) (Or.inr ⟨by rfl, rfl⟩) ?_ ?_
  rotate_left
  · (simp only [Act.put, List.setIfInBounds_toArray, List.set_cons_zero, List.set_cons_succ, PrintLast.i64_w, PrintLast.i32_w]; rfl)
  refine PrintLast.pure_ (i := 5) (N := (some 49)) (v := undef) (a' := ?_) #[true, true, true, true, true, true, false, false, false, false, false] rfl rfl (by kernel_rfl) (fun _ _ _ h => h) (Or.inr ⟨by rfl, rfl⟩) ?_ ?_
  rotate_left
  · (simp only [Act.put, List.setIfInBounds_toArray, List.set_cons_zero, List.set_cons_succ, PrintLast.i64_w, PrintLast.i32_w]; rfl)
  refine PrintLast.pure_ (i := 6) (N := (some 50)) (v := undef) (a' := ?_) #[true, true, true, true, true, true, true, false, false, false, false] rfl rfl (by kernel_rfl) (fun _ _ _ h => h) (Or.inr ⟨by rfl, rfl⟩) ?_ ?_
  rotate_left
  · (simp only [Act.put, List.setIfInBounds_toArray, List.set_cons_zero, List.set_cons_succ, PrintLast.i64_w, PrintLast.i32_w]; rfl)
  refine PrintLast.pure_ (i := 7) (N := (some 51)) (v := undef) (a' := ?_) #[true, true, true, true, true, true, true, true, false, false, false] rfl rfl (by kernel_rfl) (fun _ _ _ h => h) (Or.inr ⟨by rfl, rfl⟩) ?_ ?_
  rotate_left
  · (simp only [Act.put, List.setIfInBounds_toArray, List.set_cons_zero, List.set_cons_succ, PrintLast.i64_w, PrintLast.i32_w]; rfl)
  refine PrintLast.pure_ (i := 8) (N := (some 52)) (v := undef) (a' := ?_) #[true, true, true, true, true, true, true, true, true, false, false] rfl rfl (by kernel_rfl) (fun _ _ _ h => h) (Or.inr ⟨by rfl, rfl⟩) ?_ ?_
  rotate_left
  · (simp only [Act.put, List.setIfInBounds_toArray, List.set_cons_zero, List.set_cons_succ, PrintLast.i64_w, PrintLast.i32_w]; rfl)
  refine PrintLast.pure_ (i := 9) (N := (some 53)) (v := undef) (a' := ?_) #[true, true, true, true, true, true, true, true, true, true, false] rfl rfl (by kernel_rfl) (fun _ _ _ h => h) (Or.inr ⟨by rfl, rfl⟩) ?_ ?_
  rotate_left
  · (simp only [Act.put, List.setIfInBounds_toArray, List.set_cons_zero, List.set_cons_succ, PrintLast.i64_w, PrintLast.i32_w]; rfl)
  refine PrintLast.pure_ (i := 10) (N := (some 54)) (v := ?_) (a' := ?_) #[true, true, true, true, true, true, true, true, true, true, true] rfl rfl (by kernel_rfl) (fun _ _ _ h => h) (Or.inl ⟨by rfl, ?_⟩) ?_ ?_
  rotate_left
  · (intro w'; go_simp; with_reducible rfl)
  rotate_left
  · (simp only [Act.put, List.setIfInBounds_toArray, List.set_cons_zero, List.set_cons_succ, PrintLast.i64_w, PrintLast.i32_w]; rfl)
  refine PrintLast.done_ (by kernel_rfl) ?_
  haveI bw9 : Bel W5 w9 := Bel.step (w := W5) (Bel.out : Below W8.heap.size W8 w9)
  haveI : Bel w w9 := Bel.step (w := w) bw9.out
  have RR := block_at (W := w9) HBR.out
  have r0 := block_cell RR 0 rfl
  have r1 := block_cell RR 1 rfl
  have r2 := block_cell RR 2 rfl
  have r3 := block_cell RR 3 rfl
  have f0 := block_frozen RR 0
  have f1 := block_frozen RR 1
  have f2 := block_frozen RR 2
  have f3 := block_frozen RR 3
  have OO := block_at (W := w9) HBO.out
  have o0 := block_cell OO 0 rfl
  have o1 := block_cell OO 1 rfl
  have o2 := block_cell OO 2 rfl
  have o3 := block_cell OO 3 rfl
  have HF := Lib.hid (((HDO.out.kept (w1 := w9) (fun k _ hk => bw9.out.block k (by have := HZ58.out; omega))).weak.set4 RR (by decide) (by decide) (.slice B0 d.now.st.length e0) (.int .i64 d.now.step) (.slice B2 d.now.word.length e2) (.slice B3 d.past.length e3)).stay (lo' := w.heap.size) (by omega) (by simp only [size_set4]; have := bw9.out.size; have := HZ58.out; omega))
  have HG := Lib.hid (((HDO.out.kept (w1 := w9) (fun k _ hk => bw9.out.block k (by have := HZ58.out; omega))).has.set4 RR (by decide) (by decide) (.slice B0 d.now.st.length e0) (.int .i64 d.now.step) (.slice B2 d.now.word.length e2) (.slice B3 d.past.length e3)).lo (lo' := w.heap.size) (by omega))
  have HB : Hid (Below w.heap.size w (set4 w9 (w.heap.size + 2) (.slice B0 d.now.st.length e0) (.int .i64 d.now.step) (.slice B2 d.now.word.length e2) (.slice B3 d.past.length e3))) := below_set4 Bel.out (by omega) _ _ _ _
  clear RR OO x0 x1 x2 u0 u1 u2
  go_wp2
  exact bodyPost_ret (v := .tuple #[.agg #[.slice B0 d.now.st.length e0, .int .i64 d.now.step, .slice B2 d.now.word.length e2, .slice B3 d.past.length e3], .bool false]) (by simp [results, Tryd.results9, go_sem, r0, r1, r2, r3]) rfl ⟨_, by rw [HD.out.2], by rw [HD.out.1]; exact ⟨HF.out, fun _ => HG.out⟩, HB.out⟩

set_option maxHeartbeats 1000000 in
set_option maxRecDepth 100000 in
theorem s_do_4b (d : Dk) (w : World) (A0 A2 A3 : Option Addr) (c0 c2 c3 : Nat) (i0 : Ints w (.slice A0 d.now.st.length c0) d.now.st) (i2 : Ints w (.slice A2 d.now.word.length c2) d.now.word) (i3 : Pls w (.slice A3 d.past.length c3) d.past) (hok : deskOk d = true)
    (bb : Int) (ha : (bb == 0) = false) :
    Calls Tryd.prog 9 #[.agg #[.slice A0 d.now.st.length c0, .int .i64 d.now.step, .slice A2 d.now.word.length c2, .slice A3 d.past.length c3], .agg #[.int .i64 4, .int .i64 0, .int .i64 bb]] w
      fun e w' => ∃ v', e = .returned (.tuple #[v', .bool (doOk d ⟨4, 0, bb⟩)]) ∧ DkP w' w.heap.size v' (doDesk d ⟨4, 0, bb⟩) d.past.length ∧ Below w.heap.size w w' := by
  have hn : (!deskOk d) = false := by simp [hok]
  have hq : madeOf d.now ⟨4, 0, bb⟩ = z0 := made_none (by simp) (by simp) (by simp) (by simp)
  have HPO := Lib.hid (placeOk_is z0_not)
  have HD := Lib.hid (do_not (a := ⟨4, 0, bb⟩) hok (back_b (by simpa using ha)) (by rw [hq]; exact took_z0 _))
  obtain ⟨hs1, hs2, hs3, hs4⟩ := desk_small hok
  have HSM := Lib.hid hs4
  obtain ⟨q, hqz⟩ : ∃ q, z0 = q := ⟨_, rfl⟩
  rw [hqz] at hq HPO
  clear hok hs4 hqz
  go_enter Tryd.func9, Tryd.ntmps9
  go_wp2_with fail
  refine (s_DeskOk _ d _ (DkI.mk i0.at i2.at i3.at)).mono ?_
  rintro e wa ⟨rfl, hba⟩
  haveI ba : Bel w wa := Bel.step (w := w) hba
  have BXa : wa.heap[w.heap.size]? = some (.cells #[.slice A0 d.now.st.length c0, .int .i64 d.now.step, .slice A2 d.now.word.length c2, .slice A3 d.past.length c3] 28 (0, 0)) := (hba.block _ (by simp <;> omega)).trans ((heap_alloc_old _ _ (by simp <;> omega)).trans ((heap_alloc_old _ _ (by simp)).trans (heap_alloc_new w _)))
  have BDa : wa.heap[w.heap.size + 1]? = some (.cells #[.int .i64 4, .int .i64 0, .int .i64 bb] 30 (0, 0)) := (hba.block _ (by simp <;> omega)).trans ((heap_alloc_old _ _ (by simp)).trans (by simpa using heap_alloc_new (w.alloc (.cells #[.slice A0 d.now.st.length c0, .int .i64 d.now.step, .slice A2 d.now.word.length c2, .slice A3 d.past.length c3] 28)) _))
  have BRa : wa.heap[w.heap.size + 2]? = some (.cells #[.slice none 0 0, .int .i64 0, .slice none 0 0, .slice none 0 0] 28 (0, 0)) := (hba.block _ (by simp)).trans (by simpa using heap_alloc_new ((w.alloc (.cells #[.slice A0 d.now.st.length c0, .int .i64 d.now.step, .slice A2 d.now.word.length c2, .slice A3 d.past.length c3] 28)).alloc (.cells #[.int .i64 4, .int .i64 0, .int .i64 bb] 30)) _)
  have hza : w.heap.size + 2 < wa.heap.size := by have := hba.size; simp at this; omega
  clear hba
  have x0 := block_cell BXa 0 rfl
  have x1 := block_cell BXa 1 rfl
  have x2 := block_cell BXa 2 rfl
  have x3 := block_cell BXa 3 rfl
  go_wp2_with fail
  clear x0 x1 x2 x3
  refine (s_l15Copy _ d _ (DkI.mk i0.at i2.at i3.at) (by omega) (by omega) (by omega) (fun j hj => by have := HSM.out j hj; omega)).mono ?_
  rintro e w1 ⟨v1, rfl, ⟨f, hD⟩, hb1⟩
  obtain ⟨y0, y2, y3, rfl, hT0, hT2, hPs⟩ := hD
  obtain ⟨B0, e0, rfl⟩ := hT0.ints.form
  obtain ⟨B2, e2, rfl⟩ := hT2.ints.form
  obtain ⟨B3, e3, rfl⟩ := hPs.pls.form
  haveI b1 : Bel wa w1 := Bel.step (w := wa) hb1
  go_upto_region 4 with (fail)
  obtain ⟨W5, hW5⟩ : ∃ W5, W5 = w1.alloc (.cells #[.slice B0 d.now.st.length e0, .int .i64 d.now.step, .slice B2 d.now.word.length e2, .slice B3 d.past.length e3] 28) := ⟨_, rfl⟩
  rw [← hW5]
  haveI b5 : Bel w1 W5 := by rw [hW5]; exact Bel.alloc
  haveI ba5 : Bel wa W5 := Bel.step (w := wa) b5.out
  haveI bw5 : Bel w W5 := Bel.step (w := w) ba5.out
  have BO : W5.heap[w1.heap.size]? = some (.cells #[.slice B0 d.now.st.length e0, .int .i64 d.now.step, .slice B2 d.now.word.length e2, .slice B3 d.past.length e3] 28 (0, 0)) := by rw [hW5]; exact heap_alloc_new _ _
  have HDO : Hid (DkO W5 wa.heap.size w1.heap.size f (.agg #[.slice B0 d.now.st.length e0, .int .i64 d.now.step, .slice B2 d.now.word.length e2, .slice B3 d.past.length e3]) d) :=
    (DkO.kept (⟨_, _, _, rfl, hT0, hT2, hPs⟩ : DkO w1 wa.heap.size w1.heap.size f _ d) (fun k _ hk => b5.out.block k hk) : _)
  have hz1 : wa.heap.size ≤ w1.heap.size := hb1.size
  have hz5 : W5.heap.size = w1.heap.size + 1 := by rw [hW5]; simp
  have BX := block_at (W := W5) BXa
  have BD := block_at (W := W5) BDa
  have BR := block_at (W := W5) BRa
  have HZ5 := Lib.hid hz5
  clear hW5 hT0 hT2 hPs hb1 BXa BDa BRa hz5
  have x3 := block_cell BX 3 rfl
  have d0 := block_cell BD 0 rfl
  have d1 := block_cell BD 1 rfl
  have d2 := block_cell BD 2 rfl
  have x0 := block_cell BX 0 rfl
  have x1 := block_cell BX 1 rfl
  have x2 := block_cell BX 2 rfl
  have HMD := Lib.hid (fun w' h => s_l15Made (.agg #[.slice A0 d.now.st.length c0, .int .i64 d.now.step, .slice A2 d.now.word.length c2]) d.now ⟨4, 0, bb⟩ w' h (by omega) (by omega))
  rw [hq] at HMD
  go_wp2_with fail
  refine (HMD.out _ (PlI.mk i0.at i2.at)).mono ?_
  rintro e w7 ⟨v7, rfl, ⟨m0, m2, rfl, hM0, hM2⟩, hb7⟩
  obtain ⟨M0, n0, rfl⟩ := hM0.ints.form
  obtain ⟨M2, n2, rfl⟩ := hM2.ints.form
  haveI b7 : Bel W5 w7 := Bel.step (w := W5) hb7
  go_upto_region 10 with (fail)
  obtain ⟨W8, hW8⟩ : ∃ W8, W8 = w7.alloc (.cells #[.slice M0 q.st.length n0, .int .i64 q.step, .slice M2 q.word.length n2] 25) := ⟨_, rfl⟩
  rw [← hW8]
  haveI b8 : Bel w7 W8 := by rw [hW8]; exact Bel.alloc
  haveI b58 : Bel W5 W8 := Bel.step (w := W5) b8.out
  haveI bw8 : Bel w W8 := Bel.step (w := w) b58.out
  have BT : W8.heap[w7.heap.size]? = some (.cells #[.slice M0 q.st.length n0, .int .i64 q.step, .slice M2 q.word.length n2] 25 (0, 0)) := by rw [hW8]; exact heap_alloc_new _ _
  have HMI0 := Lib.hid (OwnI.at hM0 (w1 := W8))
  have HMI2 := Lib.hid (OwnI.at hM2 (w1 := W8))
  have hz7 : W5.heap.size ≤ w7.heap.size := hb7.size
  have hz8 : w7.heap.size + 1 = W8.heap.size := by rw [hW8]; simp
  have hz58 := HZ5.out
  clear x0 x1 x2 x3 d0 d1 d2
  have x0 := block_cell (block_at (W := W8) BX) 0 rfl
  have x1 := block_cell (block_at (W := W8) BX) 1 rfl
  have x2 := block_cell (block_at (W := W8) BX) 2 rfl
  have u0 := block_cell BT 0 rfl
  have u1 := block_cell BT 1 rfl
  have u2 := block_cell BT 2 rfl
  have HBT := Lib.hid BT; have HBX := Lib.hid BX; have HBO := Lib.hid BO; have HBR := Lib.hid BR; have HZ8 := Lib.hid hz8; have HZ58 := Lib.hid hz58
  clear hW8 BT BX BO BR BD hM0 hM2 hb7 HMD hz8 hz58
  refine PrintLast.start_ (n := 11) (S := fun w' => w'.cell? ⟨w.heap.size, 0, none⟩ = some (.slice A0 d.now.st.length c0) ∧ w'.cell? ⟨w.heap.size, 1, none⟩ = some (.int .i64 d.now.step) ∧ w'.cell? ⟨w.heap.size, 2, none⟩ = some (.slice A2 d.now.word.length c2) ∧ w'.cell? ⟨w7.heap.size, 0, none⟩ = some (.slice M0 q.st.length n0) ∧ w'.cell? ⟨w7.heap.size, 1, none⟩ = some (.int .i64 q.step) ∧ w'.cell? ⟨w7.heap.size, 2, none⟩ = some (.slice M2 q.word.length n2)) (ds := []) #[false, false, false, false, false, false, false, false, false, false, false] (by kernel_rfl) rfl rfl ⟨cell_at x0, cell_at x1, cell_at x2, cell_at u0, cell_at u1, cell_at u2⟩ (fun hHeld => ?_)
  refine PrintLast.take_ (i := 0) (N := (some 44)) (v := ?_) (a' := ?_) #[true, false, false, false, false, false, false, false, false, false, false] rfl rfl (by kernel_rfl) (fun _ _ _ h => h) (Or.inl ⟨by rfl, ?_⟩) hHeld ?_ ?_
  rotate_left
  · (rintro w' ⟨s0, s1, s2, s3, s4, s5⟩; go_simp; with_reducible rfl)
  rotate_left
  · (simp only [Act.put, List.setIfInBounds_toArray, List.set_cons_zero, List.set_cons_succ, PrintLast.i64_w, PrintLast.i32_w]; rfl)
  refine PrintLast.one_ (i := 1) (N := (some 45)) #[true, true, false, false, false, false, false, false, false, false, false] rfl rfl (by kernel_rfl) (by decide) (fun K hK => ?_)
  refine PrintLast.goes_ Tryd.func42 (by kernel_rfl) rfl #[.agg #[.slice M0 q.st.length n0, .int .i64 q.step, .slice M2 q.word.length n2]] (by rfl) rfl rfl (by (try simp only [List.map_toArray, List.map_cons, List.map_nil]); first | done | rfl) ?_
  refine (HPO.out _ _ (PlI.mk (OwnI.ints HMI0.out).at (OwnI.ints HMI2.out).at)).mono ?_
  rintro e w9 ⟨rfl, hb9⟩
  haveI : Bel W8 w9 := Bel.step (w := W8) hb9
  refine ⟨_, rfl, ?_⟩
  refine hK.out _ _ ⟨cell_at x0, cell_at x1, cell_at x2, cell_at u0, cell_at u1, cell_at u2⟩ (fun hHeld => ?_)
  clear hK K
  refine PrintLast.norm_ (a' := ?_) ?_ ?_
  rotate_left
  · (show Act.put _ (some 45) _ = _; simp only [Act.put, List.setIfInBounds_toArray, List.set_cons_zero, List.set_cons_succ, PrintLast.i64_w, PrintLast.i32_w]; rfl)
  refine PrintLast.pure_ (i := 2) (N := (some 46)) (v := ?_) (a' := ?_) #[true, true, true, false, false, false, false, false, false, false, false] rfl rfl (by kernel_rfl) (fun _ _ _ h => h) (Or.inl ⟨by rfl, ?_⟩) ?_ ?_
  rotate_left
  · (intro w'; go_simp; with_reducible rfl)
  rotate_left
  · (simp only [Act.put, List.setIfInBounds_toArray, List.set_cons_zero, List.set_cons_succ, PrintLast.i64_w, PrintLast.i32_w]; rfl)
  refine PrintLast.pure_ (i := 3) (N := (some 47)) (v := ?_) (a' := ?_) #[true, true, true, true, false, false, false, false, false, false, false] rfl rfl (by kernel_rfl) (fun _ _ _ h => h) (Or.inl ⟨by rfl, ?_⟩) ?_ ?_
  rotate_left
  · (intro w'; go_simp; with_reducible rfl)
  rotate_left
  · (simp only [Act.put, List.setIfInBounds_toArray, List.set_cons_zero, List.set_cons_succ, PrintLast.i64_w, PrintLast.i32_w]; rfl)
  refine PrintLast.pure_ (i := 4) (N := (some 48)) (v := undef) (a' := ?_) #[true, true, true, true, true, false, false, false, false, false, false] rfl rfl (by kernel_rfl) (fun _ _ _ h => h) (Or.inr ⟨by rfl, rfl⟩) ?_ ?_
  rotate_left
  · (simp only [Act.put, List.setIfInBounds_toArray, List.set_cons_zero, List.set_cons_succ, PrintLast.i64_w, PrintLast.i32_w]; rfl)
  refine PrintLast.pure_ (i := 5) (N := (some 49)) (v := undef) (a' := ?_) #[true, true, true, true, true, true, false, false, false, false, false] rfl rfl (by kernel_rfl) (fun _ _ _ h => h) (Or.inr ⟨by rfl, rfl⟩) ?_ ?_
  rotate_left
  · (simp only [Act.put, List.setIfInBounds_toArray, List.set_cons_zero, List.set_cons_succ, PrintLast.i64_w, PrintLast.i32_w]; rfl)
  refine PrintLast.pure_ (i := 6) (N := (some 50)) (v := undef) (a' := ?_) #[true, true, true, true, true, true, true, false, false, false, false] rfl rfl (by kernel_rfl) (fun _ _ _ h => h) (Or.inr ⟨by rfl, rfl⟩) ?_ ?_
  rotate_left
  · (simp only [Act.put, List.setIfInBounds_toArray, List.set_cons_zero, List.set_cons_succ, PrintLast.i64_w, PrintLast.i32_w]; rfl)
  refine PrintLast.pure_ (i := 7) (N := (some 51)) (v := undef) (a' := ?_) #[true, true, true, true, true, true, true, true, false, false, false] rfl rfl (by kernel_rfl) (fun _ _ _ h => h) (Or.inr ⟨by rfl, rfl⟩) ?_ ?_
  rotate_left
  · (simp only [Act.put, List.setIfInBounds_toArray, List.set_cons_zero, List.set_cons_succ, PrintLast.i64_w, PrintLast.i32_w]; rfl)
  refine PrintLast.pure_ (i := 8) (N := (some 52)) (v := undef) (a' := ?_) #[true, true, true, true, true, true, true, true, true, false, false] rfl rfl (by kernel_rfl) (fun _ _ _ h => h) (Or.inr ⟨by rfl, rfl⟩) ?_ ?_
  rotate_left
  · (simp only [Act.put, List.setIfInBounds_toArray, List.set_cons_zero, List.set_cons_succ, PrintLast.i64_w, PrintLast.i32_w]; rfl)
  refine PrintLast.pure_ (i := 9) (N := (some 53)) (v := undef) (a' := ?_) #[true, true, true, true, true, true, true, true, true, true, false] rfl rfl (by kernel_rfl) (fun _ _ _ h => h) (Or.inr ⟨by rfl, rfl⟩) ?_ ?_
  rotate_left
  · (simp only [Act.put, List.setIfInBounds_toArray, List.set_cons_zero, List.set_cons_succ, PrintLast.i64_w, PrintLast.i32_w]; rfl)
  refine PrintLast.pure_ (i := 10) (N := (some 54)) (v := ?_) (a' := ?_) #[true, true, true, true, true, true, true, true, true, true, true] rfl rfl (by kernel_rfl) (fun _ _ _ h => h) (Or.inl ⟨by rfl, ?_⟩) ?_ ?_
  rotate_left
  · (intro w'; go_simp; with_reducible rfl)
  rotate_left
  · (simp only [Act.put, List.setIfInBounds_toArray, List.set_cons_zero, List.set_cons_succ, PrintLast.i64_w, PrintLast.i32_w]; rfl)
  refine PrintLast.done_ (by kernel_rfl) ?_
  haveI bw9 : Bel W5 w9 := Bel.step (w := W5) (Bel.out : Below W8.heap.size W8 w9)
  haveI : Bel w w9 := Bel.step (w := w) bw9.out
  have RR := block_at (W := w9) HBR.out
  have r0 := block_cell RR 0 rfl
  have r1 := block_cell RR 1 rfl
  have r2 := block_cell RR 2 rfl
  have r3 := block_cell RR 3 rfl
  have f0 := block_frozen RR 0
  have f1 := block_frozen RR 1
  have f2 := block_frozen RR 2
  have f3 := block_frozen RR 3
  have OO := block_at (W := w9) HBO.out
  have o0 := block_cell OO 0 rfl
  have o1 := block_cell OO 1 rfl
  have o2 := block_cell OO 2 rfl
  have o3 := block_cell OO 3 rfl
  have HF := Lib.hid (((HDO.out.kept (w1 := w9) (fun k _ hk => bw9.out.block k (by have := HZ58.out; omega))).weak.set4 RR (by decide) (by decide) (.slice B0 d.now.st.length e0) (.int .i64 d.now.step) (.slice B2 d.now.word.length e2) (.slice B3 d.past.length e3)).stay (lo' := w.heap.size) (by omega) (by simp only [size_set4]; have := bw9.out.size; have := HZ58.out; omega))
  have HG := Lib.hid (((HDO.out.kept (w1 := w9) (fun k _ hk => bw9.out.block k (by have := HZ58.out; omega))).has.set4 RR (by decide) (by decide) (.slice B0 d.now.st.length e0) (.int .i64 d.now.step) (.slice B2 d.now.word.length e2) (.slice B3 d.past.length e3)).lo (lo' := w.heap.size) (by omega))
  have HB : Hid (Below w.heap.size w (set4 w9 (w.heap.size + 2) (.slice B0 d.now.st.length e0) (.int .i64 d.now.step) (.slice B2 d.now.word.length e2) (.slice B3 d.past.length e3))) := below_set4 Bel.out (by omega) _ _ _ _
  clear RR OO x0 x1 x2 u0 u1 u2
  go_wp2
  exact bodyPost_ret (v := .tuple #[.agg #[.slice B0 d.now.st.length e0, .int .i64 d.now.step, .slice B2 d.now.word.length e2, .slice B3 d.past.length e3], .bool false]) (by simp [results, Tryd.results9, go_sem, r0, r1, r2, r3]) rfl ⟨_, by rw [HD.out.2], by rw [HD.out.1]; exact ⟨HF.out, fun _ => HG.out⟩, HB.out⟩

set_option maxHeartbeats 1000000 in
set_option maxRecDepth 100000 in
theorem s_do_4n (d : Dk) (w : World) (A0 A2 A3 : Option Addr) (c0 c2 c3 : Nat) (i0 : Ints w (.slice A0 d.now.st.length c0) d.now.st) (i2 : Ints w (.slice A2 d.now.word.length c2) d.now.word) (i3 : Pls w (.slice A3 d.past.length c3) d.past) (hok : deskOk d = true)
    (ha : ¬ 0 < d.past.length) :
    Calls Tryd.prog 9 #[.agg #[.slice A0 d.now.st.length c0, .int .i64 d.now.step, .slice A2 d.now.word.length c2, .slice A3 d.past.length c3], .agg #[.int .i64 4, .int .i64 0, .int .i64 0]] w
      fun e w' => ∃ v', e = .returned (.tuple #[v', .bool (doOk d ⟨4, 0, 0⟩)]) ∧ DkP w' w.heap.size v' (doDesk d ⟨4, 0, 0⟩) d.past.length ∧ Below w.heap.size w w' := by
  have hn : (!deskOk d) = false := by simp [hok]
  have hq : madeOf d.now ⟨4, 0, 0⟩ = z0 := made_none (by simp) (by simp) (by simp) (by simp)
  have HPO := Lib.hid (placeOk_is z0_not)
  have HD := Lib.hid (do_not (a := ⟨4, 0, 0⟩) hok (back_none (by omega)) (by rw [hq]; exact took_z0 _))
  obtain ⟨hs1, hs2, hs3, hs4⟩ := desk_small hok
  have HSM := Lib.hid hs4
  obtain ⟨q, hqz⟩ : ∃ q, z0 = q := ⟨_, rfl⟩
  rw [hqz] at hq HPO
  clear hok hs4 hqz
  go_enter Tryd.func9, Tryd.ntmps9
  go_wp2_with fail
  refine (s_DeskOk _ d _ (DkI.mk i0.at i2.at i3.at)).mono ?_
  rintro e wa ⟨rfl, hba⟩
  haveI ba : Bel w wa := Bel.step (w := w) hba
  have BXa : wa.heap[w.heap.size]? = some (.cells #[.slice A0 d.now.st.length c0, .int .i64 d.now.step, .slice A2 d.now.word.length c2, .slice A3 d.past.length c3] 28 (0, 0)) := (hba.block _ (by simp <;> omega)).trans ((heap_alloc_old _ _ (by simp <;> omega)).trans ((heap_alloc_old _ _ (by simp)).trans (heap_alloc_new w _)))
  have BDa : wa.heap[w.heap.size + 1]? = some (.cells #[.int .i64 4, .int .i64 0, .int .i64 0] 30 (0, 0)) := (hba.block _ (by simp <;> omega)).trans ((heap_alloc_old _ _ (by simp)).trans (by simpa using heap_alloc_new (w.alloc (.cells #[.slice A0 d.now.st.length c0, .int .i64 d.now.step, .slice A2 d.now.word.length c2, .slice A3 d.past.length c3] 28)) _))
  have BRa : wa.heap[w.heap.size + 2]? = some (.cells #[.slice none 0 0, .int .i64 0, .slice none 0 0, .slice none 0 0] 28 (0, 0)) := (hba.block _ (by simp)).trans (by simpa using heap_alloc_new ((w.alloc (.cells #[.slice A0 d.now.st.length c0, .int .i64 d.now.step, .slice A2 d.now.word.length c2, .slice A3 d.past.length c3] 28)).alloc (.cells #[.int .i64 4, .int .i64 0, .int .i64 0] 30)) _)
  have hza : w.heap.size + 2 < wa.heap.size := by have := hba.size; simp at this; omega
  clear hba
  have x0 := block_cell BXa 0 rfl
  have x1 := block_cell BXa 1 rfl
  have x2 := block_cell BXa 2 rfl
  have x3 := block_cell BXa 3 rfl
  go_wp2_with fail
  clear x0 x1 x2 x3
  refine (s_l15Copy _ d _ (DkI.mk i0.at i2.at i3.at) (by omega) (by omega) (by omega) (fun j hj => by have := HSM.out j hj; omega)).mono ?_
  rintro e w1 ⟨v1, rfl, ⟨f, hD⟩, hb1⟩
  obtain ⟨y0, y2, y3, rfl, hT0, hT2, hPs⟩ := hD
  obtain ⟨B0, e0, rfl⟩ := hT0.ints.form
  obtain ⟨B2, e2, rfl⟩ := hT2.ints.form
  obtain ⟨B3, e3, rfl⟩ := hPs.pls.form
  haveI b1 : Bel wa w1 := Bel.step (w := wa) hb1
  go_upto_region 4 with (fail)
  obtain ⟨W5, hW5⟩ : ∃ W5, W5 = w1.alloc (.cells #[.slice B0 d.now.st.length e0, .int .i64 d.now.step, .slice B2 d.now.word.length e2, .slice B3 d.past.length e3] 28) := ⟨_, rfl⟩
  rw [← hW5]
  haveI b5 : Bel w1 W5 := by rw [hW5]; exact Bel.alloc
  haveI ba5 : Bel wa W5 := Bel.step (w := wa) b5.out
  haveI bw5 : Bel w W5 := Bel.step (w := w) ba5.out
  have BO : W5.heap[w1.heap.size]? = some (.cells #[.slice B0 d.now.st.length e0, .int .i64 d.now.step, .slice B2 d.now.word.length e2, .slice B3 d.past.length e3] 28 (0, 0)) := by rw [hW5]; exact heap_alloc_new _ _
  have HDO : Hid (DkO W5 wa.heap.size w1.heap.size f (.agg #[.slice B0 d.now.st.length e0, .int .i64 d.now.step, .slice B2 d.now.word.length e2, .slice B3 d.past.length e3]) d) :=
    (DkO.kept (⟨_, _, _, rfl, hT0, hT2, hPs⟩ : DkO w1 wa.heap.size w1.heap.size f _ d) (fun k _ hk => b5.out.block k hk) : _)
  have hz1 : wa.heap.size ≤ w1.heap.size := hb1.size
  have hz5 : W5.heap.size = w1.heap.size + 1 := by rw [hW5]; simp
  have BX := block_at (W := W5) BXa
  have BD := block_at (W := W5) BDa
  have BR := block_at (W := W5) BRa
  have HZ5 := Lib.hid hz5
  clear hW5 hT0 hT2 hPs hb1 BXa BDa BRa hz5
  have x3 := block_cell BX 3 rfl
  have d0 := block_cell BD 0 rfl
  have d1 := block_cell BD 1 rfl
  have d2 := block_cell BD 2 rfl
  have x0 := block_cell BX 0 rfl
  have x1 := block_cell BX 1 rfl
  have x2 := block_cell BX 2 rfl
  have HMD := Lib.hid (fun w' h => s_l15Made (.agg #[.slice A0 d.now.st.length c0, .int .i64 d.now.step, .slice A2 d.now.word.length c2]) d.now ⟨4, 0, 0⟩ w' h (by omega) (by omega))
  rw [hq] at HMD
  go_wp2_with fail
  refine (HMD.out _ (PlI.mk i0.at i2.at)).mono ?_
  rintro e w7 ⟨v7, rfl, ⟨m0, m2, rfl, hM0, hM2⟩, hb7⟩
  obtain ⟨M0, n0, rfl⟩ := hM0.ints.form
  obtain ⟨M2, n2, rfl⟩ := hM2.ints.form
  haveI b7 : Bel W5 w7 := Bel.step (w := W5) hb7
  go_upto_region 10 with (fail)
  obtain ⟨W8, hW8⟩ : ∃ W8, W8 = w7.alloc (.cells #[.slice M0 q.st.length n0, .int .i64 q.step, .slice M2 q.word.length n2] 25) := ⟨_, rfl⟩
  rw [← hW8]
  haveI b8 : Bel w7 W8 := by rw [hW8]; exact Bel.alloc
  haveI b58 : Bel W5 W8 := Bel.step (w := W5) b8.out
  haveI bw8 : Bel w W8 := Bel.step (w := w) b58.out
  have BT : W8.heap[w7.heap.size]? = some (.cells #[.slice M0 q.st.length n0, .int .i64 q.step, .slice M2 q.word.length n2] 25 (0, 0)) := by rw [hW8]; exact heap_alloc_new _ _
  have HMI0 := Lib.hid (OwnI.at hM0 (w1 := W8))
  have HMI2 := Lib.hid (OwnI.at hM2 (w1 := W8))
  have hz7 : W5.heap.size ≤ w7.heap.size := hb7.size
  have hz8 : w7.heap.size + 1 = W8.heap.size := by rw [hW8]; simp
  have hz58 := HZ5.out
  clear x0 x1 x2 x3 d0 d1 d2
  have x0 := block_cell (block_at (W := W8) BX) 0 rfl
  have x1 := block_cell (block_at (W := W8) BX) 1 rfl
  have x2 := block_cell (block_at (W := W8) BX) 2 rfl
  have u0 := block_cell BT 0 rfl
  have u1 := block_cell BT 1 rfl
  have u2 := block_cell BT 2 rfl
  have HBT := Lib.hid BT; have HBX := Lib.hid BX; have HBO := Lib.hid BO; have HBR := Lib.hid BR; have HZ8 := Lib.hid hz8; have HZ58 := Lib.hid hz58
  clear hW8 BT BX BO BR BD hM0 hM2 hb7 HMD hz8 hz58
  refine PrintLast.start_ (n := 11) (S := fun w' => w'.cell? ⟨w.heap.size, 0, none⟩ = some (.slice A0 d.now.st.length c0) ∧ w'.cell? ⟨w.heap.size, 1, none⟩ = some (.int .i64 d.now.step) ∧ w'.cell? ⟨w.heap.size, 2, none⟩ = some (.slice A2 d.now.word.length c2) ∧ w'.cell? ⟨w7.heap.size, 0, none⟩ = some (.slice M0 q.st.length n0) ∧ w'.cell? ⟨w7.heap.size, 1, none⟩ = some (.int .i64 q.step) ∧ w'.cell? ⟨w7.heap.size, 2, none⟩ = some (.slice M2 q.word.length n2)) (ds := []) #[false, false, false, false, false, false, false, false, false, false, false] (by kernel_rfl) rfl rfl ⟨cell_at x0, cell_at x1, cell_at x2, cell_at u0, cell_at u1, cell_at u2⟩ (fun hHeld => ?_)
  refine PrintLast.take_ (i := 0) (N := (some 44)) (v := ?_) (a' := ?_) #[true, false, false, false, false, false, false, false, false, false, false] rfl rfl (by kernel_rfl) (fun _ _ _ h => h) (Or.inl ⟨by rfl, ?_⟩) hHeld ?_ ?_
  rotate_left
  · (rintro w' ⟨s0, s1, s2, s3, s4, s5⟩; go_simp; with_reducible rfl)
  rotate_left
  · (simp only [Act.put, List.setIfInBounds_toArray, List.set_cons_zero, List.set_cons_succ, PrintLast.i64_w, PrintLast.i32_w]; rfl)
  refine PrintLast.one_ (i := 1) (N := (some 45)) #[true, true, false, false, false, false, false, false, false, false, false] rfl rfl (by kernel_rfl) (by decide) (fun K hK => ?_)
  refine PrintLast.goes_ Tryd.func42 (by kernel_rfl) rfl #[.agg #[.slice M0 q.st.length n0, .int .i64 q.step, .slice M2 q.word.length n2]] (by rfl) rfl rfl (by (try simp only [List.map_toArray, List.map_cons, List.map_nil]); first | done | rfl) ?_
  refine (HPO.out _ _ (PlI.mk (OwnI.ints HMI0.out).at (OwnI.ints HMI2.out).at)).mono ?_
  rintro e w9 ⟨rfl, hb9⟩
  haveI : Bel W8 w9 := Bel.step (w := W8) hb9
  refine ⟨_, rfl, ?_⟩
  refine hK.out _ _ ⟨cell_at x0, cell_at x1, cell_at x2, cell_at u0, cell_at u1, cell_at u2⟩ (fun hHeld => ?_)
  clear hK K
  refine PrintLast.norm_ (a' := ?_) ?_ ?_
  rotate_left
  · (show Act.put _ (some 45) _ = _; simp only [Act.put, List.setIfInBounds_toArray, List.set_cons_zero, List.set_cons_succ, PrintLast.i64_w, PrintLast.i32_w]; rfl)
  refine PrintLast.pure_ (i := 2) (N := (some 46)) (v := ?_) (a' := ?_) #[true, true, true, false, false, false, false, false, false, false, false] rfl rfl (by kernel_rfl) (fun _ _ _ h => h) (Or.inl ⟨by rfl, ?_⟩) ?_ ?_
  rotate_left
  · (intro w'; go_simp; with_reducible rfl)
  rotate_left
  · (simp only [Act.put, List.setIfInBounds_toArray, List.set_cons_zero, List.set_cons_succ, PrintLast.i64_w, PrintLast.i32_w]; rfl)
  refine PrintLast.pure_ (i := 3) (N := (some 47)) (v := ?_) (a' := ?_) #[true, true, true, true, false, false, false, false, false, false, false] rfl rfl (by kernel_rfl) (fun _ _ _ h => h) (Or.inl ⟨by rfl, ?_⟩) ?_ ?_
  rotate_left
  · (intro w'; go_simp; with_reducible rfl)
  rotate_left
  · (simp only [Act.put, List.setIfInBounds_toArray, List.set_cons_zero, List.set_cons_succ, PrintLast.i64_w, PrintLast.i32_w]; rfl)
  refine PrintLast.pure_ (i := 4) (N := (some 48)) (v := undef) (a' := ?_) #[true, true, true, true, true, false, false, false, false, false, false] rfl rfl (by kernel_rfl) (fun _ _ _ h => h) (Or.inr ⟨by rfl, rfl⟩) ?_ ?_
  rotate_left
  · (simp only [Act.put, List.setIfInBounds_toArray, List.set_cons_zero, List.set_cons_succ, PrintLast.i64_w, PrintLast.i32_w]; rfl)
  refine PrintLast.pure_ (i := 5) (N := (some 49)) (v := undef) (a' := ?_) #[true, true, true, true, true, true, false, false, false, false, false] rfl rfl (by kernel_rfl) (fun _ _ _ h => h) (Or.inr ⟨by rfl, rfl⟩) ?_ ?_
  rotate_left
  · (simp only [Act.put, List.setIfInBounds_toArray, List.set_cons_zero, List.set_cons_succ, PrintLast.i64_w, PrintLast.i32_w]; rfl)
  refine PrintLast.pure_ (i := 6) (N := (some 50)) (v := undef) (a' := ?_) #[true, true, true, true, true, true, true, false, false, false, false] rfl rfl (by kernel_rfl) (fun _ _ _ h => h) (Or.inr ⟨by rfl, rfl⟩) ?_ ?_
  rotate_left
  · (simp only [Act.put, List.setIfInBounds_toArray, List.set_cons_zero, List.set_cons_succ, PrintLast.i64_w, PrintLast.i32_w]; rfl)
  refine PrintLast.pure_ (i := 7) (N := (some 51)) (v := undef) (a' := ?_) #[true, true, true, true, true, true, true, true, false, false, false] rfl rfl (by kernel_rfl) (fun _ _ _ h => h) (Or.inr ⟨by rfl, rfl⟩) ?_ ?_
  rotate_left
  · (simp only [Act.put, List.setIfInBounds_toArray, List.set_cons_zero, List.set_cons_succ, PrintLast.i64_w, PrintLast.i32_w]; rfl)
  refine PrintLast.pure_ (i := 8) (N := (some 52)) (v := undef) (a' := ?_) #[true, true, true, true, true, true, true, true, true, false, false] rfl rfl (by kernel_rfl) (fun _ _ _ h => h) (Or.inr ⟨by rfl, rfl⟩) ?_ ?_
  rotate_left
  · (simp only [Act.put, List.setIfInBounds_toArray, List.set_cons_zero, List.set_cons_succ, PrintLast.i64_w, PrintLast.i32_w]; rfl)
  refine PrintLast.pure_ (i := 9) (N := (some 53)) (v := undef) (a' := ?_) #[true, true, true, true, true, true, true, true, true, true, false] rfl rfl (by kernel_rfl) (fun _ _ _ h => h) (Or.inr ⟨by rfl, rfl⟩) ?_ ?_
  rotate_left
  · (simp only [Act.put, List.setIfInBounds_toArray, List.set_cons_zero, List.set_cons_succ, PrintLast.i64_w, PrintLast.i32_w]; rfl)
  refine PrintLast.pure_ (i := 10) (N := (some 54)) (v := ?_) (a' := ?_) #[true, true, true, true, true, true, true, true, true, true, true] rfl rfl (by kernel_rfl) (fun _ _ _ h => h) (Or.inl ⟨by rfl, ?_⟩) ?_ ?_
  rotate_left
  · (intro w'; go_simp; with_reducible rfl)
  rotate_left
  · (simp only [Act.put, List.setIfInBounds_toArray, List.set_cons_zero, List.set_cons_succ, PrintLast.i64_w, PrintLast.i32_w]; rfl)
  refine PrintLast.done_ (by kernel_rfl) ?_
  haveI bw9 : Bel W5 w9 := Bel.step (w := W5) (Bel.out : Below W8.heap.size W8 w9)
  haveI : Bel w w9 := Bel.step (w := w) bw9.out
  have RR := block_at (W := w9) HBR.out
  have r0 := block_cell RR 0 rfl
  have r1 := block_cell RR 1 rfl
  have r2 := block_cell RR 2 rfl
  have r3 := block_cell RR 3 rfl
  have f0 := block_frozen RR 0
  have f1 := block_frozen RR 1
  have f2 := block_frozen RR 2
  have f3 := block_frozen RR 3
  have OO := block_at (W := w9) HBO.out
  have o0 := block_cell OO 0 rfl
  have o1 := block_cell OO 1 rfl
  have o2 := block_cell OO 2 rfl
  have o3 := block_cell OO 3 rfl
  have HF := Lib.hid (((HDO.out.kept (w1 := w9) (fun k _ hk => bw9.out.block k (by have := HZ58.out; omega))).weak.set4 RR (by decide) (by decide) (.slice B0 d.now.st.length e0) (.int .i64 d.now.step) (.slice B2 d.now.word.length e2) (.slice B3 d.past.length e3)).stay (lo' := w.heap.size) (by omega) (by simp only [size_set4]; have := bw9.out.size; have := HZ58.out; omega))
  have HG := Lib.hid (((HDO.out.kept (w1 := w9) (fun k _ hk => bw9.out.block k (by have := HZ58.out; omega))).has.set4 RR (by decide) (by decide) (.slice B0 d.now.st.length e0) (.int .i64 d.now.step) (.slice B2 d.now.word.length e2) (.slice B3 d.past.length e3)).lo (lo' := w.heap.size) (by omega))
  have HB : Hid (Below w.heap.size w (set4 w9 (w.heap.size + 2) (.slice B0 d.now.st.length e0) (.int .i64 d.now.step) (.slice B2 d.now.word.length e2) (.slice B3 d.past.length e3))) := below_set4 Bel.out (by omega) _ _ _ _
  clear RR OO x0 x1 x2 u0 u1 u2
  go_wp2
  exact bodyPost_ret (v := .tuple #[.agg #[.slice B0 d.now.st.length e0, .int .i64 d.now.step, .slice B2 d.now.word.length e2, .slice B3 d.past.length e3], .bool false]) (by simp [results, Tryd.results9, go_sem, r0, r1, r2, r3]) rfl ⟨_, by rw [HD.out.2], by rw [HD.out.1]; exact ⟨HF.out, fun _ => HG.out⟩, HB.out⟩

theorem s_DeskDo (v : Value) (d : Dk) (a : Dd) (w : World) (h : DkI w v d) :
    Calls Tryd.prog 9 #[v, ddV a] w fun e w' => ∃ v', e = .returned (.tuple #[v', .bool (doOk d a)]) ∧ DkP w' w.heap.size v' (doDesk d a) d.past.length ∧ Below w.heap.size w w' := by
  obtain ⟨A0, c0, A2, c2, A3, c3, rfl, i0, i2, i3⟩ := h.open
  unfold ddV
  by_cases hok : deskOk d = true
  · by_cases hk : a.kind = 4
    · obtain ⟨kd, aa, bb⟩ := a
      obtain rfl : kd = 4 := hk
      by_cases ha : aa = 0
      · subst ha
        by_cases hb : bb = 0
        · subst hb
          by_cases hp : 0 < d.past.length
          · exact s_do_back d w A0 A2 A3 c0 c2 c3 i0 i2 i3 hok hp
          · exact s_do_4n d w A0 A2 A3 c0 c2 c3 i0 i2 i3 hok hp
        · exact s_do_4b d w A0 A2 A3 c0 c2 c3 i0 i2 i3 hok bb (by simp [hb])
      · exact s_do_4a d w A0 A2 A3 c0 c2 c3 i0 i2 i3 hok aa bb (by simp [ha])
    · have hk' : (a.kind == 4) = false := by simp [hk]
      by_cases hq : placeOk (madeOf d.now a) = true
      · by_cases ht : placeT (madeOf d.now a) = placeT d.now
        · exact s_do_same d a _ rfl w A0 A2 A3 c0 c2 c3 i0 i2 i3 hok hk' hq ht
        · exact s_do_took d a _ rfl w A0 A2 A3 c0 c2 c3 i0 i2 i3 hok hk' hq ht
      · exact s_do_bad d a _ rfl w A0 A2 A3 c0 c2 c3 i0 i2 i3 hok hk' (eq_false_of_ne_true hq)
  · exact s_do_none d a w A0 A2 A3 c0 c2 c3 i0 i2 i3 (eq_false_of_ne_true hok)
end Go.Proofs.YtpfncjaclgcbnaaDoor.Ub
