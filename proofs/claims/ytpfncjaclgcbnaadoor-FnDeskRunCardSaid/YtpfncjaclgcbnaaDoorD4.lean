/- Contract of what draws deeds: the first numbers. -/
import Derived.Test.YtpfncjaclgcbnaaDoorD3
import Derived.Test.YtpfncjaclgcbnaaDoorF16
set_option linter.unusedVariables false
set_option linter.unusedSimpArgs false
namespace Go.Proofs.YtpfncjaclgcbnaaDoor.Ub
open Go.RowKit Go.Proofs.YtpfncjaclgcbnaaDoorW

noncomputable def reg1d : Code := (Tryd.f33.body.bind (regionOf 1)).getD .skip

theorem eight {w : World} {g k : Nat} (h : w.heap[g]? = some (.cells #[.int .i64 0, .int .i64 1, .int .i64 2, .int .i64 2, .int .i64 2, .int .i64 2, .int .i64 3, .int .i64 4] 3 (0, 0))) (hk : (k : Int) < 8) : ∃ tv : Int, w.cell? ⟨g, k, none⟩ = some (.int .i64 tv) := by
  have h8 : k = 0 ∨ k = 1 ∨ k = 2 ∨ k = 3 ∨ k = 4 ∨ k = 5 ∨ k = 6 ∨ k = 7 := by omega
  rcases h8 with rfl | rfl | rfl | rfl | rfl | rfl | rfl | rfl <;> exact ⟨_, block_cell h _ rfl⟩
set_option maxHeartbeats 16000000 in
set_option maxRecDepth 1000000 in
theorem deed1 (g P : Nat) (wa : World) (hRd : Rd wa g P) (hP : P ≤ 90000) (y1 y2 y3 y4 y5 y6 y7 y8 y9 y10 y11 y12 y13 y14 y15 y16 y17 y18 y19 y20 y21 y22 y23 y24 y25 y26 y27 y28 y29 y30 y31 y32 y33 y34 y35 y36 y37 y38 y39 y40 y41 y42 y43 y44 y45 y46 y47 y48 y49 y50 y51 y52 y53 y54 y55 y56 y57 y58 y59 y60 : Value) (Q : Exit → Act → World → Prop) (hQp : ∀ c (a : Act) d v w', Q (.panic c) (a.put d v) w' → Q (.panic c) a w')
    (hQ : ∀ (ga : Nat) (kd : Int) (v6 v7 v8 v9 v10 v11 v12 v13 v14 v15 v16 : Value) (w' : World), wa.heap.size ≤ ga → w'.heap[ga]? = some (.cells #[.int .i64 kd, .int .i64 0, .int .i64 0] 30 (0, 0)) → Rd w' g (P + 2) → Gr g wa w' →
      Q .normal ⟨#[.pointer (some ⟨g, 0, none⟩), y1, y2, y3, y4, .pointer (some ⟨ga, 0, none⟩), v6, v7, v8, v9, v10, v11, v12, v13, v14, v15, v16, y17, y18, y19, y20, y21, y22, y23, y24, y25, y26, y27, y28, y29, y30, y31, y32, y33, y34, y35, y36, y37, y38, y39, y40, y41, y42, y43, y44, y45, y46, y47, y48, y49, y50, y51, y52, y53, y54, y55, y56, y57, y58, y59, y60], []⟩ w') :
    Code.wp Tryd.prog reg1d Q ⟨#[.pointer (some ⟨g, 0, none⟩), y1, y2, y3, y4, y5, y6, y7, y8, y9, y10, y11, y12, y13, y14, y15, y16, y17, y18, y19, y20, y21, y22, y23, y24, y25, y26, y27, y28, y29, y30, y31, y32, y33, y34, y35, y36, y37, y38, y39, y40, y41, y42, y43, y44, y45, y46, y47, y48, y49, y50, y51, y52, y53, y54, y55, y56, y57, y58, y59, y60], []⟩ wa := by
  conv => arg 2; whnf
  have HQ := Lib.hid hQ; clear hQ
  refine PrintLast.start_ (n := 13) (S := fun w' => True) (ds := [12]) #[false, false, false, false, false, false, false, false, false, false, false, false, false] (by kernel_rfl) rfl rfl trivial (fun hHeld => ?_)
  refine PrintLast.pure_ (i := 1) (N := (some 7)) (v := ?_) (a' := ?_) #[false, true, false, false, false, false, false, false, false, false, false, false, false] rfl rfl (by kernel_rfl) (fun _ _ _ h => hQp _ _ _ _ _ h) (Or.inl ⟨by rfl, ?_⟩) ?_ ?_
  rotate_left
  · (intro w'; go_simp; with_reducible rfl)
  rotate_left
  · (simp only [Act.put, List.setIfInBounds_toArray, List.set_cons_zero, List.set_cons_succ, PrintLast.i64_w, PrintLast.i32_w]; rfl)
  refine PrintLast.pure_ (i := 5) (N := (some 11)) (v := ?_) (a' := ?_) #[false, true, false, false, false, true, false, false, false, false, false, false, false] rfl rfl (by kernel_rfl) (fun _ _ _ h => hQp _ _ _ _ _ h) (Or.inl ⟨by rfl, ?_⟩) ?_ ?_
  rotate_left
  · (intro w'; go_simp; with_reducible rfl)
  rotate_left
  · (simp only [Act.put, List.setIfInBounds_toArray, List.set_cons_zero, List.set_cons_succ, PrintLast.i64_w, PrintLast.i32_w]; rfl)
  obtain ⟨u0, hu0⟩ : ∃ u0, u0 = wa.drew := ⟨_, rfl⟩
  rw [← hu0]
  have hR : Rd u0 g P := by rw [hu0]; exact hRd.bel (Bel.drew (w := wa) (W := wa)).out
  have hwu : Gr g wa u0 := by rw [hu0]; exact Gr.of_bel (Bel.drew (w := wa) (W := wa)).out
  have HZU : Hid (u0.heap.size = wa.heap.size) := by show _ = _; rw [hu0]; rfl
  have HT : Hid (Gr g u0 u0) := ⟨grown_refl _ _⟩
  have hgw : g < wa.heap.size := hRd.lt
  clear hu0 hHeld
  refine PrintLast.three_ (i := 0) (j := 2) (k := 11) (Ni := some 6) (Nj := some 8) (Nk := some 5) #[true, true, false, false, false, true, false, false, false, false, false, false, false] #[false, true, true, false, false, true, false, false, false, false, false, false, false] #[false, true, false, false, false, true, false, false, false, false, false, true, false] rfl rfl rfl rfl rfl rfl (by kernel_rfl) (by decide) (by decide) (by decide) (fun K hK => ?_) (fun K hK => ?_) (fun K hK => ?_)
  · skip
    refine PrintLast.value_ (w1 := ?_) (v := ?_) (by rfl) rfl ?_ ?_
    rotate_left 2
    · (go_simp; constructor <;> rfl)
    obtain ⟨u1, hu⟩ : ∃ u1, u1 = u0.alloc (.cells #[.int .i64 0, .int .i64 1, .int .i64 2, .int .i64 2, .int .i64 2, .int .i64 2, .int .i64 3, .int .i64 4] 3) := ⟨_, rfl⟩
    rw [← hu]
    have hbc : Below u0.heap.size u0 u1 := by rw [hu]; exact (Bel.alloc (w := u0) (W := u0)).out
    obtain ⟨b6, hbe⟩ : ∃ b, b = u0.heap.size := ⟨_, rfl⟩
    have hb : u1.heap[b6]? = some (.cells #[.int .i64 0, .int .i64 1, .int .i64 2, .int .i64 2, .int .i64 2, .int .i64 2, .int .i64 3, .int .i64 4] 3 (0, 0)) := by rw [hu, hbe]; exact heap_alloc_new _ _
    rw [← hbe]
    have hgb6 : g < b6 ∧ wa.heap.size ≤ b6 := by (have h1 := HZU.out; have h2 := HT.out.size; rw [hbe]; omega)
    have HB6 := Lib.hid hb
    have hR := hR.bel hbc
    have t0 : Gr g u0 u1 := Gr.of_bel hbc
    clear hu hbc hb hbe
    have HT := Lib.hid (HT.out.trans t0)
    clear t0
    refine hK.out _ _ trivial (fun hHeld => ?_)
    clear hK K
    refine PrintLast.norm_ (a' := ?_) ?_ ?_
    rotate_left
    · (show Act.put _ (some 6) _ = _; simp only [Act.put, List.setIfInBounds_toArray, List.set_cons_zero, List.set_cons_succ, PrintLast.i64_w, PrintLast.i32_w]; rfl)
    refine PrintLast.two_ (i := 2) (j := 11) (Ni := some 8) (Nj := some 5) #[true, true, true, false, false, true, false, false, false, false, false, false, false] #[true, true, false, false, false, true, false, false, false, false, false, true, false] rfl rfl rfl rfl (by kernel_rfl) (by decide) (by decide) (fun K hK => ?_) (fun K hK => ?_)
    · skip
      refine PrintLast.goes_ Tryd.func68 (by kernel_rfl) rfl #[.pointer (some ⟨g, 0, none⟩), .int .i64 8] (by rfl) rfl rfl (by (try simp only [List.map_toArray, List.map_cons, List.map_nil]); first | done | rfl) ?_
      refine (s_pick g _ 8 _ (by assumption) (by omega) (by omega) (by omega)).mono ?_
      rintro e u2 ⟨k8, rfl, hk8, hR, hG⟩
      have lk8 : (k8 : Int) < 8 := hk8 (by omega)
      refine ⟨_, rfl, ?_⟩
      have t1 : Gr g u1 u2 := ⟨hG⟩
      clear hG hk8
      have HB6 := Lib.hid (t1.block HB6.out (by omega))
      have HT := Lib.hid (HT.out.trans t1)
      clear t1
      refine hK.out _ _ trivial (fun hHeld => ?_)
      clear hK K
      refine PrintLast.norm_ (a' := ?_) ?_ ?_
      rotate_left
      · (show Act.put _ (some 8) _ = _; simp only [Act.put, List.setIfInBounds_toArray, List.set_cons_zero, List.set_cons_succ, PrintLast.i64_w, PrintLast.i32_w]; rfl)
      refine PrintLast.pure_ (i := 3) (N := (some 9)) (v := ?_) (a' := ?_) #[true, true, true, true, false, true, false, false, false, false, false, false, false] rfl rfl (by kernel_rfl) (fun _ _ _ h => hQp _ _ _ _ _ h) (Or.inl ⟨by rfl, ?_⟩) ?_ ?_
      rotate_left
      · (intro w'; go_simp; with_reducible rfl)
      rotate_left
      · (simp only [Act.put, List.setIfInBounds_toArray, List.set_cons_zero, List.set_cons_succ, PrintLast.i64_w, PrintLast.i32_w]; rfl)
      refine PrintLast.three_ (i := 4) (j := 6) (k := 11) (Ni := some 10) (Nj := some 12) (Nk := some 5) #[true, true, true, true, true, true, false, false, false, false, false, false, false] #[true, true, true, true, false, true, true, false, false, false, false, false, false] #[true, true, true, true, false, true, false, false, false, false, false, true, false] rfl rfl rfl rfl rfl rfl (by kernel_rfl) (by decide) (by decide) (by decide) (fun K hK => ?_) (fun K hK => ?_) (fun K hK => ?_)
      · skip
        obtain ⟨tv, htv⟩ := eight HB6.out lk8
        refine PrintLast.value_ (w1 := ?_) (v := ?_) (by rfl) rfl ?_ ?_
        rotate_left 2
        · (go_simp; constructor <;> rfl)
        have t2 : Gr g u2 u2 := ⟨grown_refl _ _⟩
        clear htv
        have HB6 := Lib.hid (t2.block HB6.out (by omega))
        have HT := Lib.hid (HT.out.trans t2)
        clear t2
        refine hK.out _ _ trivial (fun hHeld => ?_)
        clear hK K
        refine PrintLast.norm_ (a' := ?_) ?_ ?_
        rotate_left
        · (show Act.put _ (some 10) _ = _; simp only [Act.put, List.setIfInBounds_toArray, List.set_cons_zero, List.set_cons_succ, PrintLast.i64_w, PrintLast.i32_w]; rfl)
        refine PrintLast.two_ (i := 6) (j := 11) (Ni := some 12) (Nj := some 5) #[true, true, true, true, true, true, true, false, false, false, false, false, false] #[true, true, true, true, true, true, false, false, false, false, false, true, false] rfl rfl rfl rfl (by kernel_rfl) (by decide) (by decide) (fun K hK => ?_) (fun K hK => ?_)
        · skip
          refine PrintLast.goes_ Tryd.func68 (by kernel_rfl) rfl #[.pointer (some ⟨g, 0, none⟩), .int .i64 60] (by rfl) rfl rfl (by (try simp only [List.map_toArray, List.map_cons, List.map_nil]); first | done | rfl) ?_
          refine (s_pick g _ 60 _ (by assumption) (by omega) (by omega) (by omega)).mono ?_
          rintro e u3 ⟨k12, rfl, hk12, hR, hG⟩
          have lk12 : (k12 : Int) < 60 := hk12 (by omega)
          refine ⟨_, rfl, ?_⟩
          have t2 : Gr g u2 u3 := ⟨hG⟩
          clear hG hk12
          have HB6 := Lib.hid (t2.block HB6.out (by omega))
          have HT := Lib.hid (HT.out.trans t2)
          clear t2
          refine hK.out _ _ trivial (fun hHeld => ?_)
          clear hK K
          refine PrintLast.norm_ (a' := ?_) ?_ ?_
          rotate_left
          · (show Act.put _ (some 12) _ = _; simp only [Act.put, List.setIfInBounds_toArray, List.set_cons_zero, List.set_cons_succ, PrintLast.i64_w, PrintLast.i32_w]; rfl)
          refine PrintLast.pure_ (i := 7) (N := (some 13)) (v := ?_) (a' := ?_) #[true, true, true, true, true, true, true, true, false, false, false, false, false] rfl rfl (by kernel_rfl) (fun _ _ _ h => hQp _ _ _ _ _ h) (Or.inl ⟨by rfl, ?_⟩) ?_ ?_
          rotate_left
          · (intro w'; go_simp; with_reducible rfl)
          rotate_left
          · (simp only [Act.put, List.setIfInBounds_toArray, List.set_cons_zero, List.set_cons_succ, PrintLast.i64_w, PrintLast.i32_w]; rfl)
          refine PrintLast.pure_ (i := 8) (N := (some 14)) (v := ?_) (a' := ?_) #[true, true, true, true, true, true, true, true, true, false, false, false, false] rfl rfl (by kernel_rfl) (fun _ _ _ h => hQp _ _ _ _ _ h) (Or.inl ⟨by rfl, ?_⟩) ?_ ?_
          rotate_left
          · (intro w'; go_simp; with_reducible rfl)
          rotate_left
          · (simp only [Act.put, List.setIfInBounds_toArray, List.set_cons_zero, List.set_cons_succ, PrintLast.i64_w, PrintLast.i32_w]; rfl)
          refine PrintLast.pure_ (i := 9) (N := (some 15)) (v := ?_) (a' := ?_) #[true, true, true, true, true, true, true, true, true, true, false, false, false] rfl rfl (by kernel_rfl) (fun _ _ _ h => hQp _ _ _ _ _ h) (Or.inl ⟨by rfl, ?_⟩) ?_ ?_
          rotate_left
          · (intro w'; go_simp; with_reducible rfl)
          rotate_left
          · (simp only [Act.put, List.setIfInBounds_toArray, List.set_cons_zero, List.set_cons_succ, PrintLast.i64_w, PrintLast.i32_w]; rfl)
          refine PrintLast.pure_ (i := 10) (N := (some 16)) (v := ?_) (a' := ?_) #[true, true, true, true, true, true, true, true, true, true, true, false, false] rfl rfl (by kernel_rfl) (fun _ _ _ h => hQp _ _ _ _ _ h) (Or.inl ⟨by rfl, ?_⟩) ?_ ?_
          rotate_left
          · (intro w'; go_simp; with_reducible rfl)
          rotate_left
          · (simp only [Act.put, List.setIfInBounds_toArray, List.set_cons_zero, List.set_cons_succ, PrintLast.i64_w, PrintLast.i32_w]; rfl)
          refine PrintLast.one_ (i := 11) (N := (some 5)) #[true, true, true, true, true, true, true, true, true, true, true, true, false] rfl rfl (by kernel_rfl) (by decide) (fun K hK => ?_)
          refine PrintLast.value_ (w1 := ?_) (v := ?_) (by rfl) rfl ?_ ?_
          rotate_left 2
          · (go_simp; constructor <;> rfl)
          obtain ⟨u4, hu⟩ : ∃ u4, u4 = u3.alloc (.cells #[.int .i64 0, .int .i64 0, .int .i64 0] 30) := ⟨_, rfl⟩
          rw [← hu]
          have hbc : Below u3.heap.size u3 u4 := by rw [hu]; exact (Bel.alloc (w := u3) (W := u3)).out
          obtain ⟨b5, hbe⟩ : ∃ b, b = u3.heap.size := ⟨_, rfl⟩
          have hb : u4.heap[b5]? = some (.cells #[.int .i64 0, .int .i64 0, .int .i64 0] 30 (0, 0)) := by rw [hu, hbe]; exact heap_alloc_new _ _
          rw [← hbe]
          have hgb5 : g < b5 ∧ wa.heap.size ≤ b5 := by (have h1 := HZU.out; have h2 := HT.out.size; rw [hbe]; omega)
          have HB5 := Lib.hid hb
          have hR := hR.bel hbc
          have t3 : Gr g u3 u4 := Gr.of_bel hbc
          clear hu hbc hb hbe
          have HB6 := Lib.hid (t3.block HB6.out (by omega))
          have HT := Lib.hid (HT.out.trans t3)
          clear t3
          refine hK.out _ _ trivial (fun hHeld => ?_)
          clear hK K
          refine PrintLast.norm_ (a' := ?_) ?_ ?_
          rotate_left
          · (show Act.put _ (some 5) _ = _; simp only [Act.put, List.setIfInBounds_toArray, List.set_cons_zero, List.set_cons_succ, PrintLast.i64_w, PrintLast.i32_w]; rfl)
          have a0 := block_cell HB5.out 0 rfl
          have a1 := block_cell HB5.out 1 rfl
          have a2 := block_cell HB5.out 2 rfl
          have p0 := block_frozen HB5.out 0
          have p1 := block_frozen HB5.out 1
          have p2 := block_frozen HB5.out 2
          refine PrintLast.last_ (i := 12) (N := none) #[true, true, true, true, true, true, true, true, true, true, true, true, true] rfl rfl (by kernel_rfl) (by decide) (fun K hK => ?_)
          refine PrintLast.skip_ (w1 := ?_) (by rfl) rfl ?_ ?_
          rotate_left
          · (go_simp; rfl)
          refine hK.out _ _ ?_
          clear hK K
          refine PrintLast.done_ (by kernel_rfl) ?_
          refine HQ.out b5 _ _ _ _ _ _ _ _ _ _ _ _ _ hgb5.2 (block_set (block_set (block_set HB5.out 0 _) 1 _) 2 _) (hR.kept (fun i hi => ?_)) ((((hwu.trans HT.out).set (p := ⟨b5, 0, none⟩) hgb5.2 _).set (p := ⟨b5, 1, none⟩) hgb5.2 _).set (p := ⟨b5, 2, none⟩) hgb5.2 _)
          rw [Below.heap_setCell _ _ _ _ (by simp; omega), Below.heap_setCell _ _ _ _ (by simp; omega), Below.heap_setCell _ _ _ _ (by simp; omega)]
        · skip
          refine PrintLast.value_ (w1 := ?_) (v := ?_) (by rfl) rfl ?_ ?_
          rotate_left 2
          · (go_simp; constructor <;> rfl)
          obtain ⟨u3, hu⟩ : ∃ u3, u3 = u2.alloc (.cells #[.int .i64 0, .int .i64 0, .int .i64 0] 30) := ⟨_, rfl⟩
          rw [← hu]
          have hbc : Below u2.heap.size u2 u3 := by rw [hu]; exact (Bel.alloc (w := u2) (W := u2)).out
          obtain ⟨b5, hbe⟩ : ∃ b, b = u2.heap.size := ⟨_, rfl⟩
          have hb : u3.heap[b5]? = some (.cells #[.int .i64 0, .int .i64 0, .int .i64 0] 30 (0, 0)) := by rw [hu, hbe]; exact heap_alloc_new _ _
          rw [← hbe]
          have hgb5 : g < b5 ∧ wa.heap.size ≤ b5 := by (have h1 := HZU.out; have h2 := HT.out.size; rw [hbe]; omega)
          have HB5 := Lib.hid hb
          have hR := hR.bel hbc
          have t2 : Gr g u2 u3 := Gr.of_bel hbc
          clear hu hbc hb hbe
          have HB6 := Lib.hid (t2.block HB6.out (by omega))
          have HT := Lib.hid (HT.out.trans t2)
          clear t2
          refine hK.out _ _ trivial (fun hHeld => ?_)
          clear hK K
          refine PrintLast.norm_ (a' := ?_) ?_ ?_
          rotate_left
          · (show Act.put _ (some 5) _ = _; simp only [Act.put, List.setIfInBounds_toArray, List.set_cons_zero, List.set_cons_succ, PrintLast.i64_w, PrintLast.i32_w]; rfl)
          refine PrintLast.one_ (i := 6) (N := (some 12)) #[true, true, true, true, true, true, true, false, false, false, false, true, false] rfl rfl (by kernel_rfl) (by decide) (fun K hK => ?_)
          refine PrintLast.goes_ Tryd.func68 (by kernel_rfl) rfl #[.pointer (some ⟨g, 0, none⟩), .int .i64 60] (by rfl) rfl rfl (by (try simp only [List.map_toArray, List.map_cons, List.map_nil]); first | done | rfl) ?_
          refine (s_pick g _ 60 _ (by assumption) (by omega) (by omega) (by omega)).mono ?_
          rintro e u4 ⟨k12, rfl, hk12, hR, hG⟩
          have lk12 : (k12 : Int) < 60 := hk12 (by omega)
          refine ⟨_, rfl, ?_⟩
          have t3 : Gr g u3 u4 := ⟨hG⟩
          clear hG hk12
          have HB6 := Lib.hid (t3.block HB6.out (by omega))
          have HB5 := Lib.hid (t3.block HB5.out (by omega))
          have HT := Lib.hid (HT.out.trans t3)
          clear t3
          refine hK.out _ _ trivial (fun hHeld => ?_)
          clear hK K
          refine PrintLast.norm_ (a' := ?_) ?_ ?_
          rotate_left
          · (show Act.put _ (some 12) _ = _; simp only [Act.put, List.setIfInBounds_toArray, List.set_cons_zero, List.set_cons_succ, PrintLast.i64_w, PrintLast.i32_w]; rfl)
          refine PrintLast.pure_ (i := 7) (N := (some 13)) (v := ?_) (a' := ?_) #[true, true, true, true, true, true, true, true, false, false, false, true, false] rfl rfl (by kernel_rfl) (fun _ _ _ h => hQp _ _ _ _ _ h) (Or.inl ⟨by rfl, ?_⟩) ?_ ?_
          rotate_left
          · (intro w'; go_simp; with_reducible rfl)
          rotate_left
          · (simp only [Act.put, List.setIfInBounds_toArray, List.set_cons_zero, List.set_cons_succ, PrintLast.i64_w, PrintLast.i32_w]; rfl)
          refine PrintLast.pure_ (i := 8) (N := (some 14)) (v := ?_) (a' := ?_) #[true, true, true, true, true, true, true, true, true, false, false, true, false] rfl rfl (by kernel_rfl) (fun _ _ _ h => hQp _ _ _ _ _ h) (Or.inl ⟨by rfl, ?_⟩) ?_ ?_
          rotate_left
          · (intro w'; go_simp; with_reducible rfl)
          rotate_left
          · (simp only [Act.put, List.setIfInBounds_toArray, List.set_cons_zero, List.set_cons_succ, PrintLast.i64_w, PrintLast.i32_w]; rfl)
          refine PrintLast.pure_ (i := 9) (N := (some 15)) (v := ?_) (a' := ?_) #[true, true, true, true, true, true, true, true, true, true, false, true, false] rfl rfl (by kernel_rfl) (fun _ _ _ h => hQp _ _ _ _ _ h) (Or.inl ⟨by rfl, ?_⟩) ?_ ?_
          rotate_left
          · (intro w'; go_simp; with_reducible rfl)
          rotate_left
          · (simp only [Act.put, List.setIfInBounds_toArray, List.set_cons_zero, List.set_cons_succ, PrintLast.i64_w, PrintLast.i32_w]; rfl)
          refine PrintLast.pure_ (i := 10) (N := (some 16)) (v := ?_) (a' := ?_) #[true, true, true, true, true, true, true, true, true, true, true, true, false] rfl rfl (by kernel_rfl) (fun _ _ _ h => hQp _ _ _ _ _ h) (Or.inl ⟨by rfl, ?_⟩) ?_ ?_
          rotate_left
          · (intro w'; go_simp; with_reducible rfl)
          rotate_left
          · (simp only [Act.put, List.setIfInBounds_toArray, List.set_cons_zero, List.set_cons_succ, PrintLast.i64_w, PrintLast.i32_w]; rfl)
          have a0 := block_cell HB5.out 0 rfl
          have a1 := block_cell HB5.out 1 rfl
          have a2 := block_cell HB5.out 2 rfl
          have p0 := block_frozen HB5.out 0
          have p1 := block_frozen HB5.out 1
          have p2 := block_frozen HB5.out 2
          refine PrintLast.last_ (i := 12) (N := none) #[true, true, true, true, true, true, true, true, true, true, true, true, true] rfl rfl (by kernel_rfl) (by decide) (fun K hK => ?_)
          refine PrintLast.skip_ (w1 := ?_) (by rfl) rfl ?_ ?_
          rotate_left
          · (go_simp; rfl)
          refine hK.out _ _ ?_
          clear hK K
          refine PrintLast.done_ (by kernel_rfl) ?_
          refine HQ.out b5 _ _ _ _ _ _ _ _ _ _ _ _ _ hgb5.2 (block_set (block_set (block_set HB5.out 0 _) 1 _) 2 _) (hR.kept (fun i hi => ?_)) ((((hwu.trans HT.out).set (p := ⟨b5, 0, none⟩) hgb5.2 _).set (p := ⟨b5, 1, none⟩) hgb5.2 _).set (p := ⟨b5, 2, none⟩) hgb5.2 _)
          rw [Below.heap_setCell _ _ _ _ (by simp; omega), Below.heap_setCell _ _ _ _ (by simp; omega), Below.heap_setCell _ _ _ _ (by simp; omega)]
      · skip
        refine PrintLast.goes_ Tryd.func68 (by kernel_rfl) rfl #[.pointer (some ⟨g, 0, none⟩), .int .i64 60] (by rfl) rfl rfl (by (try simp only [List.map_toArray, List.map_cons, List.map_nil]); first | done | rfl) ?_
        refine (s_pick g _ 60 _ (by assumption) (by omega) (by omega) (by omega)).mono ?_
        rintro e u3 ⟨k12, rfl, hk12, hR, hG⟩
        have lk12 : (k12 : Int) < 60 := hk12 (by omega)
        refine ⟨_, rfl, ?_⟩
        have t2 : Gr g u2 u3 := ⟨hG⟩
        clear hG hk12
        have HB6 := Lib.hid (t2.block HB6.out (by omega))
        have HT := Lib.hid (HT.out.trans t2)
        clear t2
        refine hK.out _ _ trivial (fun hHeld => ?_)
        clear hK K
        refine PrintLast.norm_ (a' := ?_) ?_ ?_
        rotate_left
        · (show Act.put _ (some 12) _ = _; simp only [Act.put, List.setIfInBounds_toArray, List.set_cons_zero, List.set_cons_succ, PrintLast.i64_w, PrintLast.i32_w]; rfl)
        refine PrintLast.pure_ (i := 7) (N := (some 13)) (v := ?_) (a' := ?_) #[true, true, true, true, false, true, true, true, false, false, false, false, false] rfl rfl (by kernel_rfl) (fun _ _ _ h => hQp _ _ _ _ _ h) (Or.inl ⟨by rfl, ?_⟩) ?_ ?_
        rotate_left
        · (intro w'; go_simp; with_reducible rfl)
        rotate_left
        · (simp only [Act.put, List.setIfInBounds_toArray, List.set_cons_zero, List.set_cons_succ, PrintLast.i64_w, PrintLast.i32_w]; rfl)
        refine PrintLast.pure_ (i := 8) (N := (some 14)) (v := ?_) (a' := ?_) #[true, true, true, true, false, true, true, true, true, false, false, false, false] rfl rfl (by kernel_rfl) (fun _ _ _ h => hQp _ _ _ _ _ h) (Or.inl ⟨by rfl, ?_⟩) ?_ ?_
        rotate_left
        · (intro w'; go_simp; with_reducible rfl)
        rotate_left
        · (simp only [Act.put, List.setIfInBounds_toArray, List.set_cons_zero, List.set_cons_succ, PrintLast.i64_w, PrintLast.i32_w]; rfl)
        refine PrintLast.two_ (i := 4) (j := 11) (Ni := some 10) (Nj := some 5) #[true, true, true, true, true, true, true, true, true, false, false, false, false] #[true, true, true, true, false, true, true, true, true, false, false, true, false] rfl rfl rfl rfl (by kernel_rfl) (by decide) (by decide) (fun K hK => ?_) (fun K hK => ?_)
        · skip
          obtain ⟨tv, htv⟩ := eight HB6.out lk8
          refine PrintLast.value_ (w1 := ?_) (v := ?_) (by rfl) rfl ?_ ?_
          rotate_left 2
          · (go_simp; constructor <;> rfl)
          have t3 : Gr g u3 u3 := ⟨grown_refl _ _⟩
          clear htv
          have HB6 := Lib.hid (t3.block HB6.out (by omega))
          have HT := Lib.hid (HT.out.trans t3)
          clear t3
          refine hK.out _ _ trivial (fun hHeld => ?_)
          clear hK K
          refine PrintLast.norm_ (a' := ?_) ?_ ?_
          rotate_left
          · (show Act.put _ (some 10) _ = _; simp only [Act.put, List.setIfInBounds_toArray, List.set_cons_zero, List.set_cons_succ, PrintLast.i64_w, PrintLast.i32_w]; rfl)
          refine PrintLast.pure_ (i := 9) (N := (some 15)) (v := ?_) (a' := ?_) #[true, true, true, true, true, true, true, true, true, true, false, false, false] rfl rfl (by kernel_rfl) (fun _ _ _ h => hQp _ _ _ _ _ h) (Or.inl ⟨by rfl, ?_⟩) ?_ ?_
          rotate_left
          · (intro w'; go_simp; with_reducible rfl)
          rotate_left
          · (simp only [Act.put, List.setIfInBounds_toArray, List.set_cons_zero, List.set_cons_succ, PrintLast.i64_w, PrintLast.i32_w]; rfl)
          refine PrintLast.pure_ (i := 10) (N := (some 16)) (v := ?_) (a' := ?_) #[true, true, true, true, true, true, true, true, true, true, true, false, false] rfl rfl (by kernel_rfl) (fun _ _ _ h => hQp _ _ _ _ _ h) (Or.inl ⟨by rfl, ?_⟩) ?_ ?_
          rotate_left
          · (intro w'; go_simp; with_reducible rfl)
          rotate_left
          · (simp only [Act.put, List.setIfInBounds_toArray, List.set_cons_zero, List.set_cons_succ, PrintLast.i64_w, PrintLast.i32_w]; rfl)
          refine PrintLast.one_ (i := 11) (N := (some 5)) #[true, true, true, true, true, true, true, true, true, true, true, true, false] rfl rfl (by kernel_rfl) (by decide) (fun K hK => ?_)
          refine PrintLast.value_ (w1 := ?_) (v := ?_) (by rfl) rfl ?_ ?_
          rotate_left 2
          · (go_simp; constructor <;> rfl)
          obtain ⟨u4, hu⟩ : ∃ u4, u4 = u3.alloc (.cells #[.int .i64 0, .int .i64 0, .int .i64 0] 30) := ⟨_, rfl⟩
          rw [← hu]
          have hbc : Below u3.heap.size u3 u4 := by rw [hu]; exact (Bel.alloc (w := u3) (W := u3)).out
          obtain ⟨b5, hbe⟩ : ∃ b, b = u3.heap.size := ⟨_, rfl⟩
          have hb : u4.heap[b5]? = some (.cells #[.int .i64 0, .int .i64 0, .int .i64 0] 30 (0, 0)) := by rw [hu, hbe]; exact heap_alloc_new _ _
          rw [← hbe]
          have hgb5 : g < b5 ∧ wa.heap.size ≤ b5 := by (have h1 := HZU.out; have h2 := HT.out.size; rw [hbe]; omega)
          have HB5 := Lib.hid hb
          have hR := hR.bel hbc
          have t3 : Gr g u3 u4 := Gr.of_bel hbc
          clear hu hbc hb hbe
          have HB6 := Lib.hid (t3.block HB6.out (by omega))
          have HT := Lib.hid (HT.out.trans t3)
          clear t3
          refine hK.out _ _ trivial (fun hHeld => ?_)
          clear hK K
          refine PrintLast.norm_ (a' := ?_) ?_ ?_
          rotate_left
          · (show Act.put _ (some 5) _ = _; simp only [Act.put, List.setIfInBounds_toArray, List.set_cons_zero, List.set_cons_succ, PrintLast.i64_w, PrintLast.i32_w]; rfl)
          have a0 := block_cell HB5.out 0 rfl
          have a1 := block_cell HB5.out 1 rfl
          have a2 := block_cell HB5.out 2 rfl
          have p0 := block_frozen HB5.out 0
          have p1 := block_frozen HB5.out 1
          have p2 := block_frozen HB5.out 2
          refine PrintLast.last_ (i := 12) (N := none) #[true, true, true, true, true, true, true, true, true, true, true, true, true] rfl rfl (by kernel_rfl) (by decide) (fun K hK => ?_)
          refine PrintLast.skip_ (w1 := ?_) (by rfl) rfl ?_ ?_
          rotate_left
          · (go_simp; rfl)
          refine hK.out _ _ ?_
          clear hK K
          refine PrintLast.done_ (by kernel_rfl) ?_
          refine HQ.out b5 _ _ _ _ _ _ _ _ _ _ _ _ _ hgb5.2 (block_set (block_set (block_set HB5.out 0 _) 1 _) 2 _) (hR.kept (fun i hi => ?_)) ((((hwu.trans HT.out).set (p := ⟨b5, 0, none⟩) hgb5.2 _).set (p := ⟨b5, 1, none⟩) hgb5.2 _).set (p := ⟨b5, 2, none⟩) hgb5.2 _)
          rw [Below.heap_setCell _ _ _ _ (by simp; omega), Below.heap_setCell _ _ _ _ (by simp; omega), Below.heap_setCell _ _ _ _ (by simp; omega)]
        · skip
          refine PrintLast.value_ (w1 := ?_) (v := ?_) (by rfl) rfl ?_ ?_
          rotate_left 2
          · (go_simp; constructor <;> rfl)
          obtain ⟨u4, hu⟩ : ∃ u4, u4 = u3.alloc (.cells #[.int .i64 0, .int .i64 0, .int .i64 0] 30) := ⟨_, rfl⟩
          rw [← hu]
          have hbc : Below u3.heap.size u3 u4 := by rw [hu]; exact (Bel.alloc (w := u3) (W := u3)).out
          obtain ⟨b5, hbe⟩ : ∃ b, b = u3.heap.size := ⟨_, rfl⟩
          have hb : u4.heap[b5]? = some (.cells #[.int .i64 0, .int .i64 0, .int .i64 0] 30 (0, 0)) := by rw [hu, hbe]; exact heap_alloc_new _ _
          rw [← hbe]
          have hgb5 : g < b5 ∧ wa.heap.size ≤ b5 := by (have h1 := HZU.out; have h2 := HT.out.size; rw [hbe]; omega)
          have HB5 := Lib.hid hb
          have hR := hR.bel hbc
          have t3 : Gr g u3 u4 := Gr.of_bel hbc
          clear hu hbc hb hbe
          have HB6 := Lib.hid (t3.block HB6.out (by omega))
          have HT := Lib.hid (HT.out.trans t3)
          clear t3
          refine hK.out _ _ trivial (fun hHeld => ?_)
          clear hK K
          refine PrintLast.norm_ (a' := ?_) ?_ ?_
          rotate_left
          · (show Act.put _ (some 5) _ = _; simp only [Act.put, List.setIfInBounds_toArray, List.set_cons_zero, List.set_cons_succ, PrintLast.i64_w, PrintLast.i32_w]; rfl)
          refine PrintLast.one_ (i := 4) (N := (some 10)) #[true, true, true, true, true, true, true, true, true, false, false, true, false] rfl rfl (by kernel_rfl) (by decide) (fun K hK => ?_)
          obtain ⟨tv, htv⟩ := eight HB6.out lk8
          refine PrintLast.value_ (w1 := ?_) (v := ?_) (by rfl) rfl ?_ ?_
          rotate_left 2
          · (go_simp; constructor <;> rfl)
          have t4 : Gr g u4 u4 := ⟨grown_refl _ _⟩
          clear htv
          have HB6 := Lib.hid (t4.block HB6.out (by omega))
          have HB5 := Lib.hid (t4.block HB5.out (by omega))
          have HT := Lib.hid (HT.out.trans t4)
          clear t4
          refine hK.out _ _ trivial (fun hHeld => ?_)
          clear hK K
          refine PrintLast.norm_ (a' := ?_) ?_ ?_
          rotate_left
          · (show Act.put _ (some 10) _ = _; simp only [Act.put, List.setIfInBounds_toArray, List.set_cons_zero, List.set_cons_succ, PrintLast.i64_w, PrintLast.i32_w]; rfl)
          refine PrintLast.pure_ (i := 9) (N := (some 15)) (v := ?_) (a' := ?_) #[true, true, true, true, true, true, true, true, true, true, false, true, false] rfl rfl (by kernel_rfl) (fun _ _ _ h => hQp _ _ _ _ _ h) (Or.inl ⟨by rfl, ?_⟩) ?_ ?_
          rotate_left
          · (intro w'; go_simp; with_reducible rfl)
          rotate_left
          · (simp only [Act.put, List.setIfInBounds_toArray, List.set_cons_zero, List.set_cons_succ, PrintLast.i64_w, PrintLast.i32_w]; rfl)
          refine PrintLast.pure_ (i := 10) (N := (some 16)) (v := ?_) (a' := ?_) #[true, true, true, true, true, true, true, true, true, true, true, true, false] rfl rfl (by kernel_rfl) (fun _ _ _ h => hQp _ _ _ _ _ h) (Or.inl ⟨by rfl, ?_⟩) ?_ ?_
          rotate_left
          · (intro w'; go_simp; with_reducible rfl)
          rotate_left
          · (simp only [Act.put, List.setIfInBounds_toArray, List.set_cons_zero, List.set_cons_succ, PrintLast.i64_w, PrintLast.i32_w]; rfl)
          have a0 := block_cell HB5.out 0 rfl
          have a1 := block_cell HB5.out 1 rfl
          have a2 := block_cell HB5.out 2 rfl
          have p0 := block_frozen HB5.out 0
          have p1 := block_frozen HB5.out 1
          have p2 := block_frozen HB5.out 2
          refine PrintLast.last_ (i := 12) (N := none) #[true, true, true, true, true, true, true, true, true, true, true, true, true] rfl rfl (by kernel_rfl) (by decide) (fun K hK => ?_)
          refine PrintLast.skip_ (w1 := ?_) (by rfl) rfl ?_ ?_
          rotate_left
          · (go_simp; rfl)
          refine hK.out _ _ ?_
          clear hK K
          refine PrintLast.done_ (by kernel_rfl) ?_
          refine HQ.out b5 _ _ _ _ _ _ _ _ _ _ _ _ _ hgb5.2 (block_set (block_set (block_set HB5.out 0 _) 1 _) 2 _) (hR.kept (fun i hi => ?_)) ((((hwu.trans HT.out).set (p := ⟨b5, 0, none⟩) hgb5.2 _).set (p := ⟨b5, 1, none⟩) hgb5.2 _).set (p := ⟨b5, 2, none⟩) hgb5.2 _)
          rw [Below.heap_setCell _ _ _ _ (by simp; omega), Below.heap_setCell _ _ _ _ (by simp; omega), Below.heap_setCell _ _ _ _ (by simp; omega)]
      · skip
        refine PrintLast.value_ (w1 := ?_) (v := ?_) (by rfl) rfl ?_ ?_
        rotate_left 2
        · (go_simp; constructor <;> rfl)
        obtain ⟨u3, hu⟩ : ∃ u3, u3 = u2.alloc (.cells #[.int .i64 0, .int .i64 0, .int .i64 0] 30) := ⟨_, rfl⟩
        rw [← hu]
        have hbc : Below u2.heap.size u2 u3 := by rw [hu]; exact (Bel.alloc (w := u2) (W := u2)).out
        obtain ⟨b5, hbe⟩ : ∃ b, b = u2.heap.size := ⟨_, rfl⟩
        have hb : u3.heap[b5]? = some (.cells #[.int .i64 0, .int .i64 0, .int .i64 0] 30 (0, 0)) := by rw [hu, hbe]; exact heap_alloc_new _ _
        rw [← hbe]
        have hgb5 : g < b5 ∧ wa.heap.size ≤ b5 := by (have h1 := HZU.out; have h2 := HT.out.size; rw [hbe]; omega)
        have HB5 := Lib.hid hb
        have hR := hR.bel hbc
        have t2 : Gr g u2 u3 := Gr.of_bel hbc
        clear hu hbc hb hbe
        have HB6 := Lib.hid (t2.block HB6.out (by omega))
        have HT := Lib.hid (HT.out.trans t2)
        clear t2
        refine hK.out _ _ trivial (fun hHeld => ?_)
        clear hK K
        refine PrintLast.norm_ (a' := ?_) ?_ ?_
        rotate_left
        · (show Act.put _ (some 5) _ = _; simp only [Act.put, List.setIfInBounds_toArray, List.set_cons_zero, List.set_cons_succ, PrintLast.i64_w, PrintLast.i32_w]; rfl)
        refine PrintLast.two_ (i := 4) (j := 6) (Ni := some 10) (Nj := some 12) #[true, true, true, true, true, true, false, false, false, false, false, true, false] #[true, true, true, true, false, true, true, false, false, false, false, true, false] rfl rfl rfl rfl (by kernel_rfl) (by decide) (by decide) (fun K hK => ?_) (fun K hK => ?_)
        · skip
          obtain ⟨tv, htv⟩ := eight HB6.out lk8
          refine PrintLast.value_ (w1 := ?_) (v := ?_) (by rfl) rfl ?_ ?_
          rotate_left 2
          · (go_simp; constructor <;> rfl)
          have t3 : Gr g u3 u3 := ⟨grown_refl _ _⟩
          clear htv
          have HB6 := Lib.hid (t3.block HB6.out (by omega))
          have HB5 := Lib.hid (t3.block HB5.out (by omega))
          have HT := Lib.hid (HT.out.trans t3)
          clear t3
          refine hK.out _ _ trivial (fun hHeld => ?_)
          clear hK K
          refine PrintLast.norm_ (a' := ?_) ?_ ?_
          rotate_left
          · (show Act.put _ (some 10) _ = _; simp only [Act.put, List.setIfInBounds_toArray, List.set_cons_zero, List.set_cons_succ, PrintLast.i64_w, PrintLast.i32_w]; rfl)
          refine PrintLast.one_ (i := 6) (N := (some 12)) #[true, true, true, true, true, true, true, false, false, false, false, true, false] rfl rfl (by kernel_rfl) (by decide) (fun K hK => ?_)
          refine PrintLast.goes_ Tryd.func68 (by kernel_rfl) rfl #[.pointer (some ⟨g, 0, none⟩), .int .i64 60] (by rfl) rfl rfl (by (try simp only [List.map_toArray, List.map_cons, List.map_nil]); first | done | rfl) ?_
          refine (s_pick g _ 60 _ (by assumption) (by omega) (by omega) (by omega)).mono ?_
          rintro e u4 ⟨k12, rfl, hk12, hR, hG⟩
          have lk12 : (k12 : Int) < 60 := hk12 (by omega)
          refine ⟨_, rfl, ?_⟩
          have t3 : Gr g u3 u4 := ⟨hG⟩
          clear hG hk12
          have HB6 := Lib.hid (t3.block HB6.out (by omega))
          have HB5 := Lib.hid (t3.block HB5.out (by omega))
          have HT := Lib.hid (HT.out.trans t3)
          clear t3
          refine hK.out _ _ trivial (fun hHeld => ?_)
          clear hK K
          refine PrintLast.norm_ (a' := ?_) ?_ ?_
          rotate_left
          · (show Act.put _ (some 12) _ = _; simp only [Act.put, List.setIfInBounds_toArray, List.set_cons_zero, List.set_cons_succ, PrintLast.i64_w, PrintLast.i32_w]; rfl)
          refine PrintLast.pure_ (i := 7) (N := (some 13)) (v := ?_) (a' := ?_) #[true, true, true, true, true, true, true, true, false, false, false, true, false] rfl rfl (by kernel_rfl) (fun _ _ _ h => hQp _ _ _ _ _ h) (Or.inl ⟨by rfl, ?_⟩) ?_ ?_
          rotate_left
          · (intro w'; go_simp; with_reducible rfl)
          rotate_left
          · (simp only [Act.put, List.setIfInBounds_toArray, List.set_cons_zero, List.set_cons_succ, PrintLast.i64_w, PrintLast.i32_w]; rfl)
          refine PrintLast.pure_ (i := 8) (N := (some 14)) (v := ?_) (a' := ?_) #[true, true, true, true, true, true, true, true, true, false, false, true, false] rfl rfl (by kernel_rfl) (fun _ _ _ h => hQp _ _ _ _ _ h) (Or.inl ⟨by rfl, ?_⟩) ?_ ?_
          rotate_left
          · (intro w'; go_simp; with_reducible rfl)
          rotate_left
          · (simp only [Act.put, List.setIfInBounds_toArray, List.set_cons_zero, List.set_cons_succ, PrintLast.i64_w, PrintLast.i32_w]; rfl)
          refine PrintLast.pure_ (i := 9) (N := (some 15)) (v := ?_) (a' := ?_) #[true, true, true, true, true, true, true, true, true, true, false, true, false] rfl rfl (by kernel_rfl) (fun _ _ _ h => hQp _ _ _ _ _ h) (Or.inl ⟨by rfl, ?_⟩) ?_ ?_
          rotate_left
          · (intro w'; go_simp; with_reducible rfl)
          rotate_left
          · (simp only [Act.put, List.setIfInBounds_toArray, List.set_cons_zero, List.set_cons_succ, PrintLast.i64_w, PrintLast.i32_w]; rfl)
          refine PrintLast.pure_ (i := 10) (N := (some 16)) (v := ?_) (a' := ?_) #[true, true, true, true, true, true, true, true, true, true, true, true, false] rfl rfl (by kernel_rfl) (fun _ _ _ h => hQp _ _ _ _ _ h) (Or.inl ⟨by rfl, ?_⟩) ?_ ?_
          rotate_left
          · (intro w'; go_simp; with_reducible rfl)
          rotate_left
          · (simp only [Act.put, List.setIfInBounds_toArray, List.set_cons_zero, List.set_cons_succ, PrintLast.i64_w, PrintLast.i32_w]; rfl)
          have a0 := block_cell HB5.out 0 rfl
          have a1 := block_cell HB5.out 1 rfl
          have a2 := block_cell HB5.out 2 rfl
          have p0 := block_frozen HB5.out 0
          have p1 := block_frozen HB5.out 1
          have p2 := block_frozen HB5.out 2
          refine PrintLast.last_ (i := 12) (N := none) #[true, true, true, true, true, true, true, true, true, true, true, true, true] rfl rfl (by kernel_rfl) (by decide) (fun K hK => ?_)
          refine PrintLast.skip_ (w1 := ?_) (by rfl) rfl ?_ ?_
          rotate_left
          · (go_simp; rfl)
          refine hK.out _ _ ?_
          clear hK K
          refine PrintLast.done_ (by kernel_rfl) ?_
          refine HQ.out b5 _ _ _ _ _ _ _ _ _ _ _ _ _ hgb5.2 (block_set (block_set (block_set HB5.out 0 _) 1 _) 2 _) (hR.kept (fun i hi => ?_)) ((((hwu.trans HT.out).set (p := ⟨b5, 0, none⟩) hgb5.2 _).set (p := ⟨b5, 1, none⟩) hgb5.2 _).set (p := ⟨b5, 2, none⟩) hgb5.2 _)
          rw [Below.heap_setCell _ _ _ _ (by simp; omega), Below.heap_setCell _ _ _ _ (by simp; omega), Below.heap_setCell _ _ _ _ (by simp; omega)]
        · skip
          refine PrintLast.goes_ Tryd.func68 (by kernel_rfl) rfl #[.pointer (some ⟨g, 0, none⟩), .int .i64 60] (by rfl) rfl rfl (by (try simp only [List.map_toArray, List.map_cons, List.map_nil]); first | done | rfl) ?_
          refine (s_pick g _ 60 _ (by assumption) (by omega) (by omega) (by omega)).mono ?_
          rintro e u4 ⟨k12, rfl, hk12, hR, hG⟩
          have lk12 : (k12 : Int) < 60 := hk12 (by omega)
          refine ⟨_, rfl, ?_⟩
          have t3 : Gr g u3 u4 := ⟨hG⟩
          clear hG hk12
          have HB6 := Lib.hid (t3.block HB6.out (by omega))
          have HB5 := Lib.hid (t3.block HB5.out (by omega))
          have HT := Lib.hid (HT.out.trans t3)
          clear t3
          refine hK.out _ _ trivial (fun hHeld => ?_)
          clear hK K
          refine PrintLast.norm_ (a' := ?_) ?_ ?_
          rotate_left
          · (show Act.put _ (some 12) _ = _; simp only [Act.put, List.setIfInBounds_toArray, List.set_cons_zero, List.set_cons_succ, PrintLast.i64_w, PrintLast.i32_w]; rfl)
          refine PrintLast.pure_ (i := 7) (N := (some 13)) (v := ?_) (a' := ?_) #[true, true, true, true, false, true, true, true, false, false, false, true, false] rfl rfl (by kernel_rfl) (fun _ _ _ h => hQp _ _ _ _ _ h) (Or.inl ⟨by rfl, ?_⟩) ?_ ?_
          rotate_left
          · (intro w'; go_simp; with_reducible rfl)
          rotate_left
          · (simp only [Act.put, List.setIfInBounds_toArray, List.set_cons_zero, List.set_cons_succ, PrintLast.i64_w, PrintLast.i32_w]; rfl)
          refine PrintLast.pure_ (i := 8) (N := (some 14)) (v := ?_) (a' := ?_) #[true, true, true, true, false, true, true, true, true, false, false, true, false] rfl rfl (by kernel_rfl) (fun _ _ _ h => hQp _ _ _ _ _ h) (Or.inl ⟨by rfl, ?_⟩) ?_ ?_
          rotate_left
          · (intro w'; go_simp; with_reducible rfl)
          rotate_left
          · (simp only [Act.put, List.setIfInBounds_toArray, List.set_cons_zero, List.set_cons_succ, PrintLast.i64_w, PrintLast.i32_w]; rfl)
          refine PrintLast.one_ (i := 4) (N := (some 10)) #[true, true, true, true, true, true, true, true, true, false, false, true, false] rfl rfl (by kernel_rfl) (by decide) (fun K hK => ?_)
          obtain ⟨tv, htv⟩ := eight HB6.out lk8
          refine PrintLast.value_ (w1 := ?_) (v := ?_) (by rfl) rfl ?_ ?_
          rotate_left 2
          · (go_simp; constructor <;> rfl)
          have t4 : Gr g u4 u4 := ⟨grown_refl _ _⟩
          clear htv
          have HB6 := Lib.hid (t4.block HB6.out (by omega))
          have HB5 := Lib.hid (t4.block HB5.out (by omega))
          have HT := Lib.hid (HT.out.trans t4)
          clear t4
          refine hK.out _ _ trivial (fun hHeld => ?_)
          clear hK K
          refine PrintLast.norm_ (a' := ?_) ?_ ?_
          rotate_left
          · (show Act.put _ (some 10) _ = _; simp only [Act.put, List.setIfInBounds_toArray, List.set_cons_zero, List.set_cons_succ, PrintLast.i64_w, PrintLast.i32_w]; rfl)
          refine PrintLast.pure_ (i := 9) (N := (some 15)) (v := ?_) (a' := ?_) #[true, true, true, true, true, true, true, true, true, true, false, true, false] rfl rfl (by kernel_rfl) (fun _ _ _ h => hQp _ _ _ _ _ h) (Or.inl ⟨by rfl, ?_⟩) ?_ ?_
          rotate_left
          · (intro w'; go_simp; with_reducible rfl)
          rotate_left
          · (simp only [Act.put, List.setIfInBounds_toArray, List.set_cons_zero, List.set_cons_succ, PrintLast.i64_w, PrintLast.i32_w]; rfl)
          refine PrintLast.pure_ (i := 10) (N := (some 16)) (v := ?_) (a' := ?_) #[true, true, true, true, true, true, true, true, true, true, true, true, false] rfl rfl (by kernel_rfl) (fun _ _ _ h => hQp _ _ _ _ _ h) (Or.inl ⟨by rfl, ?_⟩) ?_ ?_
          rotate_left
          · (intro w'; go_simp; with_reducible rfl)
          rotate_left
          · (simp only [Act.put, List.setIfInBounds_toArray, List.set_cons_zero, List.set_cons_succ, PrintLast.i64_w, PrintLast.i32_w]; rfl)
          have a0 := block_cell HB5.out 0 rfl
          have a1 := block_cell HB5.out 1 rfl
          have a2 := block_cell HB5.out 2 rfl
          have p0 := block_frozen HB5.out 0
          have p1 := block_frozen HB5.out 1
          have p2 := block_frozen HB5.out 2
          refine PrintLast.last_ (i := 12) (N := none) #[true, true, true, true, true, true, true, true, true, true, true, true, true] rfl rfl (by kernel_rfl) (by decide) (fun K hK => ?_)
          refine PrintLast.skip_ (w1 := ?_) (by rfl) rfl ?_ ?_
          rotate_left
          · (go_simp; rfl)
          refine hK.out _ _ ?_
          clear hK K
          refine PrintLast.done_ (by kernel_rfl) ?_
          refine HQ.out b5 _ _ _ _ _ _ _ _ _ _ _ _ _ hgb5.2 (block_set (block_set (block_set HB5.out 0 _) 1 _) 2 _) (hR.kept (fun i hi => ?_)) ((((hwu.trans HT.out).set (p := ⟨b5, 0, none⟩) hgb5.2 _).set (p := ⟨b5, 1, none⟩) hgb5.2 _).set (p := ⟨b5, 2, none⟩) hgb5.2 _)
          rw [Below.heap_setCell _ _ _ _ (by simp; omega), Below.heap_setCell _ _ _ _ (by simp; omega), Below.heap_setCell _ _ _ _ (by simp; omega)]
    · skip
      refine PrintLast.value_ (w1 := ?_) (v := ?_) (by rfl) rfl ?_ ?_
      rotate_left 2
      · (go_simp; constructor <;> rfl)
      obtain ⟨u2, hu⟩ : ∃ u2, u2 = u1.alloc (.cells #[.int .i64 0, .int .i64 0, .int .i64 0] 30) := ⟨_, rfl⟩
      rw [← hu]
      have hbc : Below u1.heap.size u1 u2 := by rw [hu]; exact (Bel.alloc (w := u1) (W := u1)).out
      obtain ⟨b5, hbe⟩ : ∃ b, b = u1.heap.size := ⟨_, rfl⟩
      have hb : u2.heap[b5]? = some (.cells #[.int .i64 0, .int .i64 0, .int .i64 0] 30 (0, 0)) := by rw [hu, hbe]; exact heap_alloc_new _ _
      rw [← hbe]
      have hgb5 : g < b5 ∧ wa.heap.size ≤ b5 := by (have h1 := HZU.out; have h2 := HT.out.size; rw [hbe]; omega)
      have HB5 := Lib.hid hb
      have hR := hR.bel hbc
      have t1 : Gr g u1 u2 := Gr.of_bel hbc
      clear hu hbc hb hbe
      have HB6 := Lib.hid (t1.block HB6.out (by omega))
      have HT := Lib.hid (HT.out.trans t1)
      clear t1
      refine hK.out _ _ trivial (fun hHeld => ?_)
      clear hK K
      refine PrintLast.norm_ (a' := ?_) ?_ ?_
      rotate_left
      · (show Act.put _ (some 5) _ = _; simp only [Act.put, List.setIfInBounds_toArray, List.set_cons_zero, List.set_cons_succ, PrintLast.i64_w, PrintLast.i32_w]; rfl)
      refine PrintLast.one_ (i := 2) (N := (some 8)) #[true, true, true, false, false, true, false, false, false, false, false, true, false] rfl rfl (by kernel_rfl) (by decide) (fun K hK => ?_)
      refine PrintLast.goes_ Tryd.func68 (by kernel_rfl) rfl #[.pointer (some ⟨g, 0, none⟩), .int .i64 8] (by rfl) rfl rfl (by (try simp only [List.map_toArray, List.map_cons, List.map_nil]); first | done | rfl) ?_
      refine (s_pick g _ 8 _ (by assumption) (by omega) (by omega) (by omega)).mono ?_
      rintro e u3 ⟨k8, rfl, hk8, hR, hG⟩
      have lk8 : (k8 : Int) < 8 := hk8 (by omega)
      refine ⟨_, rfl, ?_⟩
      have t2 : Gr g u2 u3 := ⟨hG⟩
      clear hG hk8
      have HB6 := Lib.hid (t2.block HB6.out (by omega))
      have HB5 := Lib.hid (t2.block HB5.out (by omega))
      have HT := Lib.hid (HT.out.trans t2)
      clear t2
      refine hK.out _ _ trivial (fun hHeld => ?_)
      clear hK K
      refine PrintLast.norm_ (a' := ?_) ?_ ?_
      rotate_left
      · (show Act.put _ (some 8) _ = _; simp only [Act.put, List.setIfInBounds_toArray, List.set_cons_zero, List.set_cons_succ, PrintLast.i64_w, PrintLast.i32_w]; rfl)
      refine PrintLast.pure_ (i := 3) (N := (some 9)) (v := ?_) (a' := ?_) #[true, true, true, true, false, true, false, false, false, false, false, true, false] rfl rfl (by kernel_rfl) (fun _ _ _ h => hQp _ _ _ _ _ h) (Or.inl ⟨by rfl, ?_⟩) ?_ ?_
      rotate_left
      · (intro w'; go_simp; with_reducible rfl)
      rotate_left
      · (simp only [Act.put, List.setIfInBounds_toArray, List.set_cons_zero, List.set_cons_succ, PrintLast.i64_w, PrintLast.i32_w]; rfl)
      refine PrintLast.two_ (i := 4) (j := 6) (Ni := some 10) (Nj := some 12) #[true, true, true, true, true, true, false, false, false, false, false, true, false] #[true, true, true, true, false, true, true, false, false, false, false, true, false] rfl rfl rfl rfl (by kernel_rfl) (by decide) (by decide) (fun K hK => ?_) (fun K hK => ?_)
      · skip
        obtain ⟨tv, htv⟩ := eight HB6.out lk8
        refine PrintLast.value_ (w1 := ?_) (v := ?_) (by rfl) rfl ?_ ?_
        rotate_left 2
        · (go_simp; constructor <;> rfl)
        have t3 : Gr g u3 u3 := ⟨grown_refl _ _⟩
        clear htv
        have HB6 := Lib.hid (t3.block HB6.out (by omega))
        have HB5 := Lib.hid (t3.block HB5.out (by omega))
        have HT := Lib.hid (HT.out.trans t3)
        clear t3
        refine hK.out _ _ trivial (fun hHeld => ?_)
        clear hK K
        refine PrintLast.norm_ (a' := ?_) ?_ ?_
        rotate_left
        · (show Act.put _ (some 10) _ = _; simp only [Act.put, List.setIfInBounds_toArray, List.set_cons_zero, List.set_cons_succ, PrintLast.i64_w, PrintLast.i32_w]; rfl)
        refine PrintLast.one_ (i := 6) (N := (some 12)) #[true, true, true, true, true, true, true, false, false, false, false, true, false] rfl rfl (by kernel_rfl) (by decide) (fun K hK => ?_)
        refine PrintLast.goes_ Tryd.func68 (by kernel_rfl) rfl #[.pointer (some ⟨g, 0, none⟩), .int .i64 60] (by rfl) rfl rfl (by (try simp only [List.map_toArray, List.map_cons, List.map_nil]); first | done | rfl) ?_
        refine (s_pick g _ 60 _ (by assumption) (by omega) (by omega) (by omega)).mono ?_
        rintro e u4 ⟨k12, rfl, hk12, hR, hG⟩
        have lk12 : (k12 : Int) < 60 := hk12 (by omega)
        refine ⟨_, rfl, ?_⟩
        have t3 : Gr g u3 u4 := ⟨hG⟩
        clear hG hk12
        have HB6 := Lib.hid (t3.block HB6.out (by omega))
        have HB5 := Lib.hid (t3.block HB5.out (by omega))
        have HT := Lib.hid (HT.out.trans t3)
        clear t3
        refine hK.out _ _ trivial (fun hHeld => ?_)
        clear hK K
        refine PrintLast.norm_ (a' := ?_) ?_ ?_
        rotate_left
        · (show Act.put _ (some 12) _ = _; simp only [Act.put, List.setIfInBounds_toArray, List.set_cons_zero, List.set_cons_succ, PrintLast.i64_w, PrintLast.i32_w]; rfl)
        refine PrintLast.pure_ (i := 7) (N := (some 13)) (v := ?_) (a' := ?_) #[true, true, true, true, true, true, true, true, false, false, false, true, false] rfl rfl (by kernel_rfl) (fun _ _ _ h => hQp _ _ _ _ _ h) (Or.inl ⟨by rfl, ?_⟩) ?_ ?_
        rotate_left
        · (intro w'; go_simp; with_reducible rfl)
        rotate_left
        · (simp only [Act.put, List.setIfInBounds_toArray, List.set_cons_zero, List.set_cons_succ, PrintLast.i64_w, PrintLast.i32_w]; rfl)
        refine PrintLast.pure_ (i := 8) (N := (some 14)) (v := ?_) (a' := ?_) #[true, true, true, true, true, true, true, true, true, false, false, true, false] rfl rfl (by kernel_rfl) (fun _ _ _ h => hQp _ _ _ _ _ h) (Or.inl ⟨by rfl, ?_⟩) ?_ ?_
        rotate_left
        · (intro w'; go_simp; with_reducible rfl)
        rotate_left
        · (simp only [Act.put, List.setIfInBounds_toArray, List.set_cons_zero, List.set_cons_succ, PrintLast.i64_w, PrintLast.i32_w]; rfl)
        refine PrintLast.pure_ (i := 9) (N := (some 15)) (v := ?_) (a' := ?_) #[true, true, true, true, true, true, true, true, true, true, false, true, false] rfl rfl (by kernel_rfl) (fun _ _ _ h => hQp _ _ _ _ _ h) (Or.inl ⟨by rfl, ?_⟩) ?_ ?_
        rotate_left
        · (intro w'; go_simp; with_reducible rfl)
        rotate_left
        · (simp only [Act.put, List.setIfInBounds_toArray, List.set_cons_zero, List.set_cons_succ, PrintLast.i64_w, PrintLast.i32_w]; rfl)
        refine PrintLast.pure_ (i := 10) (N := (some 16)) (v := ?_) (a' := ?_) #[true, true, true, true, true, true, true, true, true, true, true, true, false] rfl rfl (by kernel_rfl) (fun _ _ _ h => hQp _ _ _ _ _ h) (Or.inl ⟨by rfl, ?_⟩) ?_ ?_
        rotate_left
        · (intro w'; go_simp; with_reducible rfl)
        rotate_left
        · (simp only [Act.put, List.setIfInBounds_toArray, List.set_cons_zero, List.set_cons_succ, PrintLast.i64_w, PrintLast.i32_w]; rfl)
        have a0 := block_cell HB5.out 0 rfl
        have a1 := block_cell HB5.out 1 rfl
        have a2 := block_cell HB5.out 2 rfl
        have p0 := block_frozen HB5.out 0
        have p1 := block_frozen HB5.out 1
        have p2 := block_frozen HB5.out 2
        refine PrintLast.last_ (i := 12) (N := none) #[true, true, true, true, true, true, true, true, true, true, true, true, true] rfl rfl (by kernel_rfl) (by decide) (fun K hK => ?_)
        refine PrintLast.skip_ (w1 := ?_) (by rfl) rfl ?_ ?_
        rotate_left
        · (go_simp; rfl)
        refine hK.out _ _ ?_
        clear hK K
        refine PrintLast.done_ (by kernel_rfl) ?_
        refine HQ.out b5 _ _ _ _ _ _ _ _ _ _ _ _ _ hgb5.2 (block_set (block_set (block_set HB5.out 0 _) 1 _) 2 _) (hR.kept (fun i hi => ?_)) ((((hwu.trans HT.out).set (p := ⟨b5, 0, none⟩) hgb5.2 _).set (p := ⟨b5, 1, none⟩) hgb5.2 _).set (p := ⟨b5, 2, none⟩) hgb5.2 _)
        rw [Below.heap_setCell _ _ _ _ (by simp; omega), Below.heap_setCell _ _ _ _ (by simp; omega), Below.heap_setCell _ _ _ _ (by simp; omega)]
      · skip
        refine PrintLast.goes_ Tryd.func68 (by kernel_rfl) rfl #[.pointer (some ⟨g, 0, none⟩), .int .i64 60] (by rfl) rfl rfl (by (try simp only [List.map_toArray, List.map_cons, List.map_nil]); first | done | rfl) ?_
        refine (s_pick g _ 60 _ (by assumption) (by omega) (by omega) (by omega)).mono ?_
        rintro e u4 ⟨k12, rfl, hk12, hR, hG⟩
        have lk12 : (k12 : Int) < 60 := hk12 (by omega)
        refine ⟨_, rfl, ?_⟩
        have t3 : Gr g u3 u4 := ⟨hG⟩
        clear hG hk12
        have HB6 := Lib.hid (t3.block HB6.out (by omega))
        have HB5 := Lib.hid (t3.block HB5.out (by omega))
        have HT := Lib.hid (HT.out.trans t3)
        clear t3
        refine hK.out _ _ trivial (fun hHeld => ?_)
        clear hK K
        refine PrintLast.norm_ (a' := ?_) ?_ ?_
        rotate_left
        · (show Act.put _ (some 12) _ = _; simp only [Act.put, List.setIfInBounds_toArray, List.set_cons_zero, List.set_cons_succ, PrintLast.i64_w, PrintLast.i32_w]; rfl)
        refine PrintLast.pure_ (i := 7) (N := (some 13)) (v := ?_) (a' := ?_) #[true, true, true, true, false, true, true, true, false, false, false, true, false] rfl rfl (by kernel_rfl) (fun _ _ _ h => hQp _ _ _ _ _ h) (Or.inl ⟨by rfl, ?_⟩) ?_ ?_
        rotate_left
        · (intro w'; go_simp; with_reducible rfl)
        rotate_left
        · (simp only [Act.put, List.setIfInBounds_toArray, List.set_cons_zero, List.set_cons_succ, PrintLast.i64_w, PrintLast.i32_w]; rfl)
        refine PrintLast.pure_ (i := 8) (N := (some 14)) (v := ?_) (a' := ?_) #[true, true, true, true, false, true, true, true, true, false, false, true, false] rfl rfl (by kernel_rfl) (fun _ _ _ h => hQp _ _ _ _ _ h) (Or.inl ⟨by rfl, ?_⟩) ?_ ?_
        rotate_left
        · (intro w'; go_simp; with_reducible rfl)
        rotate_left
        · (simp only [Act.put, List.setIfInBounds_toArray, List.set_cons_zero, List.set_cons_succ, PrintLast.i64_w, PrintLast.i32_w]; rfl)
        refine PrintLast.one_ (i := 4) (N := (some 10)) #[true, true, true, true, true, true, true, true, true, false, false, true, false] rfl rfl (by kernel_rfl) (by decide) (fun K hK => ?_)
        obtain ⟨tv, htv⟩ := eight HB6.out lk8
        refine PrintLast.value_ (w1 := ?_) (v := ?_) (by rfl) rfl ?_ ?_
        rotate_left 2
        · (go_simp; constructor <;> rfl)
        have t4 : Gr g u4 u4 := ⟨grown_refl _ _⟩
        clear htv
        have HB6 := Lib.hid (t4.block HB6.out (by omega))
        have HB5 := Lib.hid (t4.block HB5.out (by omega))
        have HT := Lib.hid (HT.out.trans t4)
        clear t4
        refine hK.out _ _ trivial (fun hHeld => ?_)
        clear hK K
        refine PrintLast.norm_ (a' := ?_) ?_ ?_
        rotate_left
        · (show Act.put _ (some 10) _ = _; simp only [Act.put, List.setIfInBounds_toArray, List.set_cons_zero, List.set_cons_succ, PrintLast.i64_w, PrintLast.i32_w]; rfl)
        refine PrintLast.pure_ (i := 9) (N := (some 15)) (v := ?_) (a' := ?_) #[true, true, true, true, true, true, true, true, true, true, false, true, false] rfl rfl (by kernel_rfl) (fun _ _ _ h => hQp _ _ _ _ _ h) (Or.inl ⟨by rfl, ?_⟩) ?_ ?_
        rotate_left
        · (intro w'; go_simp; with_reducible rfl)
        rotate_left
        · (simp only [Act.put, List.setIfInBounds_toArray, List.set_cons_zero, List.set_cons_succ, PrintLast.i64_w, PrintLast.i32_w]; rfl)
        refine PrintLast.pure_ (i := 10) (N := (some 16)) (v := ?_) (a' := ?_) #[true, true, true, true, true, true, true, true, true, true, true, true, false] rfl rfl (by kernel_rfl) (fun _ _ _ h => hQp _ _ _ _ _ h) (Or.inl ⟨by rfl, ?_⟩) ?_ ?_
        rotate_left
        · (intro w'; go_simp; with_reducible rfl)
        rotate_left
        · (simp only [Act.put, List.setIfInBounds_toArray, List.set_cons_zero, List.set_cons_succ, PrintLast.i64_w, PrintLast.i32_w]; rfl)
        have a0 := block_cell HB5.out 0 rfl
        have a1 := block_cell HB5.out 1 rfl
        have a2 := block_cell HB5.out 2 rfl
        have p0 := block_frozen HB5.out 0
        have p1 := block_frozen HB5.out 1
        have p2 := block_frozen HB5.out 2
        refine PrintLast.last_ (i := 12) (N := none) #[true, true, true, true, true, true, true, true, true, true, true, true, true] rfl rfl (by kernel_rfl) (by decide) (fun K hK => ?_)
        refine PrintLast.skip_ (w1 := ?_) (by rfl) rfl ?_ ?_
        rotate_left
        · (go_simp; rfl)
        refine hK.out _ _ ?_
        clear hK K
        refine PrintLast.done_ (by kernel_rfl) ?_
        refine HQ.out b5 _ _ _ _ _ _ _ _ _ _ _ _ _ hgb5.2 (block_set (block_set (block_set HB5.out 0 _) 1 _) 2 _) (hR.kept (fun i hi => ?_)) ((((hwu.trans HT.out).set (p := ⟨b5, 0, none⟩) hgb5.2 _).set (p := ⟨b5, 1, none⟩) hgb5.2 _).set (p := ⟨b5, 2, none⟩) hgb5.2 _)
        rw [Below.heap_setCell _ _ _ _ (by simp; omega), Below.heap_setCell _ _ _ _ (by simp; omega), Below.heap_setCell _ _ _ _ (by simp; omega)]
  · skip
    refine PrintLast.goes_ Tryd.func68 (by kernel_rfl) rfl #[.pointer (some ⟨g, 0, none⟩), .int .i64 8] (by rfl) rfl rfl (by (try simp only [List.map_toArray, List.map_cons, List.map_nil]); first | done | rfl) ?_
    refine (s_pick g _ 8 _ (by assumption) (by omega) (by omega) (by omega)).mono ?_
    rintro e u1 ⟨k8, rfl, hk8, hR, hG⟩
    have lk8 : (k8 : Int) < 8 := hk8 (by omega)
    refine ⟨_, rfl, ?_⟩
    have t0 : Gr g u0 u1 := ⟨hG⟩
    clear hG hk8
    have HT := Lib.hid (HT.out.trans t0)
    clear t0
    refine hK.out _ _ trivial (fun hHeld => ?_)
    clear hK K
    refine PrintLast.norm_ (a' := ?_) ?_ ?_
    rotate_left
    · (show Act.put _ (some 8) _ = _; simp only [Act.put, List.setIfInBounds_toArray, List.set_cons_zero, List.set_cons_succ, PrintLast.i64_w, PrintLast.i32_w]; rfl)
    refine PrintLast.three_ (i := 0) (j := 6) (k := 11) (Ni := some 6) (Nj := some 12) (Nk := some 5) #[true, true, true, false, false, true, false, false, false, false, false, false, false] #[false, true, true, false, false, true, true, false, false, false, false, false, false] #[false, true, true, false, false, true, false, false, false, false, false, true, false] rfl rfl rfl rfl rfl rfl (by kernel_rfl) (by decide) (by decide) (by decide) (fun K hK => ?_) (fun K hK => ?_) (fun K hK => ?_)
    · skip
      refine PrintLast.value_ (w1 := ?_) (v := ?_) (by rfl) rfl ?_ ?_
      rotate_left 2
      · (go_simp; constructor <;> rfl)
      obtain ⟨u2, hu⟩ : ∃ u2, u2 = u1.alloc (.cells #[.int .i64 0, .int .i64 1, .int .i64 2, .int .i64 2, .int .i64 2, .int .i64 2, .int .i64 3, .int .i64 4] 3) := ⟨_, rfl⟩
      rw [← hu]
      have hbc : Below u1.heap.size u1 u2 := by rw [hu]; exact (Bel.alloc (w := u1) (W := u1)).out
      obtain ⟨b6, hbe⟩ : ∃ b, b = u1.heap.size := ⟨_, rfl⟩
      have hb : u2.heap[b6]? = some (.cells #[.int .i64 0, .int .i64 1, .int .i64 2, .int .i64 2, .int .i64 2, .int .i64 2, .int .i64 3, .int .i64 4] 3 (0, 0)) := by rw [hu, hbe]; exact heap_alloc_new _ _
      rw [← hbe]
      have hgb6 : g < b6 ∧ wa.heap.size ≤ b6 := by (have h1 := HZU.out; have h2 := HT.out.size; rw [hbe]; omega)
      have HB6 := Lib.hid hb
      have hR := hR.bel hbc
      have t1 : Gr g u1 u2 := Gr.of_bel hbc
      clear hu hbc hb hbe
      have HT := Lib.hid (HT.out.trans t1)
      clear t1
      refine hK.out _ _ trivial (fun hHeld => ?_)
      clear hK K
      refine PrintLast.norm_ (a' := ?_) ?_ ?_
      rotate_left
      · (show Act.put _ (some 6) _ = _; simp only [Act.put, List.setIfInBounds_toArray, List.set_cons_zero, List.set_cons_succ, PrintLast.i64_w, PrintLast.i32_w]; rfl)
      refine PrintLast.pure_ (i := 3) (N := (some 9)) (v := ?_) (a' := ?_) #[true, true, true, true, false, true, false, false, false, false, false, false, false] rfl rfl (by kernel_rfl) (fun _ _ _ h => hQp _ _ _ _ _ h) (Or.inl ⟨by rfl, ?_⟩) ?_ ?_
      rotate_left
      · (intro w'; go_simp; with_reducible rfl)
      rotate_left
      · (simp only [Act.put, List.setIfInBounds_toArray, List.set_cons_zero, List.set_cons_succ, PrintLast.i64_w, PrintLast.i32_w]; rfl)
      refine PrintLast.three_ (i := 4) (j := 6) (k := 11) (Ni := some 10) (Nj := some 12) (Nk := some 5) #[true, true, true, true, true, true, false, false, false, false, false, false, false] #[true, true, true, true, false, true, true, false, false, false, false, false, false] #[true, true, true, true, false, true, false, false, false, false, false, true, false] rfl rfl rfl rfl rfl rfl (by kernel_rfl) (by decide) (by decide) (by decide) (fun K hK => ?_) (fun K hK => ?_) (fun K hK => ?_)
      · skip
        obtain ⟨tv, htv⟩ := eight HB6.out lk8
        refine PrintLast.value_ (w1 := ?_) (v := ?_) (by rfl) rfl ?_ ?_
        rotate_left 2
        · (go_simp; constructor <;> rfl)
        have t2 : Gr g u2 u2 := ⟨grown_refl _ _⟩
        clear htv
        have HB6 := Lib.hid (t2.block HB6.out (by omega))
        have HT := Lib.hid (HT.out.trans t2)
        clear t2
        refine hK.out _ _ trivial (fun hHeld => ?_)
        clear hK K
        refine PrintLast.norm_ (a' := ?_) ?_ ?_
        rotate_left
        · (show Act.put _ (some 10) _ = _; simp only [Act.put, List.setIfInBounds_toArray, List.set_cons_zero, List.set_cons_succ, PrintLast.i64_w, PrintLast.i32_w]; rfl)
        refine PrintLast.two_ (i := 6) (j := 11) (Ni := some 12) (Nj := some 5) #[true, true, true, true, true, true, true, false, false, false, false, false, false] #[true, true, true, true, true, true, false, false, false, false, false, true, false] rfl rfl rfl rfl (by kernel_rfl) (by decide) (by decide) (fun K hK => ?_) (fun K hK => ?_)
        · skip
          refine PrintLast.goes_ Tryd.func68 (by kernel_rfl) rfl #[.pointer (some ⟨g, 0, none⟩), .int .i64 60] (by rfl) rfl rfl (by (try simp only [List.map_toArray, List.map_cons, List.map_nil]); first | done | rfl) ?_
          refine (s_pick g _ 60 _ (by assumption) (by omega) (by omega) (by omega)).mono ?_
          rintro e u3 ⟨k12, rfl, hk12, hR, hG⟩
          have lk12 : (k12 : Int) < 60 := hk12 (by omega)
          refine ⟨_, rfl, ?_⟩
          have t2 : Gr g u2 u3 := ⟨hG⟩
          clear hG hk12
          have HB6 := Lib.hid (t2.block HB6.out (by omega))
          have HT := Lib.hid (HT.out.trans t2)
          clear t2
          refine hK.out _ _ trivial (fun hHeld => ?_)
          clear hK K
          refine PrintLast.norm_ (a' := ?_) ?_ ?_
          rotate_left
          · (show Act.put _ (some 12) _ = _; simp only [Act.put, List.setIfInBounds_toArray, List.set_cons_zero, List.set_cons_succ, PrintLast.i64_w, PrintLast.i32_w]; rfl)
          refine PrintLast.pure_ (i := 7) (N := (some 13)) (v := ?_) (a' := ?_) #[true, true, true, true, true, true, true, true, false, false, false, false, false] rfl rfl (by kernel_rfl) (fun _ _ _ h => hQp _ _ _ _ _ h) (Or.inl ⟨by rfl, ?_⟩) ?_ ?_
          rotate_left
          · (intro w'; go_simp; with_reducible rfl)
          rotate_left
          · (simp only [Act.put, List.setIfInBounds_toArray, List.set_cons_zero, List.set_cons_succ, PrintLast.i64_w, PrintLast.i32_w]; rfl)
          refine PrintLast.pure_ (i := 8) (N := (some 14)) (v := ?_) (a' := ?_) #[true, true, true, true, true, true, true, true, true, false, false, false, false] rfl rfl (by kernel_rfl) (fun _ _ _ h => hQp _ _ _ _ _ h) (Or.inl ⟨by rfl, ?_⟩) ?_ ?_
          rotate_left
          · (intro w'; go_simp; with_reducible rfl)
          rotate_left
          · (simp only [Act.put, List.setIfInBounds_toArray, List.set_cons_zero, List.set_cons_succ, PrintLast.i64_w, PrintLast.i32_w]; rfl)
          refine PrintLast.pure_ (i := 9) (N := (some 15)) (v := ?_) (a' := ?_) #[true, true, true, true, true, true, true, true, true, true, false, false, false] rfl rfl (by kernel_rfl) (fun _ _ _ h => hQp _ _ _ _ _ h) (Or.inl ⟨by rfl, ?_⟩) ?_ ?_
          rotate_left
          · (intro w'; go_simp; with_reducible rfl)
          rotate_left
          · (simp only [Act.put, List.setIfInBounds_toArray, List.set_cons_zero, List.set_cons_succ, PrintLast.i64_w, PrintLast.i32_w]; rfl)
          refine PrintLast.pure_ (i := 10) (N := (some 16)) (v := ?_) (a' := ?_) #[true, true, true, true, true, true, true, true, true, true, true, false, false] rfl rfl (by kernel_rfl) (fun _ _ _ h => hQp _ _ _ _ _ h) (Or.inl ⟨by rfl, ?_⟩) ?_ ?_
          rotate_left
          · (intro w'; go_simp; with_reducible rfl)
          rotate_left
          · (simp only [Act.put, List.setIfInBounds_toArray, List.set_cons_zero, List.set_cons_succ, PrintLast.i64_w, PrintLast.i32_w]; rfl)
          refine PrintLast.one_ (i := 11) (N := (some 5)) #[true, true, true, true, true, true, true, true, true, true, true, true, false] rfl rfl (by kernel_rfl) (by decide) (fun K hK => ?_)
          refine PrintLast.value_ (w1 := ?_) (v := ?_) (by rfl) rfl ?_ ?_
          rotate_left 2
          · (go_simp; constructor <;> rfl)
          obtain ⟨u4, hu⟩ : ∃ u4, u4 = u3.alloc (.cells #[.int .i64 0, .int .i64 0, .int .i64 0] 30) := ⟨_, rfl⟩
          rw [← hu]
          have hbc : Below u3.heap.size u3 u4 := by rw [hu]; exact (Bel.alloc (w := u3) (W := u3)).out
          obtain ⟨b5, hbe⟩ : ∃ b, b = u3.heap.size := ⟨_, rfl⟩
          have hb : u4.heap[b5]? = some (.cells #[.int .i64 0, .int .i64 0, .int .i64 0] 30 (0, 0)) := by rw [hu, hbe]; exact heap_alloc_new _ _
          rw [← hbe]
          have hgb5 : g < b5 ∧ wa.heap.size ≤ b5 := by (have h1 := HZU.out; have h2 := HT.out.size; rw [hbe]; omega)
          have HB5 := Lib.hid hb
          have hR := hR.bel hbc
          have t3 : Gr g u3 u4 := Gr.of_bel hbc
          clear hu hbc hb hbe
          have HB6 := Lib.hid (t3.block HB6.out (by omega))
          have HT := Lib.hid (HT.out.trans t3)
          clear t3
          refine hK.out _ _ trivial (fun hHeld => ?_)
          clear hK K
          refine PrintLast.norm_ (a' := ?_) ?_ ?_
          rotate_left
          · (show Act.put _ (some 5) _ = _; simp only [Act.put, List.setIfInBounds_toArray, List.set_cons_zero, List.set_cons_succ, PrintLast.i64_w, PrintLast.i32_w]; rfl)
          have a0 := block_cell HB5.out 0 rfl
          have a1 := block_cell HB5.out 1 rfl
          have a2 := block_cell HB5.out 2 rfl
          have p0 := block_frozen HB5.out 0
          have p1 := block_frozen HB5.out 1
          have p2 := block_frozen HB5.out 2
          refine PrintLast.last_ (i := 12) (N := none) #[true, true, true, true, true, true, true, true, true, true, true, true, true] rfl rfl (by kernel_rfl) (by decide) (fun K hK => ?_)
          refine PrintLast.skip_ (w1 := ?_) (by rfl) rfl ?_ ?_
          rotate_left
          · (go_simp; rfl)
          refine hK.out _ _ ?_
          clear hK K
          refine PrintLast.done_ (by kernel_rfl) ?_
          refine HQ.out b5 _ _ _ _ _ _ _ _ _ _ _ _ _ hgb5.2 (block_set (block_set (block_set HB5.out 0 _) 1 _) 2 _) (hR.kept (fun i hi => ?_)) ((((hwu.trans HT.out).set (p := ⟨b5, 0, none⟩) hgb5.2 _).set (p := ⟨b5, 1, none⟩) hgb5.2 _).set (p := ⟨b5, 2, none⟩) hgb5.2 _)
          rw [Below.heap_setCell _ _ _ _ (by simp; omega), Below.heap_setCell _ _ _ _ (by simp; omega), Below.heap_setCell _ _ _ _ (by simp; omega)]
        · skip
          refine PrintLast.value_ (w1 := ?_) (v := ?_) (by rfl) rfl ?_ ?_
          rotate_left 2
          · (go_simp; constructor <;> rfl)
          obtain ⟨u3, hu⟩ : ∃ u3, u3 = u2.alloc (.cells #[.int .i64 0, .int .i64 0, .int .i64 0] 30) := ⟨_, rfl⟩
          rw [← hu]
          have hbc : Below u2.heap.size u2 u3 := by rw [hu]; exact (Bel.alloc (w := u2) (W := u2)).out
          obtain ⟨b5, hbe⟩ : ∃ b, b = u2.heap.size := ⟨_, rfl⟩
          have hb : u3.heap[b5]? = some (.cells #[.int .i64 0, .int .i64 0, .int .i64 0] 30 (0, 0)) := by rw [hu, hbe]; exact heap_alloc_new _ _
          rw [← hbe]
          have hgb5 : g < b5 ∧ wa.heap.size ≤ b5 := by (have h1 := HZU.out; have h2 := HT.out.size; rw [hbe]; omega)
          have HB5 := Lib.hid hb
          have hR := hR.bel hbc
          have t2 : Gr g u2 u3 := Gr.of_bel hbc
          clear hu hbc hb hbe
          have HB6 := Lib.hid (t2.block HB6.out (by omega))
          have HT := Lib.hid (HT.out.trans t2)
          clear t2
          refine hK.out _ _ trivial (fun hHeld => ?_)
          clear hK K
          refine PrintLast.norm_ (a' := ?_) ?_ ?_
          rotate_left
          · (show Act.put _ (some 5) _ = _; simp only [Act.put, List.setIfInBounds_toArray, List.set_cons_zero, List.set_cons_succ, PrintLast.i64_w, PrintLast.i32_w]; rfl)
          refine PrintLast.one_ (i := 6) (N := (some 12)) #[true, true, true, true, true, true, true, false, false, false, false, true, false] rfl rfl (by kernel_rfl) (by decide) (fun K hK => ?_)
          refine PrintLast.goes_ Tryd.func68 (by kernel_rfl) rfl #[.pointer (some ⟨g, 0, none⟩), .int .i64 60] (by rfl) rfl rfl (by (try simp only [List.map_toArray, List.map_cons, List.map_nil]); first | done | rfl) ?_
          refine (s_pick g _ 60 _ (by assumption) (by omega) (by omega) (by omega)).mono ?_
          rintro e u4 ⟨k12, rfl, hk12, hR, hG⟩
          have lk12 : (k12 : Int) < 60 := hk12 (by omega)
          refine ⟨_, rfl, ?_⟩
          have t3 : Gr g u3 u4 := ⟨hG⟩
          clear hG hk12
          have HB6 := Lib.hid (t3.block HB6.out (by omega))
          have HB5 := Lib.hid (t3.block HB5.out (by omega))
          have HT := Lib.hid (HT.out.trans t3)
          clear t3
          refine hK.out _ _ trivial (fun hHeld => ?_)
          clear hK K
          refine PrintLast.norm_ (a' := ?_) ?_ ?_
          rotate_left
          · (show Act.put _ (some 12) _ = _; simp only [Act.put, List.setIfInBounds_toArray, List.set_cons_zero, List.set_cons_succ, PrintLast.i64_w, PrintLast.i32_w]; rfl)
          refine PrintLast.pure_ (i := 7) (N := (some 13)) (v := ?_) (a' := ?_) #[true, true, true, true, true, true, true, true, false, false, false, true, false] rfl rfl (by kernel_rfl) (fun _ _ _ h => hQp _ _ _ _ _ h) (Or.inl ⟨by rfl, ?_⟩) ?_ ?_
          rotate_left
          · (intro w'; go_simp; with_reducible rfl)
          rotate_left
          · (simp only [Act.put, List.setIfInBounds_toArray, List.set_cons_zero, List.set_cons_succ, PrintLast.i64_w, PrintLast.i32_w]; rfl)
          refine PrintLast.pure_ (i := 8) (N := (some 14)) (v := ?_) (a' := ?_) #[true, true, true, true, true, true, true, true, true, false, false, true, false] rfl rfl (by kernel_rfl) (fun _ _ _ h => hQp _ _ _ _ _ h) (Or.inl ⟨by rfl, ?_⟩) ?_ ?_
          rotate_left
          · (intro w'; go_simp; with_reducible rfl)
          rotate_left
          · (simp only [Act.put, List.setIfInBounds_toArray, List.set_cons_zero, List.set_cons_succ, PrintLast.i64_w, PrintLast.i32_w]; rfl)
          refine PrintLast.pure_ (i := 9) (N := (some 15)) (v := ?_) (a' := ?_) #[true, true, true, true, true, true, true, true, true, true, false, true, false] rfl rfl (by kernel_rfl) (fun _ _ _ h => hQp _ _ _ _ _ h) (Or.inl ⟨by rfl, ?_⟩) ?_ ?_
          rotate_left
          · (intro w'; go_simp; with_reducible rfl)
          rotate_left
          · (simp only [Act.put, List.setIfInBounds_toArray, List.set_cons_zero, List.set_cons_succ, PrintLast.i64_w, PrintLast.i32_w]; rfl)
          refine PrintLast.pure_ (i := 10) (N := (some 16)) (v := ?_) (a' := ?_) #[true, true, true, true, true, true, true, true, true, true, true, true, false] rfl rfl (by kernel_rfl) (fun _ _ _ h => hQp _ _ _ _ _ h) (Or.inl ⟨by rfl, ?_⟩) ?_ ?_
          rotate_left
          · (intro w'; go_simp; with_reducible rfl)
          rotate_left
          · (simp only [Act.put, List.setIfInBounds_toArray, List.set_cons_zero, List.set_cons_succ, PrintLast.i64_w, PrintLast.i32_w]; rfl)
          have a0 := block_cell HB5.out 0 rfl
          have a1 := block_cell HB5.out 1 rfl
          have a2 := block_cell HB5.out 2 rfl
          have p0 := block_frozen HB5.out 0
          have p1 := block_frozen HB5.out 1
          have p2 := block_frozen HB5.out 2
          refine PrintLast.last_ (i := 12) (N := none) #[true, true, true, true, true, true, true, true, true, true, true, true, true] rfl rfl (by kernel_rfl) (by decide) (fun K hK => ?_)
          refine PrintLast.skip_ (w1 := ?_) (by rfl) rfl ?_ ?_
          rotate_left
          · (go_simp; rfl)
          refine hK.out _ _ ?_
          clear hK K
          refine PrintLast.done_ (by kernel_rfl) ?_
          refine HQ.out b5 _ _ _ _ _ _ _ _ _ _ _ _ _ hgb5.2 (block_set (block_set (block_set HB5.out 0 _) 1 _) 2 _) (hR.kept (fun i hi => ?_)) ((((hwu.trans HT.out).set (p := ⟨b5, 0, none⟩) hgb5.2 _).set (p := ⟨b5, 1, none⟩) hgb5.2 _).set (p := ⟨b5, 2, none⟩) hgb5.2 _)
          rw [Below.heap_setCell _ _ _ _ (by simp; omega), Below.heap_setCell _ _ _ _ (by simp; omega), Below.heap_setCell _ _ _ _ (by simp; omega)]
      · skip
        refine PrintLast.goes_ Tryd.func68 (by kernel_rfl) rfl #[.pointer (some ⟨g, 0, none⟩), .int .i64 60] (by rfl) rfl rfl (by (try simp only [List.map_toArray, List.map_cons, List.map_nil]); first | done | rfl) ?_
        refine (s_pick g _ 60 _ (by assumption) (by omega) (by omega) (by omega)).mono ?_
        rintro e u3 ⟨k12, rfl, hk12, hR, hG⟩
        have lk12 : (k12 : Int) < 60 := hk12 (by omega)
        refine ⟨_, rfl, ?_⟩
        have t2 : Gr g u2 u3 := ⟨hG⟩
        clear hG hk12
        have HB6 := Lib.hid (t2.block HB6.out (by omega))
        have HT := Lib.hid (HT.out.trans t2)
        clear t2
        refine hK.out _ _ trivial (fun hHeld => ?_)
        clear hK K
        refine PrintLast.norm_ (a' := ?_) ?_ ?_
        rotate_left
        · (show Act.put _ (some 12) _ = _; simp only [Act.put, List.setIfInBounds_toArray, List.set_cons_zero, List.set_cons_succ, PrintLast.i64_w, PrintLast.i32_w]; rfl)
        refine PrintLast.pure_ (i := 7) (N := (some 13)) (v := ?_) (a' := ?_) #[true, true, true, true, false, true, true, true, false, false, false, false, false] rfl rfl (by kernel_rfl) (fun _ _ _ h => hQp _ _ _ _ _ h) (Or.inl ⟨by rfl, ?_⟩) ?_ ?_
        rotate_left
        · (intro w'; go_simp; with_reducible rfl)
        rotate_left
        · (simp only [Act.put, List.setIfInBounds_toArray, List.set_cons_zero, List.set_cons_succ, PrintLast.i64_w, PrintLast.i32_w]; rfl)
        refine PrintLast.pure_ (i := 8) (N := (some 14)) (v := ?_) (a' := ?_) #[true, true, true, true, false, true, true, true, true, false, false, false, false] rfl rfl (by kernel_rfl) (fun _ _ _ h => hQp _ _ _ _ _ h) (Or.inl ⟨by rfl, ?_⟩) ?_ ?_
        rotate_left
        · (intro w'; go_simp; with_reducible rfl)
        rotate_left
        · (simp only [Act.put, List.setIfInBounds_toArray, List.set_cons_zero, List.set_cons_succ, PrintLast.i64_w, PrintLast.i32_w]; rfl)
        refine PrintLast.two_ (i := 4) (j := 11) (Ni := some 10) (Nj := some 5) #[true, true, true, true, true, true, true, true, true, false, false, false, false] #[true, true, true, true, false, true, true, true, true, false, false, true, false] rfl rfl rfl rfl (by kernel_rfl) (by decide) (by decide) (fun K hK => ?_) (fun K hK => ?_)
        · skip
          obtain ⟨tv, htv⟩ := eight HB6.out lk8
          refine PrintLast.value_ (w1 := ?_) (v := ?_) (by rfl) rfl ?_ ?_
          rotate_left 2
          · (go_simp; constructor <;> rfl)
          have t3 : Gr g u3 u3 := ⟨grown_refl _ _⟩
          clear htv
          have HB6 := Lib.hid (t3.block HB6.out (by omega))
          have HT := Lib.hid (HT.out.trans t3)
          clear t3
          refine hK.out _ _ trivial (fun hHeld => ?_)
          clear hK K
          refine PrintLast.norm_ (a' := ?_) ?_ ?_
          rotate_left
          · (show Act.put _ (some 10) _ = _; simp only [Act.put, List.setIfInBounds_toArray, List.set_cons_zero, List.set_cons_succ, PrintLast.i64_w, PrintLast.i32_w]; rfl)
          refine PrintLast.pure_ (i := 9) (N := (some 15)) (v := ?_) (a' := ?_) #[true, true, true, true, true, true, true, true, true, true, false, false, false] rfl rfl (by kernel_rfl) (fun _ _ _ h => hQp _ _ _ _ _ h) (Or.inl ⟨by rfl, ?_⟩) ?_ ?_
          rotate_left
          · (intro w'; go_simp; with_reducible rfl)
          rotate_left
          · (simp only [Act.put, List.setIfInBounds_toArray, List.set_cons_zero, List.set_cons_succ, PrintLast.i64_w, PrintLast.i32_w]; rfl)
          refine PrintLast.pure_ (i := 10) (N := (some 16)) (v := ?_) (a' := ?_) #[true, true, true, true, true, true, true, true, true, true, true, false, false] rfl rfl (by kernel_rfl) (fun _ _ _ h => hQp _ _ _ _ _ h) (Or.inl ⟨by rfl, ?_⟩) ?_ ?_
          rotate_left
          · (intro w'; go_simp; with_reducible rfl)
          rotate_left
          · (simp only [Act.put, List.setIfInBounds_toArray, List.set_cons_zero, List.set_cons_succ, PrintLast.i64_w, PrintLast.i32_w]; rfl)
          refine PrintLast.one_ (i := 11) (N := (some 5)) #[true, true, true, true, true, true, true, true, true, true, true, true, false] rfl rfl (by kernel_rfl) (by decide) (fun K hK => ?_)
          refine PrintLast.value_ (w1 := ?_) (v := ?_) (by rfl) rfl ?_ ?_
          rotate_left 2
          · (go_simp; constructor <;> rfl)
          obtain ⟨u4, hu⟩ : ∃ u4, u4 = u3.alloc (.cells #[.int .i64 0, .int .i64 0, .int .i64 0] 30) := ⟨_, rfl⟩
          rw [← hu]
          have hbc : Below u3.heap.size u3 u4 := by rw [hu]; exact (Bel.alloc (w := u3) (W := u3)).out
          obtain ⟨b5, hbe⟩ : ∃ b, b = u3.heap.size := ⟨_, rfl⟩
          have hb : u4.heap[b5]? = some (.cells #[.int .i64 0, .int .i64 0, .int .i64 0] 30 (0, 0)) := by rw [hu, hbe]; exact heap_alloc_new _ _
          rw [← hbe]
          have hgb5 : g < b5 ∧ wa.heap.size ≤ b5 := by (have h1 := HZU.out; have h2 := HT.out.size; rw [hbe]; omega)
          have HB5 := Lib.hid hb
          have hR := hR.bel hbc
          have t3 : Gr g u3 u4 := Gr.of_bel hbc
          clear hu hbc hb hbe
          have HB6 := Lib.hid (t3.block HB6.out (by omega))
          have HT := Lib.hid (HT.out.trans t3)
          clear t3
          refine hK.out _ _ trivial (fun hHeld => ?_)
          clear hK K
          refine PrintLast.norm_ (a' := ?_) ?_ ?_
          rotate_left
          · (show Act.put _ (some 5) _ = _; simp only [Act.put, List.setIfInBounds_toArray, List.set_cons_zero, List.set_cons_succ, PrintLast.i64_w, PrintLast.i32_w]; rfl)
          have a0 := block_cell HB5.out 0 rfl
          have a1 := block_cell HB5.out 1 rfl
          have a2 := block_cell HB5.out 2 rfl
          have p0 := block_frozen HB5.out 0
          have p1 := block_frozen HB5.out 1
          have p2 := block_frozen HB5.out 2
          refine PrintLast.last_ (i := 12) (N := none) #[true, true, true, true, true, true, true, true, true, true, true, true, true] rfl rfl (by kernel_rfl) (by decide) (fun K hK => ?_)
          refine PrintLast.skip_ (w1 := ?_) (by rfl) rfl ?_ ?_
          rotate_left
          · (go_simp; rfl)
          refine hK.out _ _ ?_
          clear hK K
          refine PrintLast.done_ (by kernel_rfl) ?_
          refine HQ.out b5 _ _ _ _ _ _ _ _ _ _ _ _ _ hgb5.2 (block_set (block_set (block_set HB5.out 0 _) 1 _) 2 _) (hR.kept (fun i hi => ?_)) ((((hwu.trans HT.out).set (p := ⟨b5, 0, none⟩) hgb5.2 _).set (p := ⟨b5, 1, none⟩) hgb5.2 _).set (p := ⟨b5, 2, none⟩) hgb5.2 _)
          rw [Below.heap_setCell _ _ _ _ (by simp; omega), Below.heap_setCell _ _ _ _ (by simp; omega), Below.heap_setCell _ _ _ _ (by simp; omega)]
        · skip
          refine PrintLast.value_ (w1 := ?_) (v := ?_) (by rfl) rfl ?_ ?_
          rotate_left 2
          · (go_simp; constructor <;> rfl)
          obtain ⟨u4, hu⟩ : ∃ u4, u4 = u3.alloc (.cells #[.int .i64 0, .int .i64 0, .int .i64 0] 30) := ⟨_, rfl⟩
          rw [← hu]
          have hbc : Below u3.heap.size u3 u4 := by rw [hu]; exact (Bel.alloc (w := u3) (W := u3)).out
          obtain ⟨b5, hbe⟩ : ∃ b, b = u3.heap.size := ⟨_, rfl⟩
          have hb : u4.heap[b5]? = some (.cells #[.int .i64 0, .int .i64 0, .int .i64 0] 30 (0, 0)) := by rw [hu, hbe]; exact heap_alloc_new _ _
          rw [← hbe]
          have hgb5 : g < b5 ∧ wa.heap.size ≤ b5 := by (have h1 := HZU.out; have h2 := HT.out.size; rw [hbe]; omega)
          have HB5 := Lib.hid hb
          have hR := hR.bel hbc
          have t3 : Gr g u3 u4 := Gr.of_bel hbc
          clear hu hbc hb hbe
          have HB6 := Lib.hid (t3.block HB6.out (by omega))
          have HT := Lib.hid (HT.out.trans t3)
          clear t3
          refine hK.out _ _ trivial (fun hHeld => ?_)
          clear hK K
          refine PrintLast.norm_ (a' := ?_) ?_ ?_
          rotate_left
          · (show Act.put _ (some 5) _ = _; simp only [Act.put, List.setIfInBounds_toArray, List.set_cons_zero, List.set_cons_succ, PrintLast.i64_w, PrintLast.i32_w]; rfl)
          refine PrintLast.one_ (i := 4) (N := (some 10)) #[true, true, true, true, true, true, true, true, true, false, false, true, false] rfl rfl (by kernel_rfl) (by decide) (fun K hK => ?_)
          obtain ⟨tv, htv⟩ := eight HB6.out lk8
          refine PrintLast.value_ (w1 := ?_) (v := ?_) (by rfl) rfl ?_ ?_
          rotate_left 2
          · (go_simp; constructor <;> rfl)
          have t4 : Gr g u4 u4 := ⟨grown_refl _ _⟩
          clear htv
          have HB6 := Lib.hid (t4.block HB6.out (by omega))
          have HB5 := Lib.hid (t4.block HB5.out (by omega))
          have HT := Lib.hid (HT.out.trans t4)
          clear t4
          refine hK.out _ _ trivial (fun hHeld => ?_)
          clear hK K
          refine PrintLast.norm_ (a' := ?_) ?_ ?_
          rotate_left
          · (show Act.put _ (some 10) _ = _; simp only [Act.put, List.setIfInBounds_toArray, List.set_cons_zero, List.set_cons_succ, PrintLast.i64_w, PrintLast.i32_w]; rfl)
          refine PrintLast.pure_ (i := 9) (N := (some 15)) (v := ?_) (a' := ?_) #[true, true, true, true, true, true, true, true, true, true, false, true, false] rfl rfl (by kernel_rfl) (fun _ _ _ h => hQp _ _ _ _ _ h) (Or.inl ⟨by rfl, ?_⟩) ?_ ?_
          rotate_left
          · (intro w'; go_simp; with_reducible rfl)
          rotate_left
          · (simp only [Act.put, List.setIfInBounds_toArray, List.set_cons_zero, List.set_cons_succ, PrintLast.i64_w, PrintLast.i32_w]; rfl)
          refine PrintLast.pure_ (i := 10) (N := (some 16)) (v := ?_) (a' := ?_) #[true, true, true, true, true, true, true, true, true, true, true, true, false] rfl rfl (by kernel_rfl) (fun _ _ _ h => hQp _ _ _ _ _ h) (Or.inl ⟨by rfl, ?_⟩) ?_ ?_
          rotate_left
          · (intro w'; go_simp; with_reducible rfl)
          rotate_left
          · (simp only [Act.put, List.setIfInBounds_toArray, List.set_cons_zero, List.set_cons_succ, PrintLast.i64_w, PrintLast.i32_w]; rfl)
          have a0 := block_cell HB5.out 0 rfl
          have a1 := block_cell HB5.out 1 rfl
          have a2 := block_cell HB5.out 2 rfl
          have p0 := block_frozen HB5.out 0
          have p1 := block_frozen HB5.out 1
          have p2 := block_frozen HB5.out 2
          refine PrintLast.last_ (i := 12) (N := none) #[true, true, true, true, true, true, true, true, true, true, true, true, true] rfl rfl (by kernel_rfl) (by decide) (fun K hK => ?_)
          refine PrintLast.skip_ (w1 := ?_) (by rfl) rfl ?_ ?_
          rotate_left
          · (go_simp; rfl)
          refine hK.out _ _ ?_
          clear hK K
          refine PrintLast.done_ (by kernel_rfl) ?_
          refine HQ.out b5 _ _ _ _ _ _ _ _ _ _ _ _ _ hgb5.2 (block_set (block_set (block_set HB5.out 0 _) 1 _) 2 _) (hR.kept (fun i hi => ?_)) ((((hwu.trans HT.out).set (p := ⟨b5, 0, none⟩) hgb5.2 _).set (p := ⟨b5, 1, none⟩) hgb5.2 _).set (p := ⟨b5, 2, none⟩) hgb5.2 _)
          rw [Below.heap_setCell _ _ _ _ (by simp; omega), Below.heap_setCell _ _ _ _ (by simp; omega), Below.heap_setCell _ _ _ _ (by simp; omega)]
      · skip
        refine PrintLast.value_ (w1 := ?_) (v := ?_) (by rfl) rfl ?_ ?_
        rotate_left 2
        · (go_simp; constructor <;> rfl)
        obtain ⟨u3, hu⟩ : ∃ u3, u3 = u2.alloc (.cells #[.int .i64 0, .int .i64 0, .int .i64 0] 30) := ⟨_, rfl⟩
        rw [← hu]
        have hbc : Below u2.heap.size u2 u3 := by rw [hu]; exact (Bel.alloc (w := u2) (W := u2)).out
        obtain ⟨b5, hbe⟩ : ∃ b, b = u2.heap.size := ⟨_, rfl⟩
        have hb : u3.heap[b5]? = some (.cells #[.int .i64 0, .int .i64 0, .int .i64 0] 30 (0, 0)) := by rw [hu, hbe]; exact heap_alloc_new _ _
        rw [← hbe]
        have hgb5 : g < b5 ∧ wa.heap.size ≤ b5 := by (have h1 := HZU.out; have h2 := HT.out.size; rw [hbe]; omega)
        have HB5 := Lib.hid hb
        have hR := hR.bel hbc
        have t2 : Gr g u2 u3 := Gr.of_bel hbc
        clear hu hbc hb hbe
        have HB6 := Lib.hid (t2.block HB6.out (by omega))
        have HT := Lib.hid (HT.out.trans t2)
        clear t2
        refine hK.out _ _ trivial (fun hHeld => ?_)
        clear hK K
        refine PrintLast.norm_ (a' := ?_) ?_ ?_
        rotate_left
        · (show Act.put _ (some 5) _ = _; simp only [Act.put, List.setIfInBounds_toArray, List.set_cons_zero, List.set_cons_succ, PrintLast.i64_w, PrintLast.i32_w]; rfl)
        refine PrintLast.two_ (i := 4) (j := 6) (Ni := some 10) (Nj := some 12) #[true, true, true, true, true, true, false, false, false, false, false, true, false] #[true, true, true, true, false, true, true, false, false, false, false, true, false] rfl rfl rfl rfl (by kernel_rfl) (by decide) (by decide) (fun K hK => ?_) (fun K hK => ?_)
        · skip
          obtain ⟨tv, htv⟩ := eight HB6.out lk8
          refine PrintLast.value_ (w1 := ?_) (v := ?_) (by rfl) rfl ?_ ?_
          rotate_left 2
          · (go_simp; constructor <;> rfl)
          have t3 : Gr g u3 u3 := ⟨grown_refl _ _⟩
          clear htv
          have HB6 := Lib.hid (t3.block HB6.out (by omega))
          have HB5 := Lib.hid (t3.block HB5.out (by omega))
          have HT := Lib.hid (HT.out.trans t3)
          clear t3
          refine hK.out _ _ trivial (fun hHeld => ?_)
          clear hK K
          refine PrintLast.norm_ (a' := ?_) ?_ ?_
          rotate_left
          · (show Act.put _ (some 10) _ = _; simp only [Act.put, List.setIfInBounds_toArray, List.set_cons_zero, List.set_cons_succ, PrintLast.i64_w, PrintLast.i32_w]; rfl)
          refine PrintLast.one_ (i := 6) (N := (some 12)) #[true, true, true, true, true, true, true, false, false, false, false, true, false] rfl rfl (by kernel_rfl) (by decide) (fun K hK => ?_)
          refine PrintLast.goes_ Tryd.func68 (by kernel_rfl) rfl #[.pointer (some ⟨g, 0, none⟩), .int .i64 60] (by rfl) rfl rfl (by (try simp only [List.map_toArray, List.map_cons, List.map_nil]); first | done | rfl) ?_
          refine (s_pick g _ 60 _ (by assumption) (by omega) (by omega) (by omega)).mono ?_
          rintro e u4 ⟨k12, rfl, hk12, hR, hG⟩
          have lk12 : (k12 : Int) < 60 := hk12 (by omega)
          refine ⟨_, rfl, ?_⟩
          have t3 : Gr g u3 u4 := ⟨hG⟩
          clear hG hk12
          have HB6 := Lib.hid (t3.block HB6.out (by omega))
          have HB5 := Lib.hid (t3.block HB5.out (by omega))
          have HT := Lib.hid (HT.out.trans t3)
          clear t3
          refine hK.out _ _ trivial (fun hHeld => ?_)
          clear hK K
          refine PrintLast.norm_ (a' := ?_) ?_ ?_
          rotate_left
          · (show Act.put _ (some 12) _ = _; simp only [Act.put, List.setIfInBounds_toArray, List.set_cons_zero, List.set_cons_succ, PrintLast.i64_w, PrintLast.i32_w]; rfl)
          refine PrintLast.pure_ (i := 7) (N := (some 13)) (v := ?_) (a' := ?_) #[true, true, true, true, true, true, true, true, false, false, false, true, false] rfl rfl (by kernel_rfl) (fun _ _ _ h => hQp _ _ _ _ _ h) (Or.inl ⟨by rfl, ?_⟩) ?_ ?_
          rotate_left
          · (intro w'; go_simp; with_reducible rfl)
          rotate_left
          · (simp only [Act.put, List.setIfInBounds_toArray, List.set_cons_zero, List.set_cons_succ, PrintLast.i64_w, PrintLast.i32_w]; rfl)
          refine PrintLast.pure_ (i := 8) (N := (some 14)) (v := ?_) (a' := ?_) #[true, true, true, true, true, true, true, true, true, false, false, true, false] rfl rfl (by kernel_rfl) (fun _ _ _ h => hQp _ _ _ _ _ h) (Or.inl ⟨by rfl, ?_⟩) ?_ ?_
          rotate_left
          · (intro w'; go_simp; with_reducible rfl)
          rotate_left
          · (simp only [Act.put, List.setIfInBounds_toArray, List.set_cons_zero, List.set_cons_succ, PrintLast.i64_w, PrintLast.i32_w]; rfl)
          refine PrintLast.pure_ (i := 9) (N := (some 15)) (v := ?_) (a' := ?_) #[true, true, true, true, true, true, true, true, true, true, false, true, false] rfl rfl (by kernel_rfl) (fun _ _ _ h => hQp _ _ _ _ _ h) (Or.inl ⟨by rfl, ?_⟩) ?_ ?_
          rotate_left
          · (intro w'; go_simp; with_reducible rfl)
          rotate_left
          · (simp only [Act.put, List.setIfInBounds_toArray, List.set_cons_zero, List.set_cons_succ, PrintLast.i64_w, PrintLast.i32_w]; rfl)
          refine PrintLast.pure_ (i := 10) (N := (some 16)) (v := ?_) (a' := ?_) #[true, true, true, true, true, true, true, true, true, true, true, true, false] rfl rfl (by kernel_rfl) (fun _ _ _ h => hQp _ _ _ _ _ h) (Or.inl ⟨by rfl, ?_⟩) ?_ ?_
          rotate_left
          · (intro w'; go_simp; with_reducible rfl)
          rotate_left
          · (simp only [Act.put, List.setIfInBounds_toArray, List.set_cons_zero, List.set_cons_succ, PrintLast.i64_w, PrintLast.i32_w]; rfl)
          have a0 := block_cell HB5.out 0 rfl
          have a1 := block_cell HB5.out 1 rfl
          have a2 := block_cell HB5.out 2 rfl
          have p0 := block_frozen HB5.out 0
          have p1 := block_frozen HB5.out 1
          have p2 := block_frozen HB5.out 2
          refine PrintLast.last_ (i := 12) (N := none) #[true, true, true, true, true, true, true, true, true, true, true, true, true] rfl rfl (by kernel_rfl) (by decide) (fun K hK => ?_)
          refine PrintLast.skip_ (w1 := ?_) (by rfl) rfl ?_ ?_
          rotate_left
          · (go_simp; rfl)
          refine hK.out _ _ ?_
          clear hK K
          refine PrintLast.done_ (by kernel_rfl) ?_
          refine HQ.out b5 _ _ _ _ _ _ _ _ _ _ _ _ _ hgb5.2 (block_set (block_set (block_set HB5.out 0 _) 1 _) 2 _) (hR.kept (fun i hi => ?_)) ((((hwu.trans HT.out).set (p := ⟨b5, 0, none⟩) hgb5.2 _).set (p := ⟨b5, 1, none⟩) hgb5.2 _).set (p := ⟨b5, 2, none⟩) hgb5.2 _)
          rw [Below.heap_setCell _ _ _ _ (by simp; omega), Below.heap_setCell _ _ _ _ (by simp; omega), Below.heap_setCell _ _ _ _ (by simp; omega)]
        · skip
          refine PrintLast.goes_ Tryd.func68 (by kernel_rfl) rfl #[.pointer (some ⟨g, 0, none⟩), .int .i64 60] (by rfl) rfl rfl (by (try simp only [List.map_toArray, List.map_cons, List.map_nil]); first | done | rfl) ?_
          refine (s_pick g _ 60 _ (by assumption) (by omega) (by omega) (by omega)).mono ?_
          rintro e u4 ⟨k12, rfl, hk12, hR, hG⟩
          have lk12 : (k12 : Int) < 60 := hk12 (by omega)
          refine ⟨_, rfl, ?_⟩
          have t3 : Gr g u3 u4 := ⟨hG⟩
          clear hG hk12
          have HB6 := Lib.hid (t3.block HB6.out (by omega))
          have HB5 := Lib.hid (t3.block HB5.out (by omega))
          have HT := Lib.hid (HT.out.trans t3)
          clear t3
          refine hK.out _ _ trivial (fun hHeld => ?_)
          clear hK K
          refine PrintLast.norm_ (a' := ?_) ?_ ?_
          rotate_left
          · (show Act.put _ (some 12) _ = _; simp only [Act.put, List.setIfInBounds_toArray, List.set_cons_zero, List.set_cons_succ, PrintLast.i64_w, PrintLast.i32_w]; rfl)
          refine PrintLast.pure_ (i := 7) (N := (some 13)) (v := ?_) (a' := ?_) #[true, true, true, true, false, true, true, true, false, false, false, true, false] rfl rfl (by kernel_rfl) (fun _ _ _ h => hQp _ _ _ _ _ h) (Or.inl ⟨by rfl, ?_⟩) ?_ ?_
          rotate_left
          · (intro w'; go_simp; with_reducible rfl)
          rotate_left
          · (simp only [Act.put, List.setIfInBounds_toArray, List.set_cons_zero, List.set_cons_succ, PrintLast.i64_w, PrintLast.i32_w]; rfl)
          refine PrintLast.pure_ (i := 8) (N := (some 14)) (v := ?_) (a' := ?_) #[true, true, true, true, false, true, true, true, true, false, false, true, false] rfl rfl (by kernel_rfl) (fun _ _ _ h => hQp _ _ _ _ _ h) (Or.inl ⟨by rfl, ?_⟩) ?_ ?_
          rotate_left
          · (intro w'; go_simp; with_reducible rfl)
          rotate_left
          · (simp only [Act.put, List.setIfInBounds_toArray, List.set_cons_zero, List.set_cons_succ, PrintLast.i64_w, PrintLast.i32_w]; rfl)
          refine PrintLast.one_ (i := 4) (N := (some 10)) #[true, true, true, true, true, true, true, true, true, false, false, true, false] rfl rfl (by kernel_rfl) (by decide) (fun K hK => ?_)
          obtain ⟨tv, htv⟩ := eight HB6.out lk8
          refine PrintLast.value_ (w1 := ?_) (v := ?_) (by rfl) rfl ?_ ?_
          rotate_left 2
          · (go_simp; constructor <;> rfl)
          have t4 : Gr g u4 u4 := ⟨grown_refl _ _⟩
          clear htv
          have HB6 := Lib.hid (t4.block HB6.out (by omega))
          have HB5 := Lib.hid (t4.block HB5.out (by omega))
          have HT := Lib.hid (HT.out.trans t4)
          clear t4
          refine hK.out _ _ trivial (fun hHeld => ?_)
          clear hK K
          refine PrintLast.norm_ (a' := ?_) ?_ ?_
          rotate_left
          · (show Act.put _ (some 10) _ = _; simp only [Act.put, List.setIfInBounds_toArray, List.set_cons_zero, List.set_cons_succ, PrintLast.i64_w, PrintLast.i32_w]; rfl)
          refine PrintLast.pure_ (i := 9) (N := (some 15)) (v := ?_) (a' := ?_) #[true, true, true, true, true, true, true, true, true, true, false, true, false] rfl rfl (by kernel_rfl) (fun _ _ _ h => hQp _ _ _ _ _ h) (Or.inl ⟨by rfl, ?_⟩) ?_ ?_
          rotate_left
          · (intro w'; go_simp; with_reducible rfl)
          rotate_left
          · (simp only [Act.put, List.setIfInBounds_toArray, List.set_cons_zero, List.set_cons_succ, PrintLast.i64_w, PrintLast.i32_w]; rfl)
          refine PrintLast.pure_ (i := 10) (N := (some 16)) (v := ?_) (a' := ?_) #[true, true, true, true, true, true, true, true, true, true, true, true, false] rfl rfl (by kernel_rfl) (fun _ _ _ h => hQp _ _ _ _ _ h) (Or.inl ⟨by rfl, ?_⟩) ?_ ?_
          rotate_left
          · (intro w'; go_simp; with_reducible rfl)
          rotate_left
          · (simp only [Act.put, List.setIfInBounds_toArray, List.set_cons_zero, List.set_cons_succ, PrintLast.i64_w, PrintLast.i32_w]; rfl)
          have a0 := block_cell HB5.out 0 rfl
          have a1 := block_cell HB5.out 1 rfl
          have a2 := block_cell HB5.out 2 rfl
          have p0 := block_frozen HB5.out 0
          have p1 := block_frozen HB5.out 1
          have p2 := block_frozen HB5.out 2
          refine PrintLast.last_ (i := 12) (N := none) #[true, true, true, true, true, true, true, true, true, true, true, true, true] rfl rfl (by kernel_rfl) (by decide) (fun K hK => ?_)
          refine PrintLast.skip_ (w1 := ?_) (by rfl) rfl ?_ ?_
          rotate_left
          · (go_simp; rfl)
          refine hK.out _ _ ?_
          clear hK K
          refine PrintLast.done_ (by kernel_rfl) ?_
          refine HQ.out b5 _ _ _ _ _ _ _ _ _ _ _ _ _ hgb5.2 (block_set (block_set (block_set HB5.out 0 _) 1 _) 2 _) (hR.kept (fun i hi => ?_)) ((((hwu.trans HT.out).set (p := ⟨b5, 0, none⟩) hgb5.2 _).set (p := ⟨b5, 1, none⟩) hgb5.2 _).set (p := ⟨b5, 2, none⟩) hgb5.2 _)
          rw [Below.heap_setCell _ _ _ _ (by simp; omega), Below.heap_setCell _ _ _ _ (by simp; omega), Below.heap_setCell _ _ _ _ (by simp; omega)]
    · skip
      refine PrintLast.goes_ Tryd.func68 (by kernel_rfl) rfl #[.pointer (some ⟨g, 0, none⟩), .int .i64 60] (by rfl) rfl rfl (by (try simp only [List.map_toArray, List.map_cons, List.map_nil]); first | done | rfl) ?_
      refine (s_pick g _ 60 _ (by assumption) (by omega) (by omega) (by omega)).mono ?_
      rintro e u2 ⟨k12, rfl, hk12, hR, hG⟩
      have lk12 : (k12 : Int) < 60 := hk12 (by omega)
      refine ⟨_, rfl, ?_⟩
      have t1 : Gr g u1 u2 := ⟨hG⟩
      clear hG hk12
      have HT := Lib.hid (HT.out.trans t1)
      clear t1
      refine hK.out _ _ trivial (fun hHeld => ?_)
      clear hK K
      refine PrintLast.norm_ (a' := ?_) ?_ ?_
      rotate_left
      · (show Act.put _ (some 12) _ = _; simp only [Act.put, List.setIfInBounds_toArray, List.set_cons_zero, List.set_cons_succ, PrintLast.i64_w, PrintLast.i32_w]; rfl)
      refine PrintLast.pure_ (i := 7) (N := (some 13)) (v := ?_) (a' := ?_) #[false, true, true, false, false, true, true, true, false, false, false, false, false] rfl rfl (by kernel_rfl) (fun _ _ _ h => hQp _ _ _ _ _ h) (Or.inl ⟨by rfl, ?_⟩) ?_ ?_
      rotate_left
      · (intro w'; go_simp; with_reducible rfl)
      rotate_left
      · (simp only [Act.put, List.setIfInBounds_toArray, List.set_cons_zero, List.set_cons_succ, PrintLast.i64_w, PrintLast.i32_w]; rfl)
      refine PrintLast.pure_ (i := 8) (N := (some 14)) (v := ?_) (a' := ?_) #[false, true, true, false, false, true, true, true, true, false, false, false, false] rfl rfl (by kernel_rfl) (fun _ _ _ h => hQp _ _ _ _ _ h) (Or.inl ⟨by rfl, ?_⟩) ?_ ?_
      rotate_left
      · (intro w'; go_simp; with_reducible rfl)
      rotate_left
      · (simp only [Act.put, List.setIfInBounds_toArray, List.set_cons_zero, List.set_cons_succ, PrintLast.i64_w, PrintLast.i32_w]; rfl)
      refine PrintLast.two_ (i := 0) (j := 11) (Ni := some 6) (Nj := some 5) #[true, true, true, false, false, true, true, true, true, false, false, false, false] #[false, true, true, false, false, true, true, true, true, false, false, true, false] rfl rfl rfl rfl (by kernel_rfl) (by decide) (by decide) (fun K hK => ?_) (fun K hK => ?_)
      · skip
        refine PrintLast.value_ (w1 := ?_) (v := ?_) (by rfl) rfl ?_ ?_
        rotate_left 2
        · (go_simp; constructor <;> rfl)
        obtain ⟨u3, hu⟩ : ∃ u3, u3 = u2.alloc (.cells #[.int .i64 0, .int .i64 1, .int .i64 2, .int .i64 2, .int .i64 2, .int .i64 2, .int .i64 3, .int .i64 4] 3) := ⟨_, rfl⟩
        rw [← hu]
        have hbc : Below u2.heap.size u2 u3 := by rw [hu]; exact (Bel.alloc (w := u2) (W := u2)).out
        obtain ⟨b6, hbe⟩ : ∃ b, b = u2.heap.size := ⟨_, rfl⟩
        have hb : u3.heap[b6]? = some (.cells #[.int .i64 0, .int .i64 1, .int .i64 2, .int .i64 2, .int .i64 2, .int .i64 2, .int .i64 3, .int .i64 4] 3 (0, 0)) := by rw [hu, hbe]; exact heap_alloc_new _ _
        rw [← hbe]
        have hgb6 : g < b6 ∧ wa.heap.size ≤ b6 := by (have h1 := HZU.out; have h2 := HT.out.size; rw [hbe]; omega)
        have HB6 := Lib.hid hb
        have hR := hR.bel hbc
        have t2 : Gr g u2 u3 := Gr.of_bel hbc
        clear hu hbc hb hbe
        have HT := Lib.hid (HT.out.trans t2)
        clear t2
        refine hK.out _ _ trivial (fun hHeld => ?_)
        clear hK K
        refine PrintLast.norm_ (a' := ?_) ?_ ?_
        rotate_left
        · (show Act.put _ (some 6) _ = _; simp only [Act.put, List.setIfInBounds_toArray, List.set_cons_zero, List.set_cons_succ, PrintLast.i64_w, PrintLast.i32_w]; rfl)
        refine PrintLast.pure_ (i := 3) (N := (some 9)) (v := ?_) (a' := ?_) #[true, true, true, true, false, true, true, true, true, false, false, false, false] rfl rfl (by kernel_rfl) (fun _ _ _ h => hQp _ _ _ _ _ h) (Or.inl ⟨by rfl, ?_⟩) ?_ ?_
        rotate_left
        · (intro w'; go_simp; with_reducible rfl)
        rotate_left
        · (simp only [Act.put, List.setIfInBounds_toArray, List.set_cons_zero, List.set_cons_succ, PrintLast.i64_w, PrintLast.i32_w]; rfl)
        refine PrintLast.two_ (i := 4) (j := 11) (Ni := some 10) (Nj := some 5) #[true, true, true, true, true, true, true, true, true, false, false, false, false] #[true, true, true, true, false, true, true, true, true, false, false, true, false] rfl rfl rfl rfl (by kernel_rfl) (by decide) (by decide) (fun K hK => ?_) (fun K hK => ?_)
        · skip
          obtain ⟨tv, htv⟩ := eight HB6.out lk8
          refine PrintLast.value_ (w1 := ?_) (v := ?_) (by rfl) rfl ?_ ?_
          rotate_left 2
          · (go_simp; constructor <;> rfl)
          have t3 : Gr g u3 u3 := ⟨grown_refl _ _⟩
          clear htv
          have HB6 := Lib.hid (t3.block HB6.out (by omega))
          have HT := Lib.hid (HT.out.trans t3)
          clear t3
          refine hK.out _ _ trivial (fun hHeld => ?_)
          clear hK K
          refine PrintLast.norm_ (a' := ?_) ?_ ?_
          rotate_left
          · (show Act.put _ (some 10) _ = _; simp only [Act.put, List.setIfInBounds_toArray, List.set_cons_zero, List.set_cons_succ, PrintLast.i64_w, PrintLast.i32_w]; rfl)
          refine PrintLast.pure_ (i := 9) (N := (some 15)) (v := ?_) (a' := ?_) #[true, true, true, true, true, true, true, true, true, true, false, false, false] rfl rfl (by kernel_rfl) (fun _ _ _ h => hQp _ _ _ _ _ h) (Or.inl ⟨by rfl, ?_⟩) ?_ ?_
          rotate_left
          · (intro w'; go_simp; with_reducible rfl)
          rotate_left
          · (simp only [Act.put, List.setIfInBounds_toArray, List.set_cons_zero, List.set_cons_succ, PrintLast.i64_w, PrintLast.i32_w]; rfl)
          refine PrintLast.pure_ (i := 10) (N := (some 16)) (v := ?_) (a' := ?_) #[true, true, true, true, true, true, true, true, true, true, true, false, false] rfl rfl (by kernel_rfl) (fun _ _ _ h => hQp _ _ _ _ _ h) (Or.inl ⟨by rfl, ?_⟩) ?_ ?_
          rotate_left
          · (intro w'; go_simp; with_reducible rfl)
          rotate_left
          · (simp only [Act.put, List.setIfInBounds_toArray, List.set_cons_zero, List.set_cons_succ, PrintLast.i64_w, PrintLast.i32_w]; rfl)
          refine PrintLast.one_ (i := 11) (N := (some 5)) #[true, true, true, true, true, true, true, true, true, true, true, true, false] rfl rfl (by kernel_rfl) (by decide) (fun K hK => ?_)
          refine PrintLast.value_ (w1 := ?_) (v := ?_) (by rfl) rfl ?_ ?_
          rotate_left 2
          · (go_simp; constructor <;> rfl)
          obtain ⟨u4, hu⟩ : ∃ u4, u4 = u3.alloc (.cells #[.int .i64 0, .int .i64 0, .int .i64 0] 30) := ⟨_, rfl⟩
          rw [← hu]
          have hbc : Below u3.heap.size u3 u4 := by rw [hu]; exact (Bel.alloc (w := u3) (W := u3)).out
          obtain ⟨b5, hbe⟩ : ∃ b, b = u3.heap.size := ⟨_, rfl⟩
          have hb : u4.heap[b5]? = some (.cells #[.int .i64 0, .int .i64 0, .int .i64 0] 30 (0, 0)) := by rw [hu, hbe]; exact heap_alloc_new _ _
          rw [← hbe]
          have hgb5 : g < b5 ∧ wa.heap.size ≤ b5 := by (have h1 := HZU.out; have h2 := HT.out.size; rw [hbe]; omega)
          have HB5 := Lib.hid hb
          have hR := hR.bel hbc
          have t3 : Gr g u3 u4 := Gr.of_bel hbc
          clear hu hbc hb hbe
          have HB6 := Lib.hid (t3.block HB6.out (by omega))
          have HT := Lib.hid (HT.out.trans t3)
          clear t3
          refine hK.out _ _ trivial (fun hHeld => ?_)
          clear hK K
          refine PrintLast.norm_ (a' := ?_) ?_ ?_
          rotate_left
          · (show Act.put _ (some 5) _ = _; simp only [Act.put, List.setIfInBounds_toArray, List.set_cons_zero, List.set_cons_succ, PrintLast.i64_w, PrintLast.i32_w]; rfl)
          have a0 := block_cell HB5.out 0 rfl
          have a1 := block_cell HB5.out 1 rfl
          have a2 := block_cell HB5.out 2 rfl
          have p0 := block_frozen HB5.out 0
          have p1 := block_frozen HB5.out 1
          have p2 := block_frozen HB5.out 2
          refine PrintLast.last_ (i := 12) (N := none) #[true, true, true, true, true, true, true, true, true, true, true, true, true] rfl rfl (by kernel_rfl) (by decide) (fun K hK => ?_)
          refine PrintLast.skip_ (w1 := ?_) (by rfl) rfl ?_ ?_
          rotate_left
          · (go_simp; rfl)
          refine hK.out _ _ ?_
          clear hK K
          refine PrintLast.done_ (by kernel_rfl) ?_
          refine HQ.out b5 _ _ _ _ _ _ _ _ _ _ _ _ _ hgb5.2 (block_set (block_set (block_set HB5.out 0 _) 1 _) 2 _) (hR.kept (fun i hi => ?_)) ((((hwu.trans HT.out).set (p := ⟨b5, 0, none⟩) hgb5.2 _).set (p := ⟨b5, 1, none⟩) hgb5.2 _).set (p := ⟨b5, 2, none⟩) hgb5.2 _)
          rw [Below.heap_setCell _ _ _ _ (by simp; omega), Below.heap_setCell _ _ _ _ (by simp; omega), Below.heap_setCell _ _ _ _ (by simp; omega)]
        · skip
          refine PrintLast.value_ (w1 := ?_) (v := ?_) (by rfl) rfl ?_ ?_
          rotate_left 2
          · (go_simp; constructor <;> rfl)
          obtain ⟨u4, hu⟩ : ∃ u4, u4 = u3.alloc (.cells #[.int .i64 0, .int .i64 0, .int .i64 0] 30) := ⟨_, rfl⟩
          rw [← hu]
          have hbc : Below u3.heap.size u3 u4 := by rw [hu]; exact (Bel.alloc (w := u3) (W := u3)).out
          obtain ⟨b5, hbe⟩ : ∃ b, b = u3.heap.size := ⟨_, rfl⟩
          have hb : u4.heap[b5]? = some (.cells #[.int .i64 0, .int .i64 0, .int .i64 0] 30 (0, 0)) := by rw [hu, hbe]; exact heap_alloc_new _ _
          rw [← hbe]
          have hgb5 : g < b5 ∧ wa.heap.size ≤ b5 := by (have h1 := HZU.out; have h2 := HT.out.size; rw [hbe]; omega)
          have HB5 := Lib.hid hb
          have hR := hR.bel hbc
          have t3 : Gr g u3 u4 := Gr.of_bel hbc
          clear hu hbc hb hbe
          have HB6 := Lib.hid (t3.block HB6.out (by omega))
          have HT := Lib.hid (HT.out.trans t3)
          clear t3
          refine hK.out _ _ trivial (fun hHeld => ?_)
          clear hK K
          refine PrintLast.norm_ (a' := ?_) ?_ ?_
          rotate_left
          · (show Act.put _ (some 5) _ = _; simp only [Act.put, List.setIfInBounds_toArray, List.set_cons_zero, List.set_cons_succ, PrintLast.i64_w, PrintLast.i32_w]; rfl)
          refine PrintLast.one_ (i := 4) (N := (some 10)) #[true, true, true, true, true, true, true, true, true, false, false, true, false] rfl rfl (by kernel_rfl) (by decide) (fun K hK => ?_)
          obtain ⟨tv, htv⟩ := eight HB6.out lk8
          refine PrintLast.value_ (w1 := ?_) (v := ?_) (by rfl) rfl ?_ ?_
          rotate_left 2
          · (go_simp; constructor <;> rfl)
          have t4 : Gr g u4 u4 := ⟨grown_refl _ _⟩
          clear htv
          have HB6 := Lib.hid (t4.block HB6.out (by omega))
          have HB5 := Lib.hid (t4.block HB5.out (by omega))
          have HT := Lib.hid (HT.out.trans t4)
          clear t4
          refine hK.out _ _ trivial (fun hHeld => ?_)
          clear hK K
          refine PrintLast.norm_ (a' := ?_) ?_ ?_
          rotate_left
          · (show Act.put _ (some 10) _ = _; simp only [Act.put, List.setIfInBounds_toArray, List.set_cons_zero, List.set_cons_succ, PrintLast.i64_w, PrintLast.i32_w]; rfl)
          refine PrintLast.pure_ (i := 9) (N := (some 15)) (v := ?_) (a' := ?_) #[true, true, true, true, true, true, true, true, true, true, false, true, false] rfl rfl (by kernel_rfl) (fun _ _ _ h => hQp _ _ _ _ _ h) (Or.inl ⟨by rfl, ?_⟩) ?_ ?_
          rotate_left
          · (intro w'; go_simp; with_reducible rfl)
          rotate_left
          · (simp only [Act.put, List.setIfInBounds_toArray, List.set_cons_zero, List.set_cons_succ, PrintLast.i64_w, PrintLast.i32_w]; rfl)
          refine PrintLast.pure_ (i := 10) (N := (some 16)) (v := ?_) (a' := ?_) #[true, true, true, true, true, true, true, true, true, true, true, true, false] rfl rfl (by kernel_rfl) (fun _ _ _ h => hQp _ _ _ _ _ h) (Or.inl ⟨by rfl, ?_⟩) ?_ ?_
          rotate_left
          · (intro w'; go_simp; with_reducible rfl)
          rotate_left
          · (simp only [Act.put, List.setIfInBounds_toArray, List.set_cons_zero, List.set_cons_succ, PrintLast.i64_w, PrintLast.i32_w]; rfl)
          have a0 := block_cell HB5.out 0 rfl
          have a1 := block_cell HB5.out 1 rfl
          have a2 := block_cell HB5.out 2 rfl
          have p0 := block_frozen HB5.out 0
          have p1 := block_frozen HB5.out 1
          have p2 := block_frozen HB5.out 2
          refine PrintLast.last_ (i := 12) (N := none) #[true, true, true, true, true, true, true, true, true, true, true, true, true] rfl rfl (by kernel_rfl) (by decide) (fun K hK => ?_)
          refine PrintLast.skip_ (w1 := ?_) (by rfl) rfl ?_ ?_
          rotate_left
          · (go_simp; rfl)
          refine hK.out _ _ ?_
          clear hK K
          refine PrintLast.done_ (by kernel_rfl) ?_
          refine HQ.out b5 _ _ _ _ _ _ _ _ _ _ _ _ _ hgb5.2 (block_set (block_set (block_set HB5.out 0 _) 1 _) 2 _) (hR.kept (fun i hi => ?_)) ((((hwu.trans HT.out).set (p := ⟨b5, 0, none⟩) hgb5.2 _).set (p := ⟨b5, 1, none⟩) hgb5.2 _).set (p := ⟨b5, 2, none⟩) hgb5.2 _)
          rw [Below.heap_setCell _ _ _ _ (by simp; omega), Below.heap_setCell _ _ _ _ (by simp; omega), Below.heap_setCell _ _ _ _ (by simp; omega)]
      · skip
        refine PrintLast.value_ (w1 := ?_) (v := ?_) (by rfl) rfl ?_ ?_
        rotate_left 2
        · (go_simp; constructor <;> rfl)
        obtain ⟨u3, hu⟩ : ∃ u3, u3 = u2.alloc (.cells #[.int .i64 0, .int .i64 0, .int .i64 0] 30) := ⟨_, rfl⟩
        rw [← hu]
        have hbc : Below u2.heap.size u2 u3 := by rw [hu]; exact (Bel.alloc (w := u2) (W := u2)).out
        obtain ⟨b5, hbe⟩ : ∃ b, b = u2.heap.size := ⟨_, rfl⟩
        have hb : u3.heap[b5]? = some (.cells #[.int .i64 0, .int .i64 0, .int .i64 0] 30 (0, 0)) := by rw [hu, hbe]; exact heap_alloc_new _ _
        rw [← hbe]
        have hgb5 : g < b5 ∧ wa.heap.size ≤ b5 := by (have h1 := HZU.out; have h2 := HT.out.size; rw [hbe]; omega)
        have HB5 := Lib.hid hb
        have hR := hR.bel hbc
        have t2 : Gr g u2 u3 := Gr.of_bel hbc
        clear hu hbc hb hbe
        have HT := Lib.hid (HT.out.trans t2)
        clear t2
        refine hK.out _ _ trivial (fun hHeld => ?_)
        clear hK K
        refine PrintLast.norm_ (a' := ?_) ?_ ?_
        rotate_left
        · (show Act.put _ (some 5) _ = _; simp only [Act.put, List.setIfInBounds_toArray, List.set_cons_zero, List.set_cons_succ, PrintLast.i64_w, PrintLast.i32_w]; rfl)
        refine PrintLast.one_ (i := 0) (N := (some 6)) #[true, true, true, false, false, true, true, true, true, false, false, true, false] rfl rfl (by kernel_rfl) (by decide) (fun K hK => ?_)
        refine PrintLast.value_ (w1 := ?_) (v := ?_) (by rfl) rfl ?_ ?_
        rotate_left 2
        · (go_simp; constructor <;> rfl)
        obtain ⟨u4, hu⟩ : ∃ u4, u4 = u3.alloc (.cells #[.int .i64 0, .int .i64 1, .int .i64 2, .int .i64 2, .int .i64 2, .int .i64 2, .int .i64 3, .int .i64 4] 3) := ⟨_, rfl⟩
        rw [← hu]
        have hbc : Below u3.heap.size u3 u4 := by rw [hu]; exact (Bel.alloc (w := u3) (W := u3)).out
        obtain ⟨b6, hbe⟩ : ∃ b, b = u3.heap.size := ⟨_, rfl⟩
        have hb : u4.heap[b6]? = some (.cells #[.int .i64 0, .int .i64 1, .int .i64 2, .int .i64 2, .int .i64 2, .int .i64 2, .int .i64 3, .int .i64 4] 3 (0, 0)) := by rw [hu, hbe]; exact heap_alloc_new _ _
        rw [← hbe]
        have hgb6 : g < b6 ∧ wa.heap.size ≤ b6 := by (have h1 := HZU.out; have h2 := HT.out.size; rw [hbe]; omega)
        have HB6 := Lib.hid hb
        have hR := hR.bel hbc
        have t3 : Gr g u3 u4 := Gr.of_bel hbc
        clear hu hbc hb hbe
        have HB5 := Lib.hid (t3.block HB5.out (by omega))
        have HT := Lib.hid (HT.out.trans t3)
        clear t3
        refine hK.out _ _ trivial (fun hHeld => ?_)
        clear hK K
        refine PrintLast.norm_ (a' := ?_) ?_ ?_
        rotate_left
        · (show Act.put _ (some 6) _ = _; simp only [Act.put, List.setIfInBounds_toArray, List.set_cons_zero, List.set_cons_succ, PrintLast.i64_w, PrintLast.i32_w]; rfl)
        refine PrintLast.pure_ (i := 3) (N := (some 9)) (v := ?_) (a' := ?_) #[true, true, true, true, false, true, true, true, true, false, false, true, false] rfl rfl (by kernel_rfl) (fun _ _ _ h => hQp _ _ _ _ _ h) (Or.inl ⟨by rfl, ?_⟩) ?_ ?_
        rotate_left
        · (intro w'; go_simp; with_reducible rfl)
        rotate_left
        · (simp only [Act.put, List.setIfInBounds_toArray, List.set_cons_zero, List.set_cons_succ, PrintLast.i64_w, PrintLast.i32_w]; rfl)
        refine PrintLast.one_ (i := 4) (N := (some 10)) #[true, true, true, true, true, true, true, true, true, false, false, true, false] rfl rfl (by kernel_rfl) (by decide) (fun K hK => ?_)
        obtain ⟨tv, htv⟩ := eight HB6.out lk8
        refine PrintLast.value_ (w1 := ?_) (v := ?_) (by rfl) rfl ?_ ?_
        rotate_left 2
        · (go_simp; constructor <;> rfl)
        have t4 : Gr g u4 u4 := ⟨grown_refl _ _⟩
        clear htv
        have HB6 := Lib.hid (t4.block HB6.out (by omega))
        have HB5 := Lib.hid (t4.block HB5.out (by omega))
        have HT := Lib.hid (HT.out.trans t4)
        clear t4
        refine hK.out _ _ trivial (fun hHeld => ?_)
        clear hK K
        refine PrintLast.norm_ (a' := ?_) ?_ ?_
        rotate_left
        · (show Act.put _ (some 10) _ = _; simp only [Act.put, List.setIfInBounds_toArray, List.set_cons_zero, List.set_cons_succ, PrintLast.i64_w, PrintLast.i32_w]; rfl)
        refine PrintLast.pure_ (i := 9) (N := (some 15)) (v := ?_) (a' := ?_) #[true, true, true, true, true, true, true, true, true, true, false, true, false] rfl rfl (by kernel_rfl) (fun _ _ _ h => hQp _ _ _ _ _ h) (Or.inl ⟨by rfl, ?_⟩) ?_ ?_
        rotate_left
        · (intro w'; go_simp; with_reducible rfl)
        rotate_left
        · (simp only [Act.put, List.setIfInBounds_toArray, List.set_cons_zero, List.set_cons_succ, PrintLast.i64_w, PrintLast.i32_w]; rfl)
        refine PrintLast.pure_ (i := 10) (N := (some 16)) (v := ?_) (a' := ?_) #[true, true, true, true, true, true, true, true, true, true, true, true, false] rfl rfl (by kernel_rfl) (fun _ _ _ h => hQp _ _ _ _ _ h) (Or.inl ⟨by rfl, ?_⟩) ?_ ?_
        rotate_left
        · (intro w'; go_simp; with_reducible rfl)
        rotate_left
        · (simp only [Act.put, List.setIfInBounds_toArray, List.set_cons_zero, List.set_cons_succ, PrintLast.i64_w, PrintLast.i32_w]; rfl)
        have a0 := block_cell HB5.out 0 rfl
        have a1 := block_cell HB5.out 1 rfl
        have a2 := block_cell HB5.out 2 rfl
        have p0 := block_frozen HB5.out 0
        have p1 := block_frozen HB5.out 1
        have p2 := block_frozen HB5.out 2
        refine PrintLast.last_ (i := 12) (N := none) #[true, true, true, true, true, true, true, true, true, true, true, true, true] rfl rfl (by kernel_rfl) (by decide) (fun K hK => ?_)
        refine PrintLast.skip_ (w1 := ?_) (by rfl) rfl ?_ ?_
        rotate_left
        · (go_simp; rfl)
        refine hK.out _ _ ?_
        clear hK K
        refine PrintLast.done_ (by kernel_rfl) ?_
        refine HQ.out b5 _ _ _ _ _ _ _ _ _ _ _ _ _ hgb5.2 (block_set (block_set (block_set HB5.out 0 _) 1 _) 2 _) (hR.kept (fun i hi => ?_)) ((((hwu.trans HT.out).set (p := ⟨b5, 0, none⟩) hgb5.2 _).set (p := ⟨b5, 1, none⟩) hgb5.2 _).set (p := ⟨b5, 2, none⟩) hgb5.2 _)
        rw [Below.heap_setCell _ _ _ _ (by simp; omega), Below.heap_setCell _ _ _ _ (by simp; omega), Below.heap_setCell _ _ _ _ (by simp; omega)]
    · skip
      refine PrintLast.value_ (w1 := ?_) (v := ?_) (by rfl) rfl ?_ ?_
      rotate_left 2
      · (go_simp; constructor <;> rfl)
      obtain ⟨u2, hu⟩ : ∃ u2, u2 = u1.alloc (.cells #[.int .i64 0, .int .i64 0, .int .i64 0] 30) := ⟨_, rfl⟩
      rw [← hu]
      have hbc : Below u1.heap.size u1 u2 := by rw [hu]; exact (Bel.alloc (w := u1) (W := u1)).out
      obtain ⟨b5, hbe⟩ : ∃ b, b = u1.heap.size := ⟨_, rfl⟩
      have hb : u2.heap[b5]? = some (.cells #[.int .i64 0, .int .i64 0, .int .i64 0] 30 (0, 0)) := by rw [hu, hbe]; exact heap_alloc_new _ _
      rw [← hbe]
      have hgb5 : g < b5 ∧ wa.heap.size ≤ b5 := by (have h1 := HZU.out; have h2 := HT.out.size; rw [hbe]; omega)
      have HB5 := Lib.hid hb
      have hR := hR.bel hbc
      have t1 : Gr g u1 u2 := Gr.of_bel hbc
      clear hu hbc hb hbe
      have HT := Lib.hid (HT.out.trans t1)
      clear t1
      refine hK.out _ _ trivial (fun hHeld => ?_)
      clear hK K
      refine PrintLast.norm_ (a' := ?_) ?_ ?_
      rotate_left
      · (show Act.put _ (some 5) _ = _; simp only [Act.put, List.setIfInBounds_toArray, List.set_cons_zero, List.set_cons_succ, PrintLast.i64_w, PrintLast.i32_w]; rfl)
      refine PrintLast.two_ (i := 0) (j := 6) (Ni := some 6) (Nj := some 12) #[true, true, true, false, false, true, false, false, false, false, false, true, false] #[false, true, true, false, false, true, true, false, false, false, false, true, false] rfl rfl rfl rfl (by kernel_rfl) (by decide) (by decide) (fun K hK => ?_) (fun K hK => ?_)
      · skip
        refine PrintLast.value_ (w1 := ?_) (v := ?_) (by rfl) rfl ?_ ?_
        rotate_left 2
        · (go_simp; constructor <;> rfl)
        obtain ⟨u3, hu⟩ : ∃ u3, u3 = u2.alloc (.cells #[.int .i64 0, .int .i64 1, .int .i64 2, .int .i64 2, .int .i64 2, .int .i64 2, .int .i64 3, .int .i64 4] 3) := ⟨_, rfl⟩
        rw [← hu]
        have hbc : Below u2.heap.size u2 u3 := by rw [hu]; exact (Bel.alloc (w := u2) (W := u2)).out
        obtain ⟨b6, hbe⟩ : ∃ b, b = u2.heap.size := ⟨_, rfl⟩
        have hb : u3.heap[b6]? = some (.cells #[.int .i64 0, .int .i64 1, .int .i64 2, .int .i64 2, .int .i64 2, .int .i64 2, .int .i64 3, .int .i64 4] 3 (0, 0)) := by rw [hu, hbe]; exact heap_alloc_new _ _
        rw [← hbe]
        have hgb6 : g < b6 ∧ wa.heap.size ≤ b6 := by (have h1 := HZU.out; have h2 := HT.out.size; rw [hbe]; omega)
        have HB6 := Lib.hid hb
        have hR := hR.bel hbc
        have t2 : Gr g u2 u3 := Gr.of_bel hbc
        clear hu hbc hb hbe
        have HB5 := Lib.hid (t2.block HB5.out (by omega))
        have HT := Lib.hid (HT.out.trans t2)
        clear t2
        refine hK.out _ _ trivial (fun hHeld => ?_)
        clear hK K
        refine PrintLast.norm_ (a' := ?_) ?_ ?_
        rotate_left
        · (show Act.put _ (some 6) _ = _; simp only [Act.put, List.setIfInBounds_toArray, List.set_cons_zero, List.set_cons_succ, PrintLast.i64_w, PrintLast.i32_w]; rfl)
        refine PrintLast.pure_ (i := 3) (N := (some 9)) (v := ?_) (a' := ?_) #[true, true, true, true, false, true, false, false, false, false, false, true, false] rfl rfl (by kernel_rfl) (fun _ _ _ h => hQp _ _ _ _ _ h) (Or.inl ⟨by rfl, ?_⟩) ?_ ?_
        rotate_left
        · (intro w'; go_simp; with_reducible rfl)
        rotate_left
        · (simp only [Act.put, List.setIfInBounds_toArray, List.set_cons_zero, List.set_cons_succ, PrintLast.i64_w, PrintLast.i32_w]; rfl)
        refine PrintLast.two_ (i := 4) (j := 6) (Ni := some 10) (Nj := some 12) #[true, true, true, true, true, true, false, false, false, false, false, true, false] #[true, true, true, true, false, true, true, false, false, false, false, true, false] rfl rfl rfl rfl (by kernel_rfl) (by decide) (by decide) (fun K hK => ?_) (fun K hK => ?_)
        · skip
          obtain ⟨tv, htv⟩ := eight HB6.out lk8
          refine PrintLast.value_ (w1 := ?_) (v := ?_) (by rfl) rfl ?_ ?_
          rotate_left 2
          · (go_simp; constructor <;> rfl)
          have t3 : Gr g u3 u3 := ⟨grown_refl _ _⟩
          clear htv
          have HB6 := Lib.hid (t3.block HB6.out (by omega))
          have HB5 := Lib.hid (t3.block HB5.out (by omega))
          have HT := Lib.hid (HT.out.trans t3)
          clear t3
          refine hK.out _ _ trivial (fun hHeld => ?_)
          clear hK K
          refine PrintLast.norm_ (a' := ?_) ?_ ?_
          rotate_left
          · (show Act.put _ (some 10) _ = _; simp only [Act.put, List.setIfInBounds_toArray, List.set_cons_zero, List.set_cons_succ, PrintLast.i64_w, PrintLast.i32_w]; rfl)
          refine PrintLast.one_ (i := 6) (N := (some 12)) #[true, true, true, true, true, true, true, false, false, false, false, true, false] rfl rfl (by kernel_rfl) (by decide) (fun K hK => ?_)
          refine PrintLast.goes_ Tryd.func68 (by kernel_rfl) rfl #[.pointer (some ⟨g, 0, none⟩), .int .i64 60] (by rfl) rfl rfl (by (try simp only [List.map_toArray, List.map_cons, List.map_nil]); first | done | rfl) ?_
          refine (s_pick g _ 60 _ (by assumption) (by omega) (by omega) (by omega)).mono ?_
          rintro e u4 ⟨k12, rfl, hk12, hR, hG⟩
          have lk12 : (k12 : Int) < 60 := hk12 (by omega)
          refine ⟨_, rfl, ?_⟩
          have t3 : Gr g u3 u4 := ⟨hG⟩
          clear hG hk12
          have HB6 := Lib.hid (t3.block HB6.out (by omega))
          have HB5 := Lib.hid (t3.block HB5.out (by omega))
          have HT := Lib.hid (HT.out.trans t3)
          clear t3
          refine hK.out _ _ trivial (fun hHeld => ?_)
          clear hK K
          refine PrintLast.norm_ (a' := ?_) ?_ ?_
          rotate_left
          · (show Act.put _ (some 12) _ = _; simp only [Act.put, List.setIfInBounds_toArray, List.set_cons_zero, List.set_cons_succ, PrintLast.i64_w, PrintLast.i32_w]; rfl)
          refine PrintLast.pure_ (i := 7) (N := (some 13)) (v := ?_) (a' := ?_) #[true, true, true, true, true, true, true, true, false, false, false, true, false] rfl rfl (by kernel_rfl) (fun _ _ _ h => hQp _ _ _ _ _ h) (Or.inl ⟨by rfl, ?_⟩) ?_ ?_
          rotate_left
          · (intro w'; go_simp; with_reducible rfl)
          rotate_left
          · (simp only [Act.put, List.setIfInBounds_toArray, List.set_cons_zero, List.set_cons_succ, PrintLast.i64_w, PrintLast.i32_w]; rfl)
          refine PrintLast.pure_ (i := 8) (N := (some 14)) (v := ?_) (a' := ?_) #[true, true, true, true, true, true, true, true, true, false, false, true, false] rfl rfl (by kernel_rfl) (fun _ _ _ h => hQp _ _ _ _ _ h) (Or.inl ⟨by rfl, ?_⟩) ?_ ?_
          rotate_left
          · (intro w'; go_simp; with_reducible rfl)
          rotate_left
          · (simp only [Act.put, List.setIfInBounds_toArray, List.set_cons_zero, List.set_cons_succ, PrintLast.i64_w, PrintLast.i32_w]; rfl)
          refine PrintLast.pure_ (i := 9) (N := (some 15)) (v := ?_) (a' := ?_) #[true, true, true, true, true, true, true, true, true, true, false, true, false] rfl rfl (by kernel_rfl) (fun _ _ _ h => hQp _ _ _ _ _ h) (Or.inl ⟨by rfl, ?_⟩) ?_ ?_
          rotate_left
          · (intro w'; go_simp; with_reducible rfl)
          rotate_left
          · (simp only [Act.put, List.setIfInBounds_toArray, List.set_cons_zero, List.set_cons_succ, PrintLast.i64_w, PrintLast.i32_w]; rfl)
          refine PrintLast.pure_ (i := 10) (N := (some 16)) (v := ?_) (a' := ?_) #[true, true, true, true, true, true, true, true, true, true, true, true, false] rfl rfl (by kernel_rfl) (fun _ _ _ h => hQp _ _ _ _ _ h) (Or.inl ⟨by rfl, ?_⟩) ?_ ?_
          rotate_left
          · (intro w'; go_simp; with_reducible rfl)
          rotate_left
          · (simp only [Act.put, List.setIfInBounds_toArray, List.set_cons_zero, List.set_cons_succ, PrintLast.i64_w, PrintLast.i32_w]; rfl)
          have a0 := block_cell HB5.out 0 rfl
          have a1 := block_cell HB5.out 1 rfl
          have a2 := block_cell HB5.out 2 rfl
          have p0 := block_frozen HB5.out 0
          have p1 := block_frozen HB5.out 1
          have p2 := block_frozen HB5.out 2
          refine PrintLast.last_ (i := 12) (N := none) #[true, true, true, true, true, true, true, true, true, true, true, true, true] rfl rfl (by kernel_rfl) (by decide) (fun K hK => ?_)
          refine PrintLast.skip_ (w1 := ?_) (by rfl) rfl ?_ ?_
          rotate_left
          · (go_simp; rfl)
          refine hK.out _ _ ?_
          clear hK K
          refine PrintLast.done_ (by kernel_rfl) ?_
          refine HQ.out b5 _ _ _ _ _ _ _ _ _ _ _ _ _ hgb5.2 (block_set (block_set (block_set HB5.out 0 _) 1 _) 2 _) (hR.kept (fun i hi => ?_)) ((((hwu.trans HT.out).set (p := ⟨b5, 0, none⟩) hgb5.2 _).set (p := ⟨b5, 1, none⟩) hgb5.2 _).set (p := ⟨b5, 2, none⟩) hgb5.2 _)
          rw [Below.heap_setCell _ _ _ _ (by simp; omega), Below.heap_setCell _ _ _ _ (by simp; omega), Below.heap_setCell _ _ _ _ (by simp; omega)]
        · skip
          refine PrintLast.goes_ Tryd.func68 (by kernel_rfl) rfl #[.pointer (some ⟨g, 0, none⟩), .int .i64 60] (by rfl) rfl rfl (by (try simp only [List.map_toArray, List.map_cons, List.map_nil]); first | done | rfl) ?_
          refine (s_pick g _ 60 _ (by assumption) (by omega) (by omega) (by omega)).mono ?_
          rintro e u4 ⟨k12, rfl, hk12, hR, hG⟩
          have lk12 : (k12 : Int) < 60 := hk12 (by omega)
          refine ⟨_, rfl, ?_⟩
          have t3 : Gr g u3 u4 := ⟨hG⟩
          clear hG hk12
          have HB6 := Lib.hid (t3.block HB6.out (by omega))
          have HB5 := Lib.hid (t3.block HB5.out (by omega))
          have HT := Lib.hid (HT.out.trans t3)
          clear t3
          refine hK.out _ _ trivial (fun hHeld => ?_)
          clear hK K
          refine PrintLast.norm_ (a' := ?_) ?_ ?_
          rotate_left
          · (show Act.put _ (some 12) _ = _; simp only [Act.put, List.setIfInBounds_toArray, List.set_cons_zero, List.set_cons_succ, PrintLast.i64_w, PrintLast.i32_w]; rfl)
          refine PrintLast.pure_ (i := 7) (N := (some 13)) (v := ?_) (a' := ?_) #[true, true, true, true, false, true, true, true, false, false, false, true, false] rfl rfl (by kernel_rfl) (fun _ _ _ h => hQp _ _ _ _ _ h) (Or.inl ⟨by rfl, ?_⟩) ?_ ?_
          rotate_left
          · (intro w'; go_simp; with_reducible rfl)
          rotate_left
          · (simp only [Act.put, List.setIfInBounds_toArray, List.set_cons_zero, List.set_cons_succ, PrintLast.i64_w, PrintLast.i32_w]; rfl)
          refine PrintLast.pure_ (i := 8) (N := (some 14)) (v := ?_) (a' := ?_) #[true, true, true, true, false, true, true, true, true, false, false, true, false] rfl rfl (by kernel_rfl) (fun _ _ _ h => hQp _ _ _ _ _ h) (Or.inl ⟨by rfl, ?_⟩) ?_ ?_
          rotate_left
          · (intro w'; go_simp; with_reducible rfl)
          rotate_left
          · (simp only [Act.put, List.setIfInBounds_toArray, List.set_cons_zero, List.set_cons_succ, PrintLast.i64_w, PrintLast.i32_w]; rfl)
          refine PrintLast.one_ (i := 4) (N := (some 10)) #[true, true, true, true, true, true, true, true, true, false, false, true, false] rfl rfl (by kernel_rfl) (by decide) (fun K hK => ?_)
          obtain ⟨tv, htv⟩ := eight HB6.out lk8
          refine PrintLast.value_ (w1 := ?_) (v := ?_) (by rfl) rfl ?_ ?_
          rotate_left 2
          · (go_simp; constructor <;> rfl)
          have t4 : Gr g u4 u4 := ⟨grown_refl _ _⟩
          clear htv
          have HB6 := Lib.hid (t4.block HB6.out (by omega))
          have HB5 := Lib.hid (t4.block HB5.out (by omega))
          have HT := Lib.hid (HT.out.trans t4)
          clear t4
          refine hK.out _ _ trivial (fun hHeld => ?_)
          clear hK K
          refine PrintLast.norm_ (a' := ?_) ?_ ?_
          rotate_left
          · (show Act.put _ (some 10) _ = _; simp only [Act.put, List.setIfInBounds_toArray, List.set_cons_zero, List.set_cons_succ, PrintLast.i64_w, PrintLast.i32_w]; rfl)
          refine PrintLast.pure_ (i := 9) (N := (some 15)) (v := ?_) (a' := ?_) #[true, true, true, true, true, true, true, true, true, true, false, true, false] rfl rfl (by kernel_rfl) (fun _ _ _ h => hQp _ _ _ _ _ h) (Or.inl ⟨by rfl, ?_⟩) ?_ ?_
          rotate_left
          · (intro w'; go_simp; with_reducible rfl)
          rotate_left
          · (simp only [Act.put, List.setIfInBounds_toArray, List.set_cons_zero, List.set_cons_succ, PrintLast.i64_w, PrintLast.i32_w]; rfl)
          refine PrintLast.pure_ (i := 10) (N := (some 16)) (v := ?_) (a' := ?_) #[true, true, true, true, true, true, true, true, true, true, true, true, false] rfl rfl (by kernel_rfl) (fun _ _ _ h => hQp _ _ _ _ _ h) (Or.inl ⟨by rfl, ?_⟩) ?_ ?_
          rotate_left
          · (intro w'; go_simp; with_reducible rfl)
          rotate_left
          · (simp only [Act.put, List.setIfInBounds_toArray, List.set_cons_zero, List.set_cons_succ, PrintLast.i64_w, PrintLast.i32_w]; rfl)
          have a0 := block_cell HB5.out 0 rfl
          have a1 := block_cell HB5.out 1 rfl
          have a2 := block_cell HB5.out 2 rfl
          have p0 := block_frozen HB5.out 0
          have p1 := block_frozen HB5.out 1
          have p2 := block_frozen HB5.out 2
          refine PrintLast.last_ (i := 12) (N := none) #[true, true, true, true, true, true, true, true, true, true, true, true, true] rfl rfl (by kernel_rfl) (by decide) (fun K hK => ?_)
          refine PrintLast.skip_ (w1 := ?_) (by rfl) rfl ?_ ?_
          rotate_left
          · (go_simp; rfl)
          refine hK.out _ _ ?_
          clear hK K
          refine PrintLast.done_ (by kernel_rfl) ?_
          refine HQ.out b5 _ _ _ _ _ _ _ _ _ _ _ _ _ hgb5.2 (block_set (block_set (block_set HB5.out 0 _) 1 _) 2 _) (hR.kept (fun i hi => ?_)) ((((hwu.trans HT.out).set (p := ⟨b5, 0, none⟩) hgb5.2 _).set (p := ⟨b5, 1, none⟩) hgb5.2 _).set (p := ⟨b5, 2, none⟩) hgb5.2 _)
          rw [Below.heap_setCell _ _ _ _ (by simp; omega), Below.heap_setCell _ _ _ _ (by simp; omega), Below.heap_setCell _ _ _ _ (by simp; omega)]
      · skip
        refine PrintLast.goes_ Tryd.func68 (by kernel_rfl) rfl #[.pointer (some ⟨g, 0, none⟩), .int .i64 60] (by rfl) rfl rfl (by (try simp only [List.map_toArray, List.map_cons, List.map_nil]); first | done | rfl) ?_
        refine (s_pick g _ 60 _ (by assumption) (by omega) (by omega) (by omega)).mono ?_
        rintro e u3 ⟨k12, rfl, hk12, hR, hG⟩
        have lk12 : (k12 : Int) < 60 := hk12 (by omega)
        refine ⟨_, rfl, ?_⟩
        have t2 : Gr g u2 u3 := ⟨hG⟩
        clear hG hk12
        have HB5 := Lib.hid (t2.block HB5.out (by omega))
        have HT := Lib.hid (HT.out.trans t2)
        clear t2
        refine hK.out _ _ trivial (fun hHeld => ?_)
        clear hK K
        refine PrintLast.norm_ (a' := ?_) ?_ ?_
        rotate_left
        · (show Act.put _ (some 12) _ = _; simp only [Act.put, List.setIfInBounds_toArray, List.set_cons_zero, List.set_cons_succ, PrintLast.i64_w, PrintLast.i32_w]; rfl)
        refine PrintLast.pure_ (i := 7) (N := (some 13)) (v := ?_) (a' := ?_) #[false, true, true, false, false, true, true, true, false, false, false, true, false] rfl rfl (by kernel_rfl) (fun _ _ _ h => hQp _ _ _ _ _ h) (Or.inl ⟨by rfl, ?_⟩) ?_ ?_
        rotate_left
        · (intro w'; go_simp; with_reducible rfl)
        rotate_left
        · (simp only [Act.put, List.setIfInBounds_toArray, List.set_cons_zero, List.set_cons_succ, PrintLast.i64_w, PrintLast.i32_w]; rfl)
        refine PrintLast.pure_ (i := 8) (N := (some 14)) (v := ?_) (a' := ?_) #[false, true, true, false, false, true, true, true, true, false, false, true, false] rfl rfl (by kernel_rfl) (fun _ _ _ h => hQp _ _ _ _ _ h) (Or.inl ⟨by rfl, ?_⟩) ?_ ?_
        rotate_left
        · (intro w'; go_simp; with_reducible rfl)
        rotate_left
        · (simp only [Act.put, List.setIfInBounds_toArray, List.set_cons_zero, List.set_cons_succ, PrintLast.i64_w, PrintLast.i32_w]; rfl)
        refine PrintLast.one_ (i := 0) (N := (some 6)) #[true, true, true, false, false, true, true, true, true, false, false, true, false] rfl rfl (by kernel_rfl) (by decide) (fun K hK => ?_)
        refine PrintLast.value_ (w1 := ?_) (v := ?_) (by rfl) rfl ?_ ?_
        rotate_left 2
        · (go_simp; constructor <;> rfl)
        obtain ⟨u4, hu⟩ : ∃ u4, u4 = u3.alloc (.cells #[.int .i64 0, .int .i64 1, .int .i64 2, .int .i64 2, .int .i64 2, .int .i64 2, .int .i64 3, .int .i64 4] 3) := ⟨_, rfl⟩
        rw [← hu]
        have hbc : Below u3.heap.size u3 u4 := by rw [hu]; exact (Bel.alloc (w := u3) (W := u3)).out
        obtain ⟨b6, hbe⟩ : ∃ b, b = u3.heap.size := ⟨_, rfl⟩
        have hb : u4.heap[b6]? = some (.cells #[.int .i64 0, .int .i64 1, .int .i64 2, .int .i64 2, .int .i64 2, .int .i64 2, .int .i64 3, .int .i64 4] 3 (0, 0)) := by rw [hu, hbe]; exact heap_alloc_new _ _
        rw [← hbe]
        have hgb6 : g < b6 ∧ wa.heap.size ≤ b6 := by (have h1 := HZU.out; have h2 := HT.out.size; rw [hbe]; omega)
        have HB6 := Lib.hid hb
        have hR := hR.bel hbc
        have t3 : Gr g u3 u4 := Gr.of_bel hbc
        clear hu hbc hb hbe
        have HB5 := Lib.hid (t3.block HB5.out (by omega))
        have HT := Lib.hid (HT.out.trans t3)
        clear t3
        refine hK.out _ _ trivial (fun hHeld => ?_)
        clear hK K
        refine PrintLast.norm_ (a' := ?_) ?_ ?_
        rotate_left
        · (show Act.put _ (some 6) _ = _; simp only [Act.put, List.setIfInBounds_toArray, List.set_cons_zero, List.set_cons_succ, PrintLast.i64_w, PrintLast.i32_w]; rfl)
        refine PrintLast.pure_ (i := 3) (N := (some 9)) (v := ?_) (a' := ?_) #[true, true, true, true, false, true, true, true, true, false, false, true, false] rfl rfl (by kernel_rfl) (fun _ _ _ h => hQp _ _ _ _ _ h) (Or.inl ⟨by rfl, ?_⟩) ?_ ?_
        rotate_left
        · (intro w'; go_simp; with_reducible rfl)
        rotate_left
        · (simp only [Act.put, List.setIfInBounds_toArray, List.set_cons_zero, List.set_cons_succ, PrintLast.i64_w, PrintLast.i32_w]; rfl)
        refine PrintLast.one_ (i := 4) (N := (some 10)) #[true, true, true, true, true, true, true, true, true, false, false, true, false] rfl rfl (by kernel_rfl) (by decide) (fun K hK => ?_)
        obtain ⟨tv, htv⟩ := eight HB6.out lk8
        refine PrintLast.value_ (w1 := ?_) (v := ?_) (by rfl) rfl ?_ ?_
        rotate_left 2
        · (go_simp; constructor <;> rfl)
        have t4 : Gr g u4 u4 := ⟨grown_refl _ _⟩
        clear htv
        have HB6 := Lib.hid (t4.block HB6.out (by omega))
        have HB5 := Lib.hid (t4.block HB5.out (by omega))
        have HT := Lib.hid (HT.out.trans t4)
        clear t4
        refine hK.out _ _ trivial (fun hHeld => ?_)
        clear hK K
        refine PrintLast.norm_ (a' := ?_) ?_ ?_
        rotate_left
        · (show Act.put _ (some 10) _ = _; simp only [Act.put, List.setIfInBounds_toArray, List.set_cons_zero, List.set_cons_succ, PrintLast.i64_w, PrintLast.i32_w]; rfl)
        refine PrintLast.pure_ (i := 9) (N := (some 15)) (v := ?_) (a' := ?_) #[true, true, true, true, true, true, true, true, true, true, false, true, false] rfl rfl (by kernel_rfl) (fun _ _ _ h => hQp _ _ _ _ _ h) (Or.inl ⟨by rfl, ?_⟩) ?_ ?_
        rotate_left
        · (intro w'; go_simp; with_reducible rfl)
        rotate_left
        · (simp only [Act.put, List.setIfInBounds_toArray, List.set_cons_zero, List.set_cons_succ, PrintLast.i64_w, PrintLast.i32_w]; rfl)
        refine PrintLast.pure_ (i := 10) (N := (some 16)) (v := ?_) (a' := ?_) #[true, true, true, true, true, true, true, true, true, true, true, true, false] rfl rfl (by kernel_rfl) (fun _ _ _ h => hQp _ _ _ _ _ h) (Or.inl ⟨by rfl, ?_⟩) ?_ ?_
        rotate_left
        · (intro w'; go_simp; with_reducible rfl)
        rotate_left
        · (simp only [Act.put, List.setIfInBounds_toArray, List.set_cons_zero, List.set_cons_succ, PrintLast.i64_w, PrintLast.i32_w]; rfl)
        have a0 := block_cell HB5.out 0 rfl
        have a1 := block_cell HB5.out 1 rfl
        have a2 := block_cell HB5.out 2 rfl
        have p0 := block_frozen HB5.out 0
        have p1 := block_frozen HB5.out 1
        have p2 := block_frozen HB5.out 2
        refine PrintLast.last_ (i := 12) (N := none) #[true, true, true, true, true, true, true, true, true, true, true, true, true] rfl rfl (by kernel_rfl) (by decide) (fun K hK => ?_)
        refine PrintLast.skip_ (w1 := ?_) (by rfl) rfl ?_ ?_
        rotate_left
        · (go_simp; rfl)
        refine hK.out _ _ ?_
        clear hK K
        refine PrintLast.done_ (by kernel_rfl) ?_
        refine HQ.out b5 _ _ _ _ _ _ _ _ _ _ _ _ _ hgb5.2 (block_set (block_set (block_set HB5.out 0 _) 1 _) 2 _) (hR.kept (fun i hi => ?_)) ((((hwu.trans HT.out).set (p := ⟨b5, 0, none⟩) hgb5.2 _).set (p := ⟨b5, 1, none⟩) hgb5.2 _).set (p := ⟨b5, 2, none⟩) hgb5.2 _)
        rw [Below.heap_setCell _ _ _ _ (by simp; omega), Below.heap_setCell _ _ _ _ (by simp; omega), Below.heap_setCell _ _ _ _ (by simp; omega)]
  · skip
    refine PrintLast.value_ (w1 := ?_) (v := ?_) (by rfl) rfl ?_ ?_
    rotate_left 2
    · (go_simp; constructor <;> rfl)
    obtain ⟨u1, hu⟩ : ∃ u1, u1 = u0.alloc (.cells #[.int .i64 0, .int .i64 0, .int .i64 0] 30) := ⟨_, rfl⟩
    rw [← hu]
    have hbc : Below u0.heap.size u0 u1 := by rw [hu]; exact (Bel.alloc (w := u0) (W := u0)).out
    obtain ⟨b5, hbe⟩ : ∃ b, b = u0.heap.size := ⟨_, rfl⟩
    have hb : u1.heap[b5]? = some (.cells #[.int .i64 0, .int .i64 0, .int .i64 0] 30 (0, 0)) := by rw [hu, hbe]; exact heap_alloc_new _ _
    rw [← hbe]
    have hgb5 : g < b5 ∧ wa.heap.size ≤ b5 := by (have h1 := HZU.out; have h2 := HT.out.size; rw [hbe]; omega)
    have HB5 := Lib.hid hb
    have hR := hR.bel hbc
    have t0 : Gr g u0 u1 := Gr.of_bel hbc
    clear hu hbc hb hbe
    have HT := Lib.hid (HT.out.trans t0)
    clear t0
    refine hK.out _ _ trivial (fun hHeld => ?_)
    clear hK K
    refine PrintLast.norm_ (a' := ?_) ?_ ?_
    rotate_left
    · (show Act.put _ (some 5) _ = _; simp only [Act.put, List.setIfInBounds_toArray, List.set_cons_zero, List.set_cons_succ, PrintLast.i64_w, PrintLast.i32_w]; rfl)
    refine PrintLast.two_ (i := 0) (j := 2) (Ni := some 6) (Nj := some 8) #[true, true, false, false, false, true, false, false, false, false, false, true, false] #[false, true, true, false, false, true, false, false, false, false, false, true, false] rfl rfl rfl rfl (by kernel_rfl) (by decide) (by decide) (fun K hK => ?_) (fun K hK => ?_)
    · skip
      refine PrintLast.value_ (w1 := ?_) (v := ?_) (by rfl) rfl ?_ ?_
      rotate_left 2
      · (go_simp; constructor <;> rfl)
      obtain ⟨u2, hu⟩ : ∃ u2, u2 = u1.alloc (.cells #[.int .i64 0, .int .i64 1, .int .i64 2, .int .i64 2, .int .i64 2, .int .i64 2, .int .i64 3, .int .i64 4] 3) := ⟨_, rfl⟩
      rw [← hu]
      have hbc : Below u1.heap.size u1 u2 := by rw [hu]; exact (Bel.alloc (w := u1) (W := u1)).out
      obtain ⟨b6, hbe⟩ : ∃ b, b = u1.heap.size := ⟨_, rfl⟩
      have hb : u2.heap[b6]? = some (.cells #[.int .i64 0, .int .i64 1, .int .i64 2, .int .i64 2, .int .i64 2, .int .i64 2, .int .i64 3, .int .i64 4] 3 (0, 0)) := by rw [hu, hbe]; exact heap_alloc_new _ _
      rw [← hbe]
      have hgb6 : g < b6 ∧ wa.heap.size ≤ b6 := by (have h1 := HZU.out; have h2 := HT.out.size; rw [hbe]; omega)
      have HB6 := Lib.hid hb
      have hR := hR.bel hbc
      have t1 : Gr g u1 u2 := Gr.of_bel hbc
      clear hu hbc hb hbe
      have HB5 := Lib.hid (t1.block HB5.out (by omega))
      have HT := Lib.hid (HT.out.trans t1)
      clear t1
      refine hK.out _ _ trivial (fun hHeld => ?_)
      clear hK K
      refine PrintLast.norm_ (a' := ?_) ?_ ?_
      rotate_left
      · (show Act.put _ (some 6) _ = _; simp only [Act.put, List.setIfInBounds_toArray, List.set_cons_zero, List.set_cons_succ, PrintLast.i64_w, PrintLast.i32_w]; rfl)
      refine PrintLast.one_ (i := 2) (N := (some 8)) #[true, true, true, false, false, true, false, false, false, false, false, true, false] rfl rfl (by kernel_rfl) (by decide) (fun K hK => ?_)
      refine PrintLast.goes_ Tryd.func68 (by kernel_rfl) rfl #[.pointer (some ⟨g, 0, none⟩), .int .i64 8] (by rfl) rfl rfl (by (try simp only [List.map_toArray, List.map_cons, List.map_nil]); first | done | rfl) ?_
      refine (s_pick g _ 8 _ (by assumption) (by omega) (by omega) (by omega)).mono ?_
      rintro e u3 ⟨k8, rfl, hk8, hR, hG⟩
      have lk8 : (k8 : Int) < 8 := hk8 (by omega)
      refine ⟨_, rfl, ?_⟩
      have t2 : Gr g u2 u3 := ⟨hG⟩
      clear hG hk8
      have HB6 := Lib.hid (t2.block HB6.out (by omega))
      have HB5 := Lib.hid (t2.block HB5.out (by omega))
      have HT := Lib.hid (HT.out.trans t2)
      clear t2
      refine hK.out _ _ trivial (fun hHeld => ?_)
      clear hK K
      refine PrintLast.norm_ (a' := ?_) ?_ ?_
      rotate_left
      · (show Act.put _ (some 8) _ = _; simp only [Act.put, List.setIfInBounds_toArray, List.set_cons_zero, List.set_cons_succ, PrintLast.i64_w, PrintLast.i32_w]; rfl)
      refine PrintLast.pure_ (i := 3) (N := (some 9)) (v := ?_) (a' := ?_) #[true, true, true, true, false, true, false, false, false, false, false, true, false] rfl rfl (by kernel_rfl) (fun _ _ _ h => hQp _ _ _ _ _ h) (Or.inl ⟨by rfl, ?_⟩) ?_ ?_
      rotate_left
      · (intro w'; go_simp; with_reducible rfl)
      rotate_left
      · (simp only [Act.put, List.setIfInBounds_toArray, List.set_cons_zero, List.set_cons_succ, PrintLast.i64_w, PrintLast.i32_w]; rfl)
      refine PrintLast.two_ (i := 4) (j := 6) (Ni := some 10) (Nj := some 12) #[true, true, true, true, true, true, false, false, false, false, false, true, false] #[true, true, true, true, false, true, true, false, false, false, false, true, false] rfl rfl rfl rfl (by kernel_rfl) (by decide) (by decide) (fun K hK => ?_) (fun K hK => ?_)
      · skip
        obtain ⟨tv, htv⟩ := eight HB6.out lk8
        refine PrintLast.value_ (w1 := ?_) (v := ?_) (by rfl) rfl ?_ ?_
        rotate_left 2
        · (go_simp; constructor <;> rfl)
        have t3 : Gr g u3 u3 := ⟨grown_refl _ _⟩
        clear htv
        have HB6 := Lib.hid (t3.block HB6.out (by omega))
        have HB5 := Lib.hid (t3.block HB5.out (by omega))
        have HT := Lib.hid (HT.out.trans t3)
        clear t3
        refine hK.out _ _ trivial (fun hHeld => ?_)
        clear hK K
        refine PrintLast.norm_ (a' := ?_) ?_ ?_
        rotate_left
        · (show Act.put _ (some 10) _ = _; simp only [Act.put, List.setIfInBounds_toArray, List.set_cons_zero, List.set_cons_succ, PrintLast.i64_w, PrintLast.i32_w]; rfl)
        refine PrintLast.one_ (i := 6) (N := (some 12)) #[true, true, true, true, true, true, true, false, false, false, false, true, false] rfl rfl (by kernel_rfl) (by decide) (fun K hK => ?_)
        refine PrintLast.goes_ Tryd.func68 (by kernel_rfl) rfl #[.pointer (some ⟨g, 0, none⟩), .int .i64 60] (by rfl) rfl rfl (by (try simp only [List.map_toArray, List.map_cons, List.map_nil]); first | done | rfl) ?_
        refine (s_pick g _ 60 _ (by assumption) (by omega) (by omega) (by omega)).mono ?_
        rintro e u4 ⟨k12, rfl, hk12, hR, hG⟩
        have lk12 : (k12 : Int) < 60 := hk12 (by omega)
        refine ⟨_, rfl, ?_⟩
        have t3 : Gr g u3 u4 := ⟨hG⟩
        clear hG hk12
        have HB6 := Lib.hid (t3.block HB6.out (by omega))
        have HB5 := Lib.hid (t3.block HB5.out (by omega))
        have HT := Lib.hid (HT.out.trans t3)
        clear t3
        refine hK.out _ _ trivial (fun hHeld => ?_)
        clear hK K
        refine PrintLast.norm_ (a' := ?_) ?_ ?_
        rotate_left
        · (show Act.put _ (some 12) _ = _; simp only [Act.put, List.setIfInBounds_toArray, List.set_cons_zero, List.set_cons_succ, PrintLast.i64_w, PrintLast.i32_w]; rfl)
        refine PrintLast.pure_ (i := 7) (N := (some 13)) (v := ?_) (a' := ?_) #[true, true, true, true, true, true, true, true, false, false, false, true, false] rfl rfl (by kernel_rfl) (fun _ _ _ h => hQp _ _ _ _ _ h) (Or.inl ⟨by rfl, ?_⟩) ?_ ?_
        rotate_left
        · (intro w'; go_simp; with_reducible rfl)
        rotate_left
        · (simp only [Act.put, List.setIfInBounds_toArray, List.set_cons_zero, List.set_cons_succ, PrintLast.i64_w, PrintLast.i32_w]; rfl)
        refine PrintLast.pure_ (i := 8) (N := (some 14)) (v := ?_) (a' := ?_) #[true, true, true, true, true, true, true, true, true, false, false, true, false] rfl rfl (by kernel_rfl) (fun _ _ _ h => hQp _ _ _ _ _ h) (Or.inl ⟨by rfl, ?_⟩) ?_ ?_
        rotate_left
        · (intro w'; go_simp; with_reducible rfl)
        rotate_left
        · (simp only [Act.put, List.setIfInBounds_toArray, List.set_cons_zero, List.set_cons_succ, PrintLast.i64_w, PrintLast.i32_w]; rfl)
        refine PrintLast.pure_ (i := 9) (N := (some 15)) (v := ?_) (a' := ?_) #[true, true, true, true, true, true, true, true, true, true, false, true, false] rfl rfl (by kernel_rfl) (fun _ _ _ h => hQp _ _ _ _ _ h) (Or.inl ⟨by rfl, ?_⟩) ?_ ?_
        rotate_left
        · (intro w'; go_simp; with_reducible rfl)
        rotate_left
        · (simp only [Act.put, List.setIfInBounds_toArray, List.set_cons_zero, List.set_cons_succ, PrintLast.i64_w, PrintLast.i32_w]; rfl)
        refine PrintLast.pure_ (i := 10) (N := (some 16)) (v := ?_) (a' := ?_) #[true, true, true, true, true, true, true, true, true, true, true, true, false] rfl rfl (by kernel_rfl) (fun _ _ _ h => hQp _ _ _ _ _ h) (Or.inl ⟨by rfl, ?_⟩) ?_ ?_
        rotate_left
        · (intro w'; go_simp; with_reducible rfl)
        rotate_left
        · (simp only [Act.put, List.setIfInBounds_toArray, List.set_cons_zero, List.set_cons_succ, PrintLast.i64_w, PrintLast.i32_w]; rfl)
        have a0 := block_cell HB5.out 0 rfl
        have a1 := block_cell HB5.out 1 rfl
        have a2 := block_cell HB5.out 2 rfl
        have p0 := block_frozen HB5.out 0
        have p1 := block_frozen HB5.out 1
        have p2 := block_frozen HB5.out 2
        refine PrintLast.last_ (i := 12) (N := none) #[true, true, true, true, true, true, true, true, true, true, true, true, true] rfl rfl (by kernel_rfl) (by decide) (fun K hK => ?_)
        refine PrintLast.skip_ (w1 := ?_) (by rfl) rfl ?_ ?_
        rotate_left
        · (go_simp; rfl)
        refine hK.out _ _ ?_
        clear hK K
        refine PrintLast.done_ (by kernel_rfl) ?_
        refine HQ.out b5 _ _ _ _ _ _ _ _ _ _ _ _ _ hgb5.2 (block_set (block_set (block_set HB5.out 0 _) 1 _) 2 _) (hR.kept (fun i hi => ?_)) ((((hwu.trans HT.out).set (p := ⟨b5, 0, none⟩) hgb5.2 _).set (p := ⟨b5, 1, none⟩) hgb5.2 _).set (p := ⟨b5, 2, none⟩) hgb5.2 _)
        rw [Below.heap_setCell _ _ _ _ (by simp; omega), Below.heap_setCell _ _ _ _ (by simp; omega), Below.heap_setCell _ _ _ _ (by simp; omega)]
      · skip
        refine PrintLast.goes_ Tryd.func68 (by kernel_rfl) rfl #[.pointer (some ⟨g, 0, none⟩), .int .i64 60] (by rfl) rfl rfl (by (try simp only [List.map_toArray, List.map_cons, List.map_nil]); first | done | rfl) ?_
        refine (s_pick g _ 60 _ (by assumption) (by omega) (by omega) (by omega)).mono ?_
        rintro e u4 ⟨k12, rfl, hk12, hR, hG⟩
        have lk12 : (k12 : Int) < 60 := hk12 (by omega)
        refine ⟨_, rfl, ?_⟩
        have t3 : Gr g u3 u4 := ⟨hG⟩
        clear hG hk12
        have HB6 := Lib.hid (t3.block HB6.out (by omega))
        have HB5 := Lib.hid (t3.block HB5.out (by omega))
        have HT := Lib.hid (HT.out.trans t3)
        clear t3
        refine hK.out _ _ trivial (fun hHeld => ?_)
        clear hK K
        refine PrintLast.norm_ (a' := ?_) ?_ ?_
        rotate_left
        · (show Act.put _ (some 12) _ = _; simp only [Act.put, List.setIfInBounds_toArray, List.set_cons_zero, List.set_cons_succ, PrintLast.i64_w, PrintLast.i32_w]; rfl)
        refine PrintLast.pure_ (i := 7) (N := (some 13)) (v := ?_) (a' := ?_) #[true, true, true, true, false, true, true, true, false, false, false, true, false] rfl rfl (by kernel_rfl) (fun _ _ _ h => hQp _ _ _ _ _ h) (Or.inl ⟨by rfl, ?_⟩) ?_ ?_
        rotate_left
        · (intro w'; go_simp; with_reducible rfl)
        rotate_left
        · (simp only [Act.put, List.setIfInBounds_toArray, List.set_cons_zero, List.set_cons_succ, PrintLast.i64_w, PrintLast.i32_w]; rfl)
        refine PrintLast.pure_ (i := 8) (N := (some 14)) (v := ?_) (a' := ?_) #[true, true, true, true, false, true, true, true, true, false, false, true, false] rfl rfl (by kernel_rfl) (fun _ _ _ h => hQp _ _ _ _ _ h) (Or.inl ⟨by rfl, ?_⟩) ?_ ?_
        rotate_left
        · (intro w'; go_simp; with_reducible rfl)
        rotate_left
        · (simp only [Act.put, List.setIfInBounds_toArray, List.set_cons_zero, List.set_cons_succ, PrintLast.i64_w, PrintLast.i32_w]; rfl)
        refine PrintLast.one_ (i := 4) (N := (some 10)) #[true, true, true, true, true, true, true, true, true, false, false, true, false] rfl rfl (by kernel_rfl) (by decide) (fun K hK => ?_)
        obtain ⟨tv, htv⟩ := eight HB6.out lk8
        refine PrintLast.value_ (w1 := ?_) (v := ?_) (by rfl) rfl ?_ ?_
        rotate_left 2
        · (go_simp; constructor <;> rfl)
        have t4 : Gr g u4 u4 := ⟨grown_refl _ _⟩
        clear htv
        have HB6 := Lib.hid (t4.block HB6.out (by omega))
        have HB5 := Lib.hid (t4.block HB5.out (by omega))
        have HT := Lib.hid (HT.out.trans t4)
        clear t4
        refine hK.out _ _ trivial (fun hHeld => ?_)
        clear hK K
        refine PrintLast.norm_ (a' := ?_) ?_ ?_
        rotate_left
        · (show Act.put _ (some 10) _ = _; simp only [Act.put, List.setIfInBounds_toArray, List.set_cons_zero, List.set_cons_succ, PrintLast.i64_w, PrintLast.i32_w]; rfl)
        refine PrintLast.pure_ (i := 9) (N := (some 15)) (v := ?_) (a' := ?_) #[true, true, true, true, true, true, true, true, true, true, false, true, false] rfl rfl (by kernel_rfl) (fun _ _ _ h => hQp _ _ _ _ _ h) (Or.inl ⟨by rfl, ?_⟩) ?_ ?_
        rotate_left
        · (intro w'; go_simp; with_reducible rfl)
        rotate_left
        · (simp only [Act.put, List.setIfInBounds_toArray, List.set_cons_zero, List.set_cons_succ, PrintLast.i64_w, PrintLast.i32_w]; rfl)
        refine PrintLast.pure_ (i := 10) (N := (some 16)) (v := ?_) (a' := ?_) #[true, true, true, true, true, true, true, true, true, true, true, true, false] rfl rfl (by kernel_rfl) (fun _ _ _ h => hQp _ _ _ _ _ h) (Or.inl ⟨by rfl, ?_⟩) ?_ ?_
        rotate_left
        · (intro w'; go_simp; with_reducible rfl)
        rotate_left
        · (simp only [Act.put, List.setIfInBounds_toArray, List.set_cons_zero, List.set_cons_succ, PrintLast.i64_w, PrintLast.i32_w]; rfl)
        have a0 := block_cell HB5.out 0 rfl
        have a1 := block_cell HB5.out 1 rfl
        have a2 := block_cell HB5.out 2 rfl
        have p0 := block_frozen HB5.out 0
        have p1 := block_frozen HB5.out 1
        have p2 := block_frozen HB5.out 2
        refine PrintLast.last_ (i := 12) (N := none) #[true, true, true, true, true, true, true, true, true, true, true, true, true] rfl rfl (by kernel_rfl) (by decide) (fun K hK => ?_)
        refine PrintLast.skip_ (w1 := ?_) (by rfl) rfl ?_ ?_
        rotate_left
        · (go_simp; rfl)
        refine hK.out _ _ ?_
        clear hK K
        refine PrintLast.done_ (by kernel_rfl) ?_
        refine HQ.out b5 _ _ _ _ _ _ _ _ _ _ _ _ _ hgb5.2 (block_set (block_set (block_set HB5.out 0 _) 1 _) 2 _) (hR.kept (fun i hi => ?_)) ((((hwu.trans HT.out).set (p := ⟨b5, 0, none⟩) hgb5.2 _).set (p := ⟨b5, 1, none⟩) hgb5.2 _).set (p := ⟨b5, 2, none⟩) hgb5.2 _)
        rw [Below.heap_setCell _ _ _ _ (by simp; omega), Below.heap_setCell _ _ _ _ (by simp; omega), Below.heap_setCell _ _ _ _ (by simp; omega)]
    · skip
      refine PrintLast.goes_ Tryd.func68 (by kernel_rfl) rfl #[.pointer (some ⟨g, 0, none⟩), .int .i64 8] (by rfl) rfl rfl (by (try simp only [List.map_toArray, List.map_cons, List.map_nil]); first | done | rfl) ?_
      refine (s_pick g _ 8 _ (by assumption) (by omega) (by omega) (by omega)).mono ?_
      rintro e u2 ⟨k8, rfl, hk8, hR, hG⟩
      have lk8 : (k8 : Int) < 8 := hk8 (by omega)
      refine ⟨_, rfl, ?_⟩
      have t1 : Gr g u1 u2 := ⟨hG⟩
      clear hG hk8
      have HB5 := Lib.hid (t1.block HB5.out (by omega))
      have HT := Lib.hid (HT.out.trans t1)
      clear t1
      refine hK.out _ _ trivial (fun hHeld => ?_)
      clear hK K
      refine PrintLast.norm_ (a' := ?_) ?_ ?_
      rotate_left
      · (show Act.put _ (some 8) _ = _; simp only [Act.put, List.setIfInBounds_toArray, List.set_cons_zero, List.set_cons_succ, PrintLast.i64_w, PrintLast.i32_w]; rfl)
      refine PrintLast.two_ (i := 0) (j := 6) (Ni := some 6) (Nj := some 12) #[true, true, true, false, false, true, false, false, false, false, false, true, false] #[false, true, true, false, false, true, true, false, false, false, false, true, false] rfl rfl rfl rfl (by kernel_rfl) (by decide) (by decide) (fun K hK => ?_) (fun K hK => ?_)
      · skip
        refine PrintLast.value_ (w1 := ?_) (v := ?_) (by rfl) rfl ?_ ?_
        rotate_left 2
        · (go_simp; constructor <;> rfl)
        obtain ⟨u3, hu⟩ : ∃ u3, u3 = u2.alloc (.cells #[.int .i64 0, .int .i64 1, .int .i64 2, .int .i64 2, .int .i64 2, .int .i64 2, .int .i64 3, .int .i64 4] 3) := ⟨_, rfl⟩
        rw [← hu]
        have hbc : Below u2.heap.size u2 u3 := by rw [hu]; exact (Bel.alloc (w := u2) (W := u2)).out
        obtain ⟨b6, hbe⟩ : ∃ b, b = u2.heap.size := ⟨_, rfl⟩
        have hb : u3.heap[b6]? = some (.cells #[.int .i64 0, .int .i64 1, .int .i64 2, .int .i64 2, .int .i64 2, .int .i64 2, .int .i64 3, .int .i64 4] 3 (0, 0)) := by rw [hu, hbe]; exact heap_alloc_new _ _
        rw [← hbe]
        have hgb6 : g < b6 ∧ wa.heap.size ≤ b6 := by (have h1 := HZU.out; have h2 := HT.out.size; rw [hbe]; omega)
        have HB6 := Lib.hid hb
        have hR := hR.bel hbc
        have t2 : Gr g u2 u3 := Gr.of_bel hbc
        clear hu hbc hb hbe
        have HB5 := Lib.hid (t2.block HB5.out (by omega))
        have HT := Lib.hid (HT.out.trans t2)
        clear t2
        refine hK.out _ _ trivial (fun hHeld => ?_)
        clear hK K
        refine PrintLast.norm_ (a' := ?_) ?_ ?_
        rotate_left
        · (show Act.put _ (some 6) _ = _; simp only [Act.put, List.setIfInBounds_toArray, List.set_cons_zero, List.set_cons_succ, PrintLast.i64_w, PrintLast.i32_w]; rfl)
        refine PrintLast.pure_ (i := 3) (N := (some 9)) (v := ?_) (a' := ?_) #[true, true, true, true, false, true, false, false, false, false, false, true, false] rfl rfl (by kernel_rfl) (fun _ _ _ h => hQp _ _ _ _ _ h) (Or.inl ⟨by rfl, ?_⟩) ?_ ?_
        rotate_left
        · (intro w'; go_simp; with_reducible rfl)
        rotate_left
        · (simp only [Act.put, List.setIfInBounds_toArray, List.set_cons_zero, List.set_cons_succ, PrintLast.i64_w, PrintLast.i32_w]; rfl)
        refine PrintLast.two_ (i := 4) (j := 6) (Ni := some 10) (Nj := some 12) #[true, true, true, true, true, true, false, false, false, false, false, true, false] #[true, true, true, true, false, true, true, false, false, false, false, true, false] rfl rfl rfl rfl (by kernel_rfl) (by decide) (by decide) (fun K hK => ?_) (fun K hK => ?_)
        · skip
          obtain ⟨tv, htv⟩ := eight HB6.out lk8
          refine PrintLast.value_ (w1 := ?_) (v := ?_) (by rfl) rfl ?_ ?_
          rotate_left 2
          · (go_simp; constructor <;> rfl)
          have t3 : Gr g u3 u3 := ⟨grown_refl _ _⟩
          clear htv
          have HB6 := Lib.hid (t3.block HB6.out (by omega))
          have HB5 := Lib.hid (t3.block HB5.out (by omega))
          have HT := Lib.hid (HT.out.trans t3)
          clear t3
          refine hK.out _ _ trivial (fun hHeld => ?_)
          clear hK K
          refine PrintLast.norm_ (a' := ?_) ?_ ?_
          rotate_left
          · (show Act.put _ (some 10) _ = _; simp only [Act.put, List.setIfInBounds_toArray, List.set_cons_zero, List.set_cons_succ, PrintLast.i64_w, PrintLast.i32_w]; rfl)
          refine PrintLast.one_ (i := 6) (N := (some 12)) #[true, true, true, true, true, true, true, false, false, false, false, true, false] rfl rfl (by kernel_rfl) (by decide) (fun K hK => ?_)
          refine PrintLast.goes_ Tryd.func68 (by kernel_rfl) rfl #[.pointer (some ⟨g, 0, none⟩), .int .i64 60] (by rfl) rfl rfl (by (try simp only [List.map_toArray, List.map_cons, List.map_nil]); first | done | rfl) ?_
          refine (s_pick g _ 60 _ (by assumption) (by omega) (by omega) (by omega)).mono ?_
          rintro e u4 ⟨k12, rfl, hk12, hR, hG⟩
          have lk12 : (k12 : Int) < 60 := hk12 (by omega)
          refine ⟨_, rfl, ?_⟩
          have t3 : Gr g u3 u4 := ⟨hG⟩
          clear hG hk12
          have HB6 := Lib.hid (t3.block HB6.out (by omega))
          have HB5 := Lib.hid (t3.block HB5.out (by omega))
          have HT := Lib.hid (HT.out.trans t3)
          clear t3
          refine hK.out _ _ trivial (fun hHeld => ?_)
          clear hK K
          refine PrintLast.norm_ (a' := ?_) ?_ ?_
          rotate_left
          · (show Act.put _ (some 12) _ = _; simp only [Act.put, List.setIfInBounds_toArray, List.set_cons_zero, List.set_cons_succ, PrintLast.i64_w, PrintLast.i32_w]; rfl)
          refine PrintLast.pure_ (i := 7) (N := (some 13)) (v := ?_) (a' := ?_) #[true, true, true, true, true, true, true, true, false, false, false, true, false] rfl rfl (by kernel_rfl) (fun _ _ _ h => hQp _ _ _ _ _ h) (Or.inl ⟨by rfl, ?_⟩) ?_ ?_
          rotate_left
          · (intro w'; go_simp; with_reducible rfl)
          rotate_left
          · (simp only [Act.put, List.setIfInBounds_toArray, List.set_cons_zero, List.set_cons_succ, PrintLast.i64_w, PrintLast.i32_w]; rfl)
          refine PrintLast.pure_ (i := 8) (N := (some 14)) (v := ?_) (a' := ?_) #[true, true, true, true, true, true, true, true, true, false, false, true, false] rfl rfl (by kernel_rfl) (fun _ _ _ h => hQp _ _ _ _ _ h) (Or.inl ⟨by rfl, ?_⟩) ?_ ?_
          rotate_left
          · (intro w'; go_simp; with_reducible rfl)
          rotate_left
          · (simp only [Act.put, List.setIfInBounds_toArray, List.set_cons_zero, List.set_cons_succ, PrintLast.i64_w, PrintLast.i32_w]; rfl)
          refine PrintLast.pure_ (i := 9) (N := (some 15)) (v := ?_) (a' := ?_) #[true, true, true, true, true, true, true, true, true, true, false, true, false] rfl rfl (by kernel_rfl) (fun _ _ _ h => hQp _ _ _ _ _ h) (Or.inl ⟨by rfl, ?_⟩) ?_ ?_
          rotate_left
          · (intro w'; go_simp; with_reducible rfl)
          rotate_left
          · (simp only [Act.put, List.setIfInBounds_toArray, List.set_cons_zero, List.set_cons_succ, PrintLast.i64_w, PrintLast.i32_w]; rfl)
          refine PrintLast.pure_ (i := 10) (N := (some 16)) (v := ?_) (a' := ?_) #[true, true, true, true, true, true, true, true, true, true, true, true, false] rfl rfl (by kernel_rfl) (fun _ _ _ h => hQp _ _ _ _ _ h) (Or.inl ⟨by rfl, ?_⟩) ?_ ?_
          rotate_left
          · (intro w'; go_simp; with_reducible rfl)
          rotate_left
          · (simp only [Act.put, List.setIfInBounds_toArray, List.set_cons_zero, List.set_cons_succ, PrintLast.i64_w, PrintLast.i32_w]; rfl)
          have a0 := block_cell HB5.out 0 rfl
          have a1 := block_cell HB5.out 1 rfl
          have a2 := block_cell HB5.out 2 rfl
          have p0 := block_frozen HB5.out 0
          have p1 := block_frozen HB5.out 1
          have p2 := block_frozen HB5.out 2
          refine PrintLast.last_ (i := 12) (N := none) #[true, true, true, true, true, true, true, true, true, true, true, true, true] rfl rfl (by kernel_rfl) (by decide) (fun K hK => ?_)
          refine PrintLast.skip_ (w1 := ?_) (by rfl) rfl ?_ ?_
          rotate_left
          · (go_simp; rfl)
          refine hK.out _ _ ?_
          clear hK K
          refine PrintLast.done_ (by kernel_rfl) ?_
          refine HQ.out b5 _ _ _ _ _ _ _ _ _ _ _ _ _ hgb5.2 (block_set (block_set (block_set HB5.out 0 _) 1 _) 2 _) (hR.kept (fun i hi => ?_)) ((((hwu.trans HT.out).set (p := ⟨b5, 0, none⟩) hgb5.2 _).set (p := ⟨b5, 1, none⟩) hgb5.2 _).set (p := ⟨b5, 2, none⟩) hgb5.2 _)
          rw [Below.heap_setCell _ _ _ _ (by simp; omega), Below.heap_setCell _ _ _ _ (by simp; omega), Below.heap_setCell _ _ _ _ (by simp; omega)]
        · skip
          refine PrintLast.goes_ Tryd.func68 (by kernel_rfl) rfl #[.pointer (some ⟨g, 0, none⟩), .int .i64 60] (by rfl) rfl rfl (by (try simp only [List.map_toArray, List.map_cons, List.map_nil]); first | done | rfl) ?_
          refine (s_pick g _ 60 _ (by assumption) (by omega) (by omega) (by omega)).mono ?_
          rintro e u4 ⟨k12, rfl, hk12, hR, hG⟩
          have lk12 : (k12 : Int) < 60 := hk12 (by omega)
          refine ⟨_, rfl, ?_⟩
          have t3 : Gr g u3 u4 := ⟨hG⟩
          clear hG hk12
          have HB6 := Lib.hid (t3.block HB6.out (by omega))
          have HB5 := Lib.hid (t3.block HB5.out (by omega))
          have HT := Lib.hid (HT.out.trans t3)
          clear t3
          refine hK.out _ _ trivial (fun hHeld => ?_)
          clear hK K
          refine PrintLast.norm_ (a' := ?_) ?_ ?_
          rotate_left
          · (show Act.put _ (some 12) _ = _; simp only [Act.put, List.setIfInBounds_toArray, List.set_cons_zero, List.set_cons_succ, PrintLast.i64_w, PrintLast.i32_w]; rfl)
          refine PrintLast.pure_ (i := 7) (N := (some 13)) (v := ?_) (a' := ?_) #[true, true, true, true, false, true, true, true, false, false, false, true, false] rfl rfl (by kernel_rfl) (fun _ _ _ h => hQp _ _ _ _ _ h) (Or.inl ⟨by rfl, ?_⟩) ?_ ?_
          rotate_left
          · (intro w'; go_simp; with_reducible rfl)
          rotate_left
          · (simp only [Act.put, List.setIfInBounds_toArray, List.set_cons_zero, List.set_cons_succ, PrintLast.i64_w, PrintLast.i32_w]; rfl)
          refine PrintLast.pure_ (i := 8) (N := (some 14)) (v := ?_) (a' := ?_) #[true, true, true, true, false, true, true, true, true, false, false, true, false] rfl rfl (by kernel_rfl) (fun _ _ _ h => hQp _ _ _ _ _ h) (Or.inl ⟨by rfl, ?_⟩) ?_ ?_
          rotate_left
          · (intro w'; go_simp; with_reducible rfl)
          rotate_left
          · (simp only [Act.put, List.setIfInBounds_toArray, List.set_cons_zero, List.set_cons_succ, PrintLast.i64_w, PrintLast.i32_w]; rfl)
          refine PrintLast.one_ (i := 4) (N := (some 10)) #[true, true, true, true, true, true, true, true, true, false, false, true, false] rfl rfl (by kernel_rfl) (by decide) (fun K hK => ?_)
          obtain ⟨tv, htv⟩ := eight HB6.out lk8
          refine PrintLast.value_ (w1 := ?_) (v := ?_) (by rfl) rfl ?_ ?_
          rotate_left 2
          · (go_simp; constructor <;> rfl)
          have t4 : Gr g u4 u4 := ⟨grown_refl _ _⟩
          clear htv
          have HB6 := Lib.hid (t4.block HB6.out (by omega))
          have HB5 := Lib.hid (t4.block HB5.out (by omega))
          have HT := Lib.hid (HT.out.trans t4)
          clear t4
          refine hK.out _ _ trivial (fun hHeld => ?_)
          clear hK K
          refine PrintLast.norm_ (a' := ?_) ?_ ?_
          rotate_left
          · (show Act.put _ (some 10) _ = _; simp only [Act.put, List.setIfInBounds_toArray, List.set_cons_zero, List.set_cons_succ, PrintLast.i64_w, PrintLast.i32_w]; rfl)
          refine PrintLast.pure_ (i := 9) (N := (some 15)) (v := ?_) (a' := ?_) #[true, true, true, true, true, true, true, true, true, true, false, true, false] rfl rfl (by kernel_rfl) (fun _ _ _ h => hQp _ _ _ _ _ h) (Or.inl ⟨by rfl, ?_⟩) ?_ ?_
          rotate_left
          · (intro w'; go_simp; with_reducible rfl)
          rotate_left
          · (simp only [Act.put, List.setIfInBounds_toArray, List.set_cons_zero, List.set_cons_succ, PrintLast.i64_w, PrintLast.i32_w]; rfl)
          refine PrintLast.pure_ (i := 10) (N := (some 16)) (v := ?_) (a' := ?_) #[true, true, true, true, true, true, true, true, true, true, true, true, false] rfl rfl (by kernel_rfl) (fun _ _ _ h => hQp _ _ _ _ _ h) (Or.inl ⟨by rfl, ?_⟩) ?_ ?_
          rotate_left
          · (intro w'; go_simp; with_reducible rfl)
          rotate_left
          · (simp only [Act.put, List.setIfInBounds_toArray, List.set_cons_zero, List.set_cons_succ, PrintLast.i64_w, PrintLast.i32_w]; rfl)
          have a0 := block_cell HB5.out 0 rfl
          have a1 := block_cell HB5.out 1 rfl
          have a2 := block_cell HB5.out 2 rfl
          have p0 := block_frozen HB5.out 0
          have p1 := block_frozen HB5.out 1
          have p2 := block_frozen HB5.out 2
          refine PrintLast.last_ (i := 12) (N := none) #[true, true, true, true, true, true, true, true, true, true, true, true, true] rfl rfl (by kernel_rfl) (by decide) (fun K hK => ?_)
          refine PrintLast.skip_ (w1 := ?_) (by rfl) rfl ?_ ?_
          rotate_left
          · (go_simp; rfl)
          refine hK.out _ _ ?_
          clear hK K
          refine PrintLast.done_ (by kernel_rfl) ?_
          refine HQ.out b5 _ _ _ _ _ _ _ _ _ _ _ _ _ hgb5.2 (block_set (block_set (block_set HB5.out 0 _) 1 _) 2 _) (hR.kept (fun i hi => ?_)) ((((hwu.trans HT.out).set (p := ⟨b5, 0, none⟩) hgb5.2 _).set (p := ⟨b5, 1, none⟩) hgb5.2 _).set (p := ⟨b5, 2, none⟩) hgb5.2 _)
          rw [Below.heap_setCell _ _ _ _ (by simp; omega), Below.heap_setCell _ _ _ _ (by simp; omega), Below.heap_setCell _ _ _ _ (by simp; omega)]
      · skip
        refine PrintLast.goes_ Tryd.func68 (by kernel_rfl) rfl #[.pointer (some ⟨g, 0, none⟩), .int .i64 60] (by rfl) rfl rfl (by (try simp only [List.map_toArray, List.map_cons, List.map_nil]); first | done | rfl) ?_
        refine (s_pick g _ 60 _ (by assumption) (by omega) (by omega) (by omega)).mono ?_
        rintro e u3 ⟨k12, rfl, hk12, hR, hG⟩
        have lk12 : (k12 : Int) < 60 := hk12 (by omega)
        refine ⟨_, rfl, ?_⟩
        have t2 : Gr g u2 u3 := ⟨hG⟩
        clear hG hk12
        have HB5 := Lib.hid (t2.block HB5.out (by omega))
        have HT := Lib.hid (HT.out.trans t2)
        clear t2
        refine hK.out _ _ trivial (fun hHeld => ?_)
        clear hK K
        refine PrintLast.norm_ (a' := ?_) ?_ ?_
        rotate_left
        · (show Act.put _ (some 12) _ = _; simp only [Act.put, List.setIfInBounds_toArray, List.set_cons_zero, List.set_cons_succ, PrintLast.i64_w, PrintLast.i32_w]; rfl)
        refine PrintLast.pure_ (i := 7) (N := (some 13)) (v := ?_) (a' := ?_) #[false, true, true, false, false, true, true, true, false, false, false, true, false] rfl rfl (by kernel_rfl) (fun _ _ _ h => hQp _ _ _ _ _ h) (Or.inl ⟨by rfl, ?_⟩) ?_ ?_
        rotate_left
        · (intro w'; go_simp; with_reducible rfl)
        rotate_left
        · (simp only [Act.put, List.setIfInBounds_toArray, List.set_cons_zero, List.set_cons_succ, PrintLast.i64_w, PrintLast.i32_w]; rfl)
        refine PrintLast.pure_ (i := 8) (N := (some 14)) (v := ?_) (a' := ?_) #[false, true, true, false, false, true, true, true, true, false, false, true, false] rfl rfl (by kernel_rfl) (fun _ _ _ h => hQp _ _ _ _ _ h) (Or.inl ⟨by rfl, ?_⟩) ?_ ?_
        rotate_left
        · (intro w'; go_simp; with_reducible rfl)
        rotate_left
        · (simp only [Act.put, List.setIfInBounds_toArray, List.set_cons_zero, List.set_cons_succ, PrintLast.i64_w, PrintLast.i32_w]; rfl)
        refine PrintLast.one_ (i := 0) (N := (some 6)) #[true, true, true, false, false, true, true, true, true, false, false, true, false] rfl rfl (by kernel_rfl) (by decide) (fun K hK => ?_)
        refine PrintLast.value_ (w1 := ?_) (v := ?_) (by rfl) rfl ?_ ?_
        rotate_left 2
        · (go_simp; constructor <;> rfl)
        obtain ⟨u4, hu⟩ : ∃ u4, u4 = u3.alloc (.cells #[.int .i64 0, .int .i64 1, .int .i64 2, .int .i64 2, .int .i64 2, .int .i64 2, .int .i64 3, .int .i64 4] 3) := ⟨_, rfl⟩
        rw [← hu]
        have hbc : Below u3.heap.size u3 u4 := by rw [hu]; exact (Bel.alloc (w := u3) (W := u3)).out
        obtain ⟨b6, hbe⟩ : ∃ b, b = u3.heap.size := ⟨_, rfl⟩
        have hb : u4.heap[b6]? = some (.cells #[.int .i64 0, .int .i64 1, .int .i64 2, .int .i64 2, .int .i64 2, .int .i64 2, .int .i64 3, .int .i64 4] 3 (0, 0)) := by rw [hu, hbe]; exact heap_alloc_new _ _
        rw [← hbe]
        have hgb6 : g < b6 ∧ wa.heap.size ≤ b6 := by (have h1 := HZU.out; have h2 := HT.out.size; rw [hbe]; omega)
        have HB6 := Lib.hid hb
        have hR := hR.bel hbc
        have t3 : Gr g u3 u4 := Gr.of_bel hbc
        clear hu hbc hb hbe
        have HB5 := Lib.hid (t3.block HB5.out (by omega))
        have HT := Lib.hid (HT.out.trans t3)
        clear t3
        refine hK.out _ _ trivial (fun hHeld => ?_)
        clear hK K
        refine PrintLast.norm_ (a' := ?_) ?_ ?_
        rotate_left
        · (show Act.put _ (some 6) _ = _; simp only [Act.put, List.setIfInBounds_toArray, List.set_cons_zero, List.set_cons_succ, PrintLast.i64_w, PrintLast.i32_w]; rfl)
        refine PrintLast.pure_ (i := 3) (N := (some 9)) (v := ?_) (a' := ?_) #[true, true, true, true, false, true, true, true, true, false, false, true, false] rfl rfl (by kernel_rfl) (fun _ _ _ h => hQp _ _ _ _ _ h) (Or.inl ⟨by rfl, ?_⟩) ?_ ?_
        rotate_left
        · (intro w'; go_simp; with_reducible rfl)
        rotate_left
        · (simp only [Act.put, List.setIfInBounds_toArray, List.set_cons_zero, List.set_cons_succ, PrintLast.i64_w, PrintLast.i32_w]; rfl)
        refine PrintLast.one_ (i := 4) (N := (some 10)) #[true, true, true, true, true, true, true, true, true, false, false, true, false] rfl rfl (by kernel_rfl) (by decide) (fun K hK => ?_)
        obtain ⟨tv, htv⟩ := eight HB6.out lk8
        refine PrintLast.value_ (w1 := ?_) (v := ?_) (by rfl) rfl ?_ ?_
        rotate_left 2
        · (go_simp; constructor <;> rfl)
        have t4 : Gr g u4 u4 := ⟨grown_refl _ _⟩
        clear htv
        have HB6 := Lib.hid (t4.block HB6.out (by omega))
        have HB5 := Lib.hid (t4.block HB5.out (by omega))
        have HT := Lib.hid (HT.out.trans t4)
        clear t4
        refine hK.out _ _ trivial (fun hHeld => ?_)
        clear hK K
        refine PrintLast.norm_ (a' := ?_) ?_ ?_
        rotate_left
        · (show Act.put _ (some 10) _ = _; simp only [Act.put, List.setIfInBounds_toArray, List.set_cons_zero, List.set_cons_succ, PrintLast.i64_w, PrintLast.i32_w]; rfl)
        refine PrintLast.pure_ (i := 9) (N := (some 15)) (v := ?_) (a' := ?_) #[true, true, true, true, true, true, true, true, true, true, false, true, false] rfl rfl (by kernel_rfl) (fun _ _ _ h => hQp _ _ _ _ _ h) (Or.inl ⟨by rfl, ?_⟩) ?_ ?_
        rotate_left
        · (intro w'; go_simp; with_reducible rfl)
        rotate_left
        · (simp only [Act.put, List.setIfInBounds_toArray, List.set_cons_zero, List.set_cons_succ, PrintLast.i64_w, PrintLast.i32_w]; rfl)
        refine PrintLast.pure_ (i := 10) (N := (some 16)) (v := ?_) (a' := ?_) #[true, true, true, true, true, true, true, true, true, true, true, true, false] rfl rfl (by kernel_rfl) (fun _ _ _ h => hQp _ _ _ _ _ h) (Or.inl ⟨by rfl, ?_⟩) ?_ ?_
        rotate_left
        · (intro w'; go_simp; with_reducible rfl)
        rotate_left
        · (simp only [Act.put, List.setIfInBounds_toArray, List.set_cons_zero, List.set_cons_succ, PrintLast.i64_w, PrintLast.i32_w]; rfl)
        have a0 := block_cell HB5.out 0 rfl
        have a1 := block_cell HB5.out 1 rfl
        have a2 := block_cell HB5.out 2 rfl
        have p0 := block_frozen HB5.out 0
        have p1 := block_frozen HB5.out 1
        have p2 := block_frozen HB5.out 2
        refine PrintLast.last_ (i := 12) (N := none) #[true, true, true, true, true, true, true, true, true, true, true, true, true] rfl rfl (by kernel_rfl) (by decide) (fun K hK => ?_)
        refine PrintLast.skip_ (w1 := ?_) (by rfl) rfl ?_ ?_
        rotate_left
        · (go_simp; rfl)
        refine hK.out _ _ ?_
        clear hK K
        refine PrintLast.done_ (by kernel_rfl) ?_
        refine HQ.out b5 _ _ _ _ _ _ _ _ _ _ _ _ _ hgb5.2 (block_set (block_set (block_set HB5.out 0 _) 1 _) 2 _) (hR.kept (fun i hi => ?_)) ((((hwu.trans HT.out).set (p := ⟨b5, 0, none⟩) hgb5.2 _).set (p := ⟨b5, 1, none⟩) hgb5.2 _).set (p := ⟨b5, 2, none⟩) hgb5.2 _)
        rw [Below.heap_setCell _ _ _ _ (by simp; omega), Below.heap_setCell _ _ _ _ (by simp; omega), Below.heap_setCell _ _ _ _ (by simp; omega)]
end Go.Proofs.YtpfncjaclgcbnaaDoor.Ub
