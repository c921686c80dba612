/- The program's DeskDo: the region that copies the desk twice. -/
import Derived.Test.YtpfncjaclgcbnaaDoorF14
import Derived.Test.YtpfncjaclgcbnaaDoorF8
import Derived.Test.YtpfncjaclgcbnaaDoorOwn2
import Derived.Test.YtpfncjaclgcbnaaDoorF12
set_option linter.unusedVariables false
set_option linter.unusedSimpArgs false
namespace Go.Proofs.YtpfncjaclgcbnaaDoor.Ub
open Go.RowKit Go.Proofs.YtpfncjaclgcbnaaDoorW

/-- A region of a function, taken out of the translation. -/
def regionOf (n : Nat) : Code → Option Code
  | .region k ops d => if k = n then some (.region k ops d) else none
  | .seq a b => match regionOf n a with
    | some c => some c
    | none => regionOf n b
  | .block _ c => regionOf n c
  | .scope c => regionOf n c
  | .loop c => regionOf n c
  | .cond _ a b => match regionOf n a with
    | some c => some c
    | none => regionOf n b
  | _ => none
structure Two.Fit (t : Two) (wa : World) (d : Dk) (w' : World) : Prop where
  bel : Below wa.heap.size wa w'
  b6 : w'.heap[t.g6]? = some (.cells #[.slice none 0 0, .int .i64 0, .slice none 0 0, .slice none 0 0] 28 (0, 0))
  b7 : w'.heap[t.g7]? = some (.cells #[.slice none 0 0, .int .i64 0, .slice none 0 0, .slice none 0 0] 28 (0, 0))
  ne : t.g6 ≠ t.g7
  l6 : wa.heap.size ≤ t.g6
  l7 : wa.heap.size ≤ t.g7
  own : ∃ m f1 f2, wa.heap.size ≤ m ∧ m ≤ w'.heap.size ∧ DkO w' wa.heap.size m f1 (t.v1 d) d ∧ DkO w' m w'.heap.size f2 (t.v2 d) d
noncomputable def reg3 : Code := (Tryd.f8.body.bind (regionOf 3)).getD .skip


set_option maxHeartbeats 4000000 in
set_option maxRecDepth 1000000 in
theorem copies (d : Dk) (w wa : World) (A0 A2 A3 : Option Addr) (c0 c2 c3 : Nat) (i0 : Ints w (.slice A0 d.now.st.length c0) d.now.st) (i2 : Ints w (.slice A2 d.now.word.length c2) d.now.word) (i3 : Pls w (.slice A3 d.past.length c3) d.past)
    (hs1 : d.now.st.length ≤ 3) (hs2 : d.now.word.length ≤ 6) (hs3 : d.past.length ≤ 8) (HSM : Hid (∀ j, j < d.past.length → (d.past.getD j z0).st.length ≤ 3 ∧ (d.past.getD j z0).word.length ≤ 6)) (ba : Bel w wa)
    (BXa : wa.heap[w.heap.size]? = some (.cells #[.slice A0 d.now.st.length c0, .int .i64 d.now.step, .slice A2 d.now.word.length c2, .slice A3 d.past.length c3] 28 (0, 0)))
    (y0 y1 y3 y4 y5 y12 y13 y14 : Value) (Q : Exit → Act → World → Prop) (hQp : ∀ c (a : Act) d v w', Q (.panic c) (a.put d v) w' → Q (.panic c) a w')
    (hQ : ∀ (t : Two) (w' : World), t.Fit wa d w' → Q .normal ⟨#[y0, y1, .pointer (some ⟨w.heap.size, 0, none⟩), y3, y4, y5, .pointer (some ⟨t.g6, 0, none⟩), .pointer (some ⟨t.g7, 0, none⟩), undef, undef, undef, undef, y12, y13, y14, undef,
      .agg #[.slice A0 d.now.st.length c0, .int .i64 d.now.step, .slice A2 d.now.word.length c2, .slice A3 d.past.length c3], t.v1 d, .agg #[.slice A0 d.now.st.length c0, .int .i64 d.now.step, .slice A2 d.now.word.length c2, .slice A3 d.past.length c3], t.v2 d, undef, undef, undef, undef, undef, undef, undef, undef, undef, undef, undef, undef, undef, undef, undef, undef, undef, undef, undef, undef, undef, undef, undef, undef, undef, undef, undef, undef, undef, undef, undef, undef, undef, undef, undef, undef, undef, undef, undef, undef, undef, undef, undef, undef, undef, undef, undef, undef, undef, undef, undef, undef, undef, undef, undef, undef, undef, undef, undef, undef, undef, undef, undef, undef, undef, undef, undef, undef, undef, undef, undef, undef, undef, undef, undef, undef, undef, undef, undef, undef, undef, undef, undef, undef, undef, undef, undef, undef, undef, undef, undef, undef, undef, undef, undef, undef, undef, undef, undef, undef, undef, undef, undef, undef, undef, undef, undef, undef, undef, undef, undef, undef, undef, undef, undef, undef, undef, undef, undef, undef, undef, undef, undef, undef, undef, undef, undef, undef, undef, undef, undef, undef, undef, undef, undef, undef, undef, undef], []⟩
      (set4 (set4 w' t.g6 (.slice t.B0 d.now.st.length t.e0) (.int .i64 d.now.step) (.slice t.B2 d.now.word.length t.e2) (.slice t.B3 d.past.length t.e3)) t.g7 (.slice t.C0 d.now.st.length t.k0) (.int .i64 d.now.step) (.slice t.C2 d.now.word.length t.k2) (.slice t.C3 d.past.length t.k3))) :
    Code.wp Tryd.prog reg3 Q ⟨#[y0, y1, .pointer (some ⟨w.heap.size, 0, none⟩), y3, y4, y5, undef, undef, undef, undef, undef, undef, y12, y13, y14, undef, undef, undef, undef, undef, undef, undef, undef, undef, undef, undef, undef, undef, undef, undef, undef, undef, undef, undef, undef, undef, undef, undef, undef, undef, undef, undef, undef, undef, undef, undef, undef, undef, undef, undef, undef, undef, undef, undef, undef, undef, undef, undef, undef, undef, undef, undef, undef, undef, undef, undef, undef, undef, undef, undef, undef, undef, undef, undef, undef, undef, undef, undef, undef, undef, undef, undef, undef, undef, undef, undef, undef, undef, undef, undef, undef, undef, undef, undef, undef, undef, undef, undef, undef, undef, undef, undef, undef, undef, undef, undef, undef, undef, undef, undef, undef, undef, undef, undef, undef, undef, undef, undef, undef, undef, undef, undef, undef, undef, undef, undef, undef, undef, undef, undef, undef, undef, undef, undef, undef, undef, undef, undef, undef, undef, undef, undef, undef, undef, undef, undef, undef, undef, undef, undef, undef, undef, undef, undef, undef, undef, undef, undef], []⟩ wa := by
  conv => arg 2; whnf
  have x0 := block_cell BXa 0 rfl
  have x1 := block_cell BXa 1 rfl
  have x2 := block_cell BXa 2 rfl
  have x3 := block_cell BXa 3 rfl
  clear BXa
  have HQ := Lib.hid hQ; clear hQ
  refine PrintLast.start_ (n := 8) (S := fun w' => w'.cell? ⟨w.heap.size, 0, none⟩ = some (.slice A0 d.now.st.length c0) ∧ w'.cell? ⟨w.heap.size, 1, none⟩ = some (.int .i64 d.now.step) ∧ w'.cell? ⟨w.heap.size, 2, none⟩ = some (.slice A2 d.now.word.length c2) ∧ w'.cell? ⟨w.heap.size, 3, none⟩ = some (.slice A3 d.past.length c3)) (ds := [6,7]) #[false, false, false, false, false, false, false, false] (by kernel_rfl) rfl rfl ⟨cell_at x0, cell_at x1, cell_at x2, cell_at x3⟩ (fun hHeld => ?_)
  refine PrintLast.take_ (i := 0) (N := (some 16)) (v := ?_) (a' := ?_) #[true, false, false, false, false, false, false, false] rfl rfl (by kernel_rfl) (fun _ _ _ h => hQp _ _ _ _ _ h) (Or.inl ⟨by rfl, ?_⟩) hHeld ?_ ?_
  rotate_left
  · (rintro w' ⟨s0, s1, s2, s3⟩; go_simp; with_reducible rfl)
  rotate_left
  · (simp only [Act.put, List.setIfInBounds_toArray, List.set_cons_zero, List.set_cons_succ, PrintLast.i64_w, PrintLast.i32_w]; rfl)
  refine PrintLast.take_ (i := 2) (N := (some 18)) (v := ?_) (a' := ?_) #[true, false, true, false, false, false, false, false] rfl rfl (by kernel_rfl) (fun _ _ _ h => hQp _ _ _ _ _ h) (Or.inl ⟨by rfl, ?_⟩) hHeld ?_ ?_
  rotate_left
  · (rintro w' ⟨s0, s1, s2, s3⟩; go_simp; with_reducible rfl)
  rotate_left
  · (simp only [Act.put, List.setIfInBounds_toArray, List.set_cons_zero, List.set_cons_succ, PrintLast.i64_w, PrintLast.i32_w]; rfl)
  refine PrintLast.join_ (σ := Two) 2 #[true, true, true, true, true, true, false, false] (fun t => [(17, t.v1 d), (19, t.v2 d), (6, .pointer (some ⟨t.g6, 0, none⟩)), (7, .pointer (some ⟨t.g7, 0, none⟩))]) (fun t w' => (w'.cell? ⟨w.heap.size, 0, none⟩ = some (.slice A0 d.now.st.length c0) ∧ w'.cell? ⟨w.heap.size, 1, none⟩ = some (.int .i64 d.now.step) ∧ w'.cell? ⟨w.heap.size, 2, none⟩ = some (.slice A2 d.now.word.length c2) ∧ w'.cell? ⟨w.heap.size, 3, none⟩ = some (.slice A3 d.past.length c3)) ∧ t.Fit wa d w') ?_ ?_
  rotate_left
  · intro hCont
    obtain ⟨u0, hu0⟩ : ∃ u0, u0 = wa.drew := ⟨_, rfl⟩
    rw [← hu0] at hHeld ⊢
    haveI : Bel wa u0 := by rw [hu0]; exact Bel.drew
    haveI : Bel w u0 := Bel.step (w := w) (Bel.out : Below wa.heap.size wa u0)
    haveI : Bel u0 u0 := Bel.self
    clear hu0
    refine PrintLast.three_ (i := 1) (j := 4) (k := 5) (Ni := some 17) (Nj := some 6) (Nk := some 7) #[true, true, true, false, false, false, false, false] #[true, false, true, false, true, false, false, false] #[true, false, true, false, false, true, false, false] rfl rfl rfl rfl rfl rfl (by kernel_rfl) (by decide) (by decide) (by decide) (fun K hK => ?_) (fun K hK => ?_) (fun K hK => ?_)
    · skip
      refine PrintLast.goes_ Tryd.func34 (by kernel_rfl) rfl #[.agg #[.slice A0 d.now.st.length c0, .int .i64 d.now.step, .slice A2 d.now.word.length c2, .slice A3 d.past.length c3]] (by rfl) rfl rfl (by (try simp only [List.map_toArray, List.map_cons, List.map_nil]); first | done | rfl) ?_
      refine (i_copyDesk _ d _ (DkI.mk i0.at i2.at i3.at) (by omega) (by omega) (by omega) (fun j hj => by have := HSM.out j hj; omega)).mono ?_
      rintro e u1 ⟨vc, rfl, ⟨f1, hDc⟩, hbc⟩
      obtain ⟨y0, y2, y3, rfl, hT0, hT2, hPs⟩ := hDc
      obtain ⟨B0, e0, rfl⟩ := hT0.ints.form
      obtain ⟨B2, e2, rfl⟩ := hT2.ints.form
      obtain ⟨B3, e3, rfl⟩ := hPs.pls.form
      have HD1 := Lib.hid (DkO.of hT0 hT2 hPs)
      refine ⟨_, rfl, ?_⟩
      haveI : Bel u0 u1 := Bel.step (w := u0) hbc
      haveI : Bel wa u1 := Bel.step (w := wa) hbc
      haveI : Bel w u1 := Bel.step (w := w) hbc
      clear hbc hT0 hT2 hPs
      refine hK.out _ _ ⟨cell_at x0, cell_at x1, cell_at x2, cell_at x3⟩ (fun hHeld => ?_)
      clear hK K
      refine PrintLast.norm_ (a' := ?_) ?_ ?_
      rotate_left
      · (show Act.put _ (some 17) _ = _; simp only [Act.put, List.setIfInBounds_toArray, List.set_cons_zero, List.set_cons_succ, PrintLast.i64_w, PrintLast.i32_w]; rfl)
      refine PrintLast.three_ (i := 3) (j := 4) (k := 5) (Ni := some 19) (Nj := some 6) (Nk := some 7) #[true, true, true, true, false, false, false, false] #[true, true, true, false, true, false, false, false] #[true, true, true, false, false, true, false, false] rfl rfl rfl rfl rfl rfl (by kernel_rfl) (by decide) (by decide) (by decide) (fun K hK => ?_) (fun K hK => ?_) (fun K hK => ?_)
      · skip
        refine PrintLast.goes_ Tryd.func34 (by kernel_rfl) rfl #[.agg #[.slice A0 d.now.st.length c0, .int .i64 d.now.step, .slice A2 d.now.word.length c2, .slice A3 d.past.length c3]] (by rfl) rfl rfl (by (try simp only [List.map_toArray, List.map_cons, List.map_nil]); first | done | rfl) ?_
        refine (i_copyDesk _ d _ (DkI.mk i0.at i2.at i3.at) (by omega) (by omega) (by omega) (fun j hj => by have := HSM.out j hj; omega)).mono ?_
        rintro e u2 ⟨vc, rfl, ⟨f2, hDc⟩, hbc⟩
        obtain ⟨y0, y2, y3, rfl, hT0, hT2, hPs⟩ := hDc
        obtain ⟨C0, k0, rfl⟩ := hT0.ints.form
        obtain ⟨C2, k2, rfl⟩ := hT2.ints.form
        obtain ⟨C3, k3, rfl⟩ := hPs.pls.form
        have HD2 := Lib.hid (DkO.of hT0 hT2 hPs)
        refine ⟨_, rfl, ?_⟩
        haveI : Bel u1 u2 := Bel.step (w := u1) hbc
        haveI : Bel u0 u2 := Bel.step (w := u0) hbc
        haveI : Bel wa u2 := Bel.step (w := wa) hbc
        haveI : Bel w u2 := Bel.step (w := w) hbc
        clear hbc hT0 hT2 hPs
        refine hK.out _ _ ⟨cell_at x0, cell_at x1, cell_at x2, cell_at x3⟩ (fun hHeld => ?_)
        clear hK K
        refine PrintLast.norm_ (a' := ?_) ?_ ?_
        rotate_left
        · (show Act.put _ (some 19) _ = _; simp only [Act.put, List.setIfInBounds_toArray, List.set_cons_zero, List.set_cons_succ, PrintLast.i64_w, PrintLast.i32_w]; rfl)
        refine PrintLast.two_ (i := 4) (j := 5) (Ni := some 6) (Nj := some 7) #[true, true, true, true, true, false, false, false] #[true, true, true, true, false, true, false, false] rfl rfl rfl rfl (by kernel_rfl) (by decide) (by decide) (fun K hK => ?_) (fun K hK => ?_)
        · skip
          refine PrintLast.value_ (w1 := ?_) (v := ?_) (by rfl) rfl ?_ ?_
          rotate_left 2
          · (go_simp; constructor <;> rfl)
          obtain ⟨u3, hu3⟩ : ∃ u3, u3 = u2.alloc (.cells #[.slice none 0 0, .int .i64 0, .slice none 0 0, .slice none 0 0] 28) := ⟨_, rfl⟩
          rw [← hu3]
          have hbc : Below u2.heap.size u2 u3 := by rw [hu3]; exact (Bel.alloc (w := u2) (W := u2)).out
          have HG6 : Hid (u3.heap[u2.heap.size]? = some (.cells #[.slice none 0 0, .int .i64 0, .slice none 0 0, .slice none 0 0] 28 (0, 0))) := by show _ = _; rw [hu3]; exact heap_alloc_new _ _
          haveI : Bel u2 u3 := Bel.step (w := u2) hbc
          haveI : Bel u1 u3 := Bel.step (w := u1) hbc
          haveI : Bel u0 u3 := Bel.step (w := u0) hbc
          haveI : Bel wa u3 := Bel.step (w := wa) hbc
          haveI : Bel w u3 := Bel.step (w := w) hbc
          clear hbc hu3
          refine hK.out _ _ ⟨cell_at x0, cell_at x1, cell_at x2, cell_at x3⟩ (fun hHeld => ?_)
          clear hK K
          refine PrintLast.norm_ (a' := ?_) ?_ ?_
          rotate_left
          · (show Act.put _ (some 6) _ = _; simp only [Act.put, List.setIfInBounds_toArray, List.set_cons_zero, List.set_cons_succ, PrintLast.i64_w, PrintLast.i32_w]; rfl)
          refine PrintLast.one_ (i := 5) (N := (some 7)) #[true, true, true, true, true, true, false, false] rfl rfl (by kernel_rfl) (by decide) (fun K hK => ?_)
          refine PrintLast.value_ (w1 := ?_) (v := ?_) (by rfl) rfl ?_ ?_
          rotate_left 2
          · (go_simp; constructor <;> rfl)
          obtain ⟨u4, hu4⟩ : ∃ u4, u4 = u3.alloc (.cells #[.slice none 0 0, .int .i64 0, .slice none 0 0, .slice none 0 0] 28) := ⟨_, rfl⟩
          rw [← hu4]
          have hbc : Below u3.heap.size u3 u4 := by rw [hu4]; exact (Bel.alloc (w := u3) (W := u3)).out
          have HG7 : Hid (u4.heap[u3.heap.size]? = some (.cells #[.slice none 0 0, .int .i64 0, .slice none 0 0, .slice none 0 0] 28 (0, 0))) := by show _ = _; rw [hu4]; exact heap_alloc_new _ _
          haveI : Bel u3 u4 := Bel.step (w := u3) hbc
          haveI : Bel u2 u4 := Bel.step (w := u2) hbc
          haveI : Bel u1 u4 := Bel.step (w := u1) hbc
          haveI : Bel u0 u4 := Bel.step (w := u0) hbc
          haveI : Bel wa u4 := Bel.step (w := wa) hbc
          haveI : Bel w u4 := Bel.step (w := w) hbc
          clear hbc hu4
          refine hK.out _ _ ⟨cell_at x0, cell_at x1, cell_at x2, cell_at x3⟩ (fun hHeld => ?_)
          clear hK K
          refine PrintLast.norm_ (a' := ?_) ?_ ?_
          rotate_left
          · (show Act.put _ (some 7) _ = _; simp only [Act.put, List.setIfInBounds_toArray, List.set_cons_zero, List.set_cons_succ, PrintLast.i64_w, PrintLast.i32_w]; rfl)
          have s1 : u1.heap.size ≤ u1.heap.size := (Bel.out : Below u1.heap.size u1 u1).size
          have s2 : u2.heap.size ≤ u4.heap.size := (Bel.out : Below u2.heap.size u2 u4).size
          have s3 : wa.heap.size ≤ u0.heap.size := (Bel.out : Below wa.heap.size wa u0).size
          have s4 : wa.heap.size ≤ u2.heap.size := (Bel.out : Below wa.heap.size wa u2).size
          have s5 : wa.heap.size ≤ u3.heap.size := (Bel.out : Below wa.heap.size wa u3).size
          have s8 : u1.heap.size ≤ u4.heap.size := (Bel.out : Below u1.heap.size u1 u4).size
          have s9 : wa.heap.size ≤ u1.heap.size := (Bel.out : Below wa.heap.size wa u1).size
          have s6 : u3.heap.size ≤ u3.heap.size := (Bel.out : Below u3.heap.size u3 u3).size
          have s7 := (Array.getElem?_eq_some_iff.1 HG6.out).1
          have F1 := (HD1.out.kept (w1 := u4) (fun k _ hk => (Bel.out : Below u1.heap.size u1 u4).block k hk)).lo s3
          have F2 := ((HD2.out.kept (w1 := u4) (fun k _ hk => (Bel.out : Below u2.heap.size u2 u4).block k hk)).lo s1).hi s2
          exact PrintLast.norm_ (by simp only [PrintLast.putAll, Act.put, List.setIfInBounds_toArray, List.set_cons_zero, List.set_cons_succ, Two.v1, Two.v2]) (hCont ⟨B0, e0, B2, e2, B3, e3, C0, k0, C2, k2, C3, k3, u2.heap.size, u3.heap.size⟩ _ ⟨hHeld, ⟨Bel.out, block_at HG6.out, block_at HG7.out, by show u2.heap.size ≠ u3.heap.size; omega, by exact s4, by exact s5, ⟨u1.heap.size, f1, f2, s9, s8, F1, F2⟩⟩⟩)
        · skip
          refine PrintLast.value_ (w1 := ?_) (v := ?_) (by rfl) rfl ?_ ?_
          rotate_left 2
          · (go_simp; constructor <;> rfl)
          obtain ⟨u3, hu3⟩ : ∃ u3, u3 = u2.alloc (.cells #[.slice none 0 0, .int .i64 0, .slice none 0 0, .slice none 0 0] 28) := ⟨_, rfl⟩
          rw [← hu3]
          have hbc : Below u2.heap.size u2 u3 := by rw [hu3]; exact (Bel.alloc (w := u2) (W := u2)).out
          have HG7 : Hid (u3.heap[u2.heap.size]? = some (.cells #[.slice none 0 0, .int .i64 0, .slice none 0 0, .slice none 0 0] 28 (0, 0))) := by show _ = _; rw [hu3]; exact heap_alloc_new _ _
          haveI : Bel u2 u3 := Bel.step (w := u2) hbc
          haveI : Bel u1 u3 := Bel.step (w := u1) hbc
          haveI : Bel u0 u3 := Bel.step (w := u0) hbc
          haveI : Bel wa u3 := Bel.step (w := wa) hbc
          haveI : Bel w u3 := Bel.step (w := w) hbc
          clear hbc hu3
          refine hK.out _ _ ⟨cell_at x0, cell_at x1, cell_at x2, cell_at x3⟩ (fun hHeld => ?_)
          clear hK K
          refine PrintLast.norm_ (a' := ?_) ?_ ?_
          rotate_left
          · (show Act.put _ (some 7) _ = _; simp only [Act.put, List.setIfInBounds_toArray, List.set_cons_zero, List.set_cons_succ, PrintLast.i64_w, PrintLast.i32_w]; rfl)
          refine PrintLast.one_ (i := 4) (N := (some 6)) #[true, true, true, true, true, true, false, false] rfl rfl (by kernel_rfl) (by decide) (fun K hK => ?_)
          refine PrintLast.value_ (w1 := ?_) (v := ?_) (by rfl) rfl ?_ ?_
          rotate_left 2
          · (go_simp; constructor <;> rfl)
          obtain ⟨u4, hu4⟩ : ∃ u4, u4 = u3.alloc (.cells #[.slice none 0 0, .int .i64 0, .slice none 0 0, .slice none 0 0] 28) := ⟨_, rfl⟩
          rw [← hu4]
          have hbc : Below u3.heap.size u3 u4 := by rw [hu4]; exact (Bel.alloc (w := u3) (W := u3)).out
          have HG6 : Hid (u4.heap[u3.heap.size]? = some (.cells #[.slice none 0 0, .int .i64 0, .slice none 0 0, .slice none 0 0] 28 (0, 0))) := by show _ = _; rw [hu4]; exact heap_alloc_new _ _
          haveI : Bel u3 u4 := Bel.step (w := u3) hbc
          haveI : Bel u2 u4 := Bel.step (w := u2) hbc
          haveI : Bel u1 u4 := Bel.step (w := u1) hbc
          haveI : Bel u0 u4 := Bel.step (w := u0) hbc
          haveI : Bel wa u4 := Bel.step (w := wa) hbc
          haveI : Bel w u4 := Bel.step (w := w) hbc
          clear hbc hu4
          refine hK.out _ _ ⟨cell_at x0, cell_at x1, cell_at x2, cell_at x3⟩ (fun hHeld => ?_)
          clear hK K
          refine PrintLast.norm_ (a' := ?_) ?_ ?_
          rotate_left
          · (show Act.put _ (some 6) _ = _; simp only [Act.put, List.setIfInBounds_toArray, List.set_cons_zero, List.set_cons_succ, PrintLast.i64_w, PrintLast.i32_w]; rfl)
          have s1 : u1.heap.size ≤ u1.heap.size := (Bel.out : Below u1.heap.size u1 u1).size
          have s2 : u2.heap.size ≤ u4.heap.size := (Bel.out : Below u2.heap.size u2 u4).size
          have s3 : wa.heap.size ≤ u0.heap.size := (Bel.out : Below wa.heap.size wa u0).size
          have s4 : wa.heap.size ≤ u3.heap.size := (Bel.out : Below wa.heap.size wa u3).size
          have s5 : wa.heap.size ≤ u2.heap.size := (Bel.out : Below wa.heap.size wa u2).size
          have s8 : u1.heap.size ≤ u4.heap.size := (Bel.out : Below u1.heap.size u1 u4).size
          have s9 : wa.heap.size ≤ u1.heap.size := (Bel.out : Below wa.heap.size wa u1).size
          have s6 : u3.heap.size ≤ u3.heap.size := (Bel.out : Below u3.heap.size u3 u3).size
          have s7 := (Array.getElem?_eq_some_iff.1 HG7.out).1
          have F1 := (HD1.out.kept (w1 := u4) (fun k _ hk => (Bel.out : Below u1.heap.size u1 u4).block k hk)).lo s3
          have F2 := ((HD2.out.kept (w1 := u4) (fun k _ hk => (Bel.out : Below u2.heap.size u2 u4).block k hk)).lo s1).hi s2
          exact PrintLast.norm_ (by simp only [PrintLast.putAll, Act.put, List.setIfInBounds_toArray, List.set_cons_zero, List.set_cons_succ, Two.v1, Two.v2]) (hCont ⟨B0, e0, B2, e2, B3, e3, C0, k0, C2, k2, C3, k3, u3.heap.size, u2.heap.size⟩ _ ⟨hHeld, ⟨Bel.out, block_at HG6.out, block_at HG7.out, by show u3.heap.size ≠ u2.heap.size; omega, by exact s4, by exact s5, ⟨u1.heap.size, f1, f2, s9, s8, F1, F2⟩⟩⟩)
      · skip
        refine PrintLast.value_ (w1 := ?_) (v := ?_) (by rfl) rfl ?_ ?_
        rotate_left 2
        · (go_simp; constructor <;> rfl)
        obtain ⟨u2, hu2⟩ : ∃ u2, u2 = u1.alloc (.cells #[.slice none 0 0, .int .i64 0, .slice none 0 0, .slice none 0 0] 28) := ⟨_, rfl⟩
        rw [← hu2]
        have hbc : Below u1.heap.size u1 u2 := by rw [hu2]; exact (Bel.alloc (w := u1) (W := u1)).out
        have HG6 : Hid (u2.heap[u1.heap.size]? = some (.cells #[.slice none 0 0, .int .i64 0, .slice none 0 0, .slice none 0 0] 28 (0, 0))) := by show _ = _; rw [hu2]; exact heap_alloc_new _ _
        haveI : Bel u1 u2 := Bel.step (w := u1) hbc
        haveI : Bel u0 u2 := Bel.step (w := u0) hbc
        haveI : Bel wa u2 := Bel.step (w := wa) hbc
        haveI : Bel w u2 := Bel.step (w := w) hbc
        clear hbc hu2
        refine hK.out _ _ ⟨cell_at x0, cell_at x1, cell_at x2, cell_at x3⟩ (fun hHeld => ?_)
        clear hK K
        refine PrintLast.norm_ (a' := ?_) ?_ ?_
        rotate_left
        · (show Act.put _ (some 6) _ = _; simp only [Act.put, List.setIfInBounds_toArray, List.set_cons_zero, List.set_cons_succ, PrintLast.i64_w, PrintLast.i32_w]; rfl)
        refine PrintLast.two_ (i := 3) (j := 5) (Ni := some 19) (Nj := some 7) #[true, true, true, true, true, false, false, false] #[true, true, true, false, true, true, false, false] rfl rfl rfl rfl (by kernel_rfl) (by decide) (by decide) (fun K hK => ?_) (fun K hK => ?_)
        · skip
          refine PrintLast.goes_ Tryd.func34 (by kernel_rfl) rfl #[.agg #[.slice A0 d.now.st.length c0, .int .i64 d.now.step, .slice A2 d.now.word.length c2, .slice A3 d.past.length c3]] (by rfl) rfl rfl (by (try simp only [List.map_toArray, List.map_cons, List.map_nil]); first | done | rfl) ?_
          refine (i_copyDesk _ d _ (DkI.mk i0.at i2.at i3.at) (by omega) (by omega) (by omega) (fun j hj => by have := HSM.out j hj; omega)).mono ?_
          rintro e u3 ⟨vc, rfl, ⟨f2, hDc⟩, hbc⟩
          obtain ⟨y0, y2, y3, rfl, hT0, hT2, hPs⟩ := hDc
          obtain ⟨C0, k0, rfl⟩ := hT0.ints.form
          obtain ⟨C2, k2, rfl⟩ := hT2.ints.form
          obtain ⟨C3, k3, rfl⟩ := hPs.pls.form
          have HD2 := Lib.hid (DkO.of hT0 hT2 hPs)
          refine ⟨_, rfl, ?_⟩
          haveI : Bel u2 u3 := Bel.step (w := u2) hbc
          haveI : Bel u1 u3 := Bel.step (w := u1) hbc
          haveI : Bel u0 u3 := Bel.step (w := u0) hbc
          haveI : Bel wa u3 := Bel.step (w := wa) hbc
          haveI : Bel w u3 := Bel.step (w := w) hbc
          clear hbc hT0 hT2 hPs
          refine hK.out _ _ ⟨cell_at x0, cell_at x1, cell_at x2, cell_at x3⟩ (fun hHeld => ?_)
          clear hK K
          refine PrintLast.norm_ (a' := ?_) ?_ ?_
          rotate_left
          · (show Act.put _ (some 19) _ = _; simp only [Act.put, List.setIfInBounds_toArray, List.set_cons_zero, List.set_cons_succ, PrintLast.i64_w, PrintLast.i32_w]; rfl)
          refine PrintLast.one_ (i := 5) (N := (some 7)) #[true, true, true, true, true, true, false, false] rfl rfl (by kernel_rfl) (by decide) (fun K hK => ?_)
          refine PrintLast.value_ (w1 := ?_) (v := ?_) (by rfl) rfl ?_ ?_
          rotate_left 2
          · (go_simp; constructor <;> rfl)
          obtain ⟨u4, hu4⟩ : ∃ u4, u4 = u3.alloc (.cells #[.slice none 0 0, .int .i64 0, .slice none 0 0, .slice none 0 0] 28) := ⟨_, rfl⟩
          rw [← hu4]
          have hbc : Below u3.heap.size u3 u4 := by rw [hu4]; exact (Bel.alloc (w := u3) (W := u3)).out
          have HG7 : Hid (u4.heap[u3.heap.size]? = some (.cells #[.slice none 0 0, .int .i64 0, .slice none 0 0, .slice none 0 0] 28 (0, 0))) := by show _ = _; rw [hu4]; exact heap_alloc_new _ _
          haveI : Bel u3 u4 := Bel.step (w := u3) hbc
          haveI : Bel u2 u4 := Bel.step (w := u2) hbc
          haveI : Bel u1 u4 := Bel.step (w := u1) hbc
          haveI : Bel u0 u4 := Bel.step (w := u0) hbc
          haveI : Bel wa u4 := Bel.step (w := wa) hbc
          haveI : Bel w u4 := Bel.step (w := w) hbc
          clear hbc hu4
          refine hK.out _ _ ⟨cell_at x0, cell_at x1, cell_at x2, cell_at x3⟩ (fun hHeld => ?_)
          clear hK K
          refine PrintLast.norm_ (a' := ?_) ?_ ?_
          rotate_left
          · (show Act.put _ (some 7) _ = _; simp only [Act.put, List.setIfInBounds_toArray, List.set_cons_zero, List.set_cons_succ, PrintLast.i64_w, PrintLast.i32_w]; rfl)
          have s1 : u1.heap.size ≤ u2.heap.size := (Bel.out : Below u1.heap.size u1 u2).size
          have s2 : u3.heap.size ≤ u4.heap.size := (Bel.out : Below u3.heap.size u3 u4).size
          have s3 : wa.heap.size ≤ u0.heap.size := (Bel.out : Below wa.heap.size wa u0).size
          have s4 : wa.heap.size ≤ u1.heap.size := (Bel.out : Below wa.heap.size wa u1).size
          have s5 : wa.heap.size ≤ u3.heap.size := (Bel.out : Below wa.heap.size wa u3).size
          have s8 : u1.heap.size ≤ u4.heap.size := (Bel.out : Below u1.heap.size u1 u4).size
          have s9 : wa.heap.size ≤ u1.heap.size := (Bel.out : Below wa.heap.size wa u1).size
          have s6 : u2.heap.size ≤ u3.heap.size := (Bel.out : Below u2.heap.size u2 u3).size
          have s7 := (Array.getElem?_eq_some_iff.1 HG6.out).1
          have F1 := (HD1.out.kept (w1 := u4) (fun k _ hk => (Bel.out : Below u1.heap.size u1 u4).block k hk)).lo s3
          have F2 := ((HD2.out.kept (w1 := u4) (fun k _ hk => (Bel.out : Below u3.heap.size u3 u4).block k hk)).lo s1).hi s2
          exact PrintLast.norm_ (by simp only [PrintLast.putAll, Act.put, List.setIfInBounds_toArray, List.set_cons_zero, List.set_cons_succ, Two.v1, Two.v2]) (hCont ⟨B0, e0, B2, e2, B3, e3, C0, k0, C2, k2, C3, k3, u1.heap.size, u3.heap.size⟩ _ ⟨hHeld, ⟨Bel.out, block_at HG6.out, block_at HG7.out, by show u1.heap.size ≠ u3.heap.size; omega, by exact s4, by exact s5, ⟨u1.heap.size, f1, f2, s9, s8, F1, F2⟩⟩⟩)
        · skip
          refine PrintLast.value_ (w1 := ?_) (v := ?_) (by rfl) rfl ?_ ?_
          rotate_left 2
          · (go_simp; constructor <;> rfl)
          obtain ⟨u3, hu3⟩ : ∃ u3, u3 = u2.alloc (.cells #[.slice none 0 0, .int .i64 0, .slice none 0 0, .slice none 0 0] 28) := ⟨_, rfl⟩
          rw [← hu3]
          have hbc : Below u2.heap.size u2 u3 := by rw [hu3]; exact (Bel.alloc (w := u2) (W := u2)).out
          have HG7 : Hid (u3.heap[u2.heap.size]? = some (.cells #[.slice none 0 0, .int .i64 0, .slice none 0 0, .slice none 0 0] 28 (0, 0))) := by show _ = _; rw [hu3]; exact heap_alloc_new _ _
          haveI : Bel u2 u3 := Bel.step (w := u2) hbc
          haveI : Bel u1 u3 := Bel.step (w := u1) hbc
          haveI : Bel u0 u3 := Bel.step (w := u0) hbc
          haveI : Bel wa u3 := Bel.step (w := wa) hbc
          haveI : Bel w u3 := Bel.step (w := w) hbc
          clear hbc hu3
          refine hK.out _ _ ⟨cell_at x0, cell_at x1, cell_at x2, cell_at x3⟩ (fun hHeld => ?_)
          clear hK K
          refine PrintLast.norm_ (a' := ?_) ?_ ?_
          rotate_left
          · (show Act.put _ (some 7) _ = _; simp only [Act.put, List.setIfInBounds_toArray, List.set_cons_zero, List.set_cons_succ, PrintLast.i64_w, PrintLast.i32_w]; rfl)
          refine PrintLast.one_ (i := 3) (N := (some 19)) #[true, true, true, true, true, true, false, false] rfl rfl (by kernel_rfl) (by decide) (fun K hK => ?_)
          refine PrintLast.goes_ Tryd.func34 (by kernel_rfl) rfl #[.agg #[.slice A0 d.now.st.length c0, .int .i64 d.now.step, .slice A2 d.now.word.length c2, .slice A3 d.past.length c3]] (by rfl) rfl rfl (by (try simp only [List.map_toArray, List.map_cons, List.map_nil]); first | done | rfl) ?_
          refine (i_copyDesk _ d _ (DkI.mk i0.at i2.at i3.at) (by omega) (by omega) (by omega) (fun j hj => by have := HSM.out j hj; omega)).mono ?_
          rintro e u4 ⟨vc, rfl, ⟨f2, hDc⟩, hbc⟩
          obtain ⟨y0, y2, y3, rfl, hT0, hT2, hPs⟩ := hDc
          obtain ⟨C0, k0, rfl⟩ := hT0.ints.form
          obtain ⟨C2, k2, rfl⟩ := hT2.ints.form
          obtain ⟨C3, k3, rfl⟩ := hPs.pls.form
          have HD2 := Lib.hid (DkO.of hT0 hT2 hPs)
          refine ⟨_, rfl, ?_⟩
          haveI : Bel u3 u4 := Bel.step (w := u3) hbc
          haveI : Bel u2 u4 := Bel.step (w := u2) hbc
          haveI : Bel u1 u4 := Bel.step (w := u1) hbc
          haveI : Bel u0 u4 := Bel.step (w := u0) hbc
          haveI : Bel wa u4 := Bel.step (w := wa) hbc
          haveI : Bel w u4 := Bel.step (w := w) hbc
          clear hbc hT0 hT2 hPs
          refine hK.out _ _ ⟨cell_at x0, cell_at x1, cell_at x2, cell_at x3⟩ (fun hHeld => ?_)
          clear hK K
          refine PrintLast.norm_ (a' := ?_) ?_ ?_
          rotate_left
          · (show Act.put _ (some 19) _ = _; simp only [Act.put, List.setIfInBounds_toArray, List.set_cons_zero, List.set_cons_succ, PrintLast.i64_w, PrintLast.i32_w]; rfl)
          have s1 : u1.heap.size ≤ u3.heap.size := (Bel.out : Below u1.heap.size u1 u3).size
          have s2 : u4.heap.size ≤ u4.heap.size := (Bel.out : Below u4.heap.size u4 u4).size
          have s3 : wa.heap.size ≤ u0.heap.size := (Bel.out : Below wa.heap.size wa u0).size
          have s4 : wa.heap.size ≤ u1.heap.size := (Bel.out : Below wa.heap.size wa u1).size
          have s5 : wa.heap.size ≤ u2.heap.size := (Bel.out : Below wa.heap.size wa u2).size
          have s8 : u1.heap.size ≤ u4.heap.size := (Bel.out : Below u1.heap.size u1 u4).size
          have s9 : wa.heap.size ≤ u1.heap.size := (Bel.out : Below wa.heap.size wa u1).size
          have s6 : u2.heap.size ≤ u2.heap.size := (Bel.out : Below u2.heap.size u2 u2).size
          have s7 := (Array.getElem?_eq_some_iff.1 HG6.out).1
          have F1 := (HD1.out.kept (w1 := u4) (fun k _ hk => (Bel.out : Below u1.heap.size u1 u4).block k hk)).lo s3
          have F2 := ((HD2.out.kept (w1 := u4) (fun k _ hk => (Bel.out : Below u4.heap.size u4 u4).block k hk)).lo s1).hi s2
          exact PrintLast.norm_ (by simp only [PrintLast.putAll, Act.put, List.setIfInBounds_toArray, List.set_cons_zero, List.set_cons_succ, Two.v1, Two.v2]) (hCont ⟨B0, e0, B2, e2, B3, e3, C0, k0, C2, k2, C3, k3, u1.heap.size, u2.heap.size⟩ _ ⟨hHeld, ⟨Bel.out, block_at HG6.out, block_at HG7.out, by show u1.heap.size ≠ u2.heap.size; omega, by exact s4, by exact s5, ⟨u1.heap.size, f1, f2, s9, s8, F1, F2⟩⟩⟩)
      · skip
        refine PrintLast.value_ (w1 := ?_) (v := ?_) (by rfl) rfl ?_ ?_
        rotate_left 2
        · (go_simp; constructor <;> rfl)
        obtain ⟨u2, hu2⟩ : ∃ u2, u2 = u1.alloc (.cells #[.slice none 0 0, .int .i64 0, .slice none 0 0, .slice none 0 0] 28) := ⟨_, rfl⟩
        rw [← hu2]
        have hbc : Below u1.heap.size u1 u2 := by rw [hu2]; exact (Bel.alloc (w := u1) (W := u1)).out
        have HG7 : Hid (u2.heap[u1.heap.size]? = some (.cells #[.slice none 0 0, .int .i64 0, .slice none 0 0, .slice none 0 0] 28 (0, 0))) := by show _ = _; rw [hu2]; exact heap_alloc_new _ _
        haveI : Bel u1 u2 := Bel.step (w := u1) hbc
        haveI : Bel u0 u2 := Bel.step (w := u0) hbc
        haveI : Bel wa u2 := Bel.step (w := wa) hbc
        haveI : Bel w u2 := Bel.step (w := w) hbc
        clear hbc hu2
        refine hK.out _ _ ⟨cell_at x0, cell_at x1, cell_at x2, cell_at x3⟩ (fun hHeld => ?_)
        clear hK K
        refine PrintLast.norm_ (a' := ?_) ?_ ?_
        rotate_left
        · (show Act.put _ (some 7) _ = _; simp only [Act.put, List.setIfInBounds_toArray, List.set_cons_zero, List.set_cons_succ, PrintLast.i64_w, PrintLast.i32_w]; rfl)
        refine PrintLast.two_ (i := 3) (j := 4) (Ni := some 19) (Nj := some 6) #[true, true, true, true, false, true, false, false] #[true, true, true, false, true, true, false, false] rfl rfl rfl rfl (by kernel_rfl) (by decide) (by decide) (fun K hK => ?_) (fun K hK => ?_)
        · skip
          refine PrintLast.goes_ Tryd.func34 (by kernel_rfl) rfl #[.agg #[.slice A0 d.now.st.length c0, .int .i64 d.now.step, .slice A2 d.now.word.length c2, .slice A3 d.past.length c3]] (by rfl) rfl rfl (by (try simp only [List.map_toArray, List.map_cons, List.map_nil]); first | done | rfl) ?_
          refine (i_copyDesk _ d _ (DkI.mk i0.at i2.at i3.at) (by omega) (by omega) (by omega) (fun j hj => by have := HSM.out j hj; omega)).mono ?_
          rintro e u3 ⟨vc, rfl, ⟨f2, hDc⟩, hbc⟩
          obtain ⟨y0, y2, y3, rfl, hT0, hT2, hPs⟩ := hDc
          obtain ⟨C0, k0, rfl⟩ := hT0.ints.form
          obtain ⟨C2, k2, rfl⟩ := hT2.ints.form
          obtain ⟨C3, k3, rfl⟩ := hPs.pls.form
          have HD2 := Lib.hid (DkO.of hT0 hT2 hPs)
          refine ⟨_, rfl, ?_⟩
          haveI : Bel u2 u3 := Bel.step (w := u2) hbc
          haveI : Bel u1 u3 := Bel.step (w := u1) hbc
          haveI : Bel u0 u3 := Bel.step (w := u0) hbc
          haveI : Bel wa u3 := Bel.step (w := wa) hbc
          haveI : Bel w u3 := Bel.step (w := w) hbc
          clear hbc hT0 hT2 hPs
          refine hK.out _ _ ⟨cell_at x0, cell_at x1, cell_at x2, cell_at x3⟩ (fun hHeld => ?_)
          clear hK K
          refine PrintLast.norm_ (a' := ?_) ?_ ?_
          rotate_left
          · (show Act.put _ (some 19) _ = _; simp only [Act.put, List.setIfInBounds_toArray, List.set_cons_zero, List.set_cons_succ, PrintLast.i64_w, PrintLast.i32_w]; rfl)
          refine PrintLast.one_ (i := 4) (N := (some 6)) #[true, true, true, true, true, true, false, false] rfl rfl (by kernel_rfl) (by decide) (fun K hK => ?_)
          refine PrintLast.value_ (w1 := ?_) (v := ?_) (by rfl) rfl ?_ ?_
          rotate_left 2
          · (go_simp; constructor <;> rfl)
          obtain ⟨u4, hu4⟩ : ∃ u4, u4 = u3.alloc (.cells #[.slice none 0 0, .int .i64 0, .slice none 0 0, .slice none 0 0] 28) := ⟨_, rfl⟩
          rw [← hu4]
          have hbc : Below u3.heap.size u3 u4 := by rw [hu4]; exact (Bel.alloc (w := u3) (W := u3)).out
          have HG6 : Hid (u4.heap[u3.heap.size]? = some (.cells #[.slice none 0 0, .int .i64 0, .slice none 0 0, .slice none 0 0] 28 (0, 0))) := by show _ = _; rw [hu4]; exact heap_alloc_new _ _
          haveI : Bel u3 u4 := Bel.step (w := u3) hbc
          haveI : Bel u2 u4 := Bel.step (w := u2) hbc
          haveI : Bel u1 u4 := Bel.step (w := u1) hbc
          haveI : Bel u0 u4 := Bel.step (w := u0) hbc
          haveI : Bel wa u4 := Bel.step (w := wa) hbc
          haveI : Bel w u4 := Bel.step (w := w) hbc
          clear hbc hu4
          refine hK.out _ _ ⟨cell_at x0, cell_at x1, cell_at x2, cell_at x3⟩ (fun hHeld => ?_)
          clear hK K
          refine PrintLast.norm_ (a' := ?_) ?_ ?_
          rotate_left
          · (show Act.put _ (some 6) _ = _; simp only [Act.put, List.setIfInBounds_toArray, List.set_cons_zero, List.set_cons_succ, PrintLast.i64_w, PrintLast.i32_w]; rfl)
          have s1 : u1.heap.size ≤ u2.heap.size := (Bel.out : Below u1.heap.size u1 u2).size
          have s2 : u3.heap.size ≤ u4.heap.size := (Bel.out : Below u3.heap.size u3 u4).size
          have s3 : wa.heap.size ≤ u0.heap.size := (Bel.out : Below wa.heap.size wa u0).size
          have s4 : wa.heap.size ≤ u3.heap.size := (Bel.out : Below wa.heap.size wa u3).size
          have s5 : wa.heap.size ≤ u1.heap.size := (Bel.out : Below wa.heap.size wa u1).size
          have s8 : u1.heap.size ≤ u4.heap.size := (Bel.out : Below u1.heap.size u1 u4).size
          have s9 : wa.heap.size ≤ u1.heap.size := (Bel.out : Below wa.heap.size wa u1).size
          have s6 : u2.heap.size ≤ u3.heap.size := (Bel.out : Below u2.heap.size u2 u3).size
          have s7 := (Array.getElem?_eq_some_iff.1 HG7.out).1
          have F1 := (HD1.out.kept (w1 := u4) (fun k _ hk => (Bel.out : Below u1.heap.size u1 u4).block k hk)).lo s3
          have F2 := ((HD2.out.kept (w1 := u4) (fun k _ hk => (Bel.out : Below u3.heap.size u3 u4).block k hk)).lo s1).hi s2
          exact PrintLast.norm_ (by simp only [PrintLast.putAll, Act.put, List.setIfInBounds_toArray, List.set_cons_zero, List.set_cons_succ, Two.v1, Two.v2]) (hCont ⟨B0, e0, B2, e2, B3, e3, C0, k0, C2, k2, C3, k3, u3.heap.size, u1.heap.size⟩ _ ⟨hHeld, ⟨Bel.out, block_at HG6.out, block_at HG7.out, by show u3.heap.size ≠ u1.heap.size; omega, by exact s4, by exact s5, ⟨u1.heap.size, f1, f2, s9, s8, F1, F2⟩⟩⟩)
        · skip
          refine PrintLast.value_ (w1 := ?_) (v := ?_) (by rfl) rfl ?_ ?_
          rotate_left 2
          · (go_simp; constructor <;> rfl)
          obtain ⟨u3, hu3⟩ : ∃ u3, u3 = u2.alloc (.cells #[.slice none 0 0, .int .i64 0, .slice none 0 0, .slice none 0 0] 28) := ⟨_, rfl⟩
          rw [← hu3]
          have hbc : Below u2.heap.size u2 u3 := by rw [hu3]; exact (Bel.alloc (w := u2) (W := u2)).out
          have HG6 : Hid (u3.heap[u2.heap.size]? = some (.cells #[.slice none 0 0, .int .i64 0, .slice none 0 0, .slice none 0 0] 28 (0, 0))) := by show _ = _; rw [hu3]; exact heap_alloc_new _ _
          haveI : Bel u2 u3 := Bel.step (w := u2) hbc
          haveI : Bel u1 u3 := Bel.step (w := u1) hbc
          haveI : Bel u0 u3 := Bel.step (w := u0) hbc
          haveI : Bel wa u3 := Bel.step (w := wa) hbc
          haveI : Bel w u3 := Bel.step (w := w) hbc
          clear hbc hu3
          refine hK.out _ _ ⟨cell_at x0, cell_at x1, cell_at x2, cell_at x3⟩ (fun hHeld => ?_)
          clear hK K
          refine PrintLast.norm_ (a' := ?_) ?_ ?_
          rotate_left
          · (show Act.put _ (some 6) _ = _; simp only [Act.put, List.setIfInBounds_toArray, List.set_cons_zero, List.set_cons_succ, PrintLast.i64_w, PrintLast.i32_w]; rfl)
          refine PrintLast.one_ (i := 3) (N := (some 19)) #[true, true, true, true, true, true, false, false] rfl rfl (by kernel_rfl) (by decide) (fun K hK => ?_)
          refine PrintLast.goes_ Tryd.func34 (by kernel_rfl) rfl #[.agg #[.slice A0 d.now.st.length c0, .int .i64 d.now.step, .slice A2 d.now.word.length c2, .slice A3 d.past.length c3]] (by rfl) rfl rfl (by (try simp only [List.map_toArray, List.map_cons, List.map_nil]); first | done | rfl) ?_
          refine (i_copyDesk _ d _ (DkI.mk i0.at i2.at i3.at) (by omega) (by omega) (by omega) (fun j hj => by have := HSM.out j hj; omega)).mono ?_
          rintro e u4 ⟨vc, rfl, ⟨f2, hDc⟩, hbc⟩
          obtain ⟨y0, y2, y3, rfl, hT0, hT2, hPs⟩ := hDc
          obtain ⟨C0, k0, rfl⟩ := hT0.ints.form
          obtain ⟨C2, k2, rfl⟩ := hT2.ints.form
          obtain ⟨C3, k3, rfl⟩ := hPs.pls.form
          have HD2 := Lib.hid (DkO.of hT0 hT2 hPs)
          refine ⟨_, rfl, ?_⟩
          haveI : Bel u3 u4 := Bel.step (w := u3) hbc
          haveI : Bel u2 u4 := Bel.step (w := u2) hbc
          haveI : Bel u1 u4 := Bel.step (w := u1) hbc
          haveI : Bel u0 u4 := Bel.step (w := u0) hbc
          haveI : Bel wa u4 := Bel.step (w := wa) hbc
          haveI : Bel w u4 := Bel.step (w := w) hbc
          clear hbc hT0 hT2 hPs
          refine hK.out _ _ ⟨cell_at x0, cell_at x1, cell_at x2, cell_at x3⟩ (fun hHeld => ?_)
          clear hK K
          refine PrintLast.norm_ (a' := ?_) ?_ ?_
          rotate_left
          · (show Act.put _ (some 19) _ = _; simp only [Act.put, List.setIfInBounds_toArray, List.set_cons_zero, List.set_cons_succ, PrintLast.i64_w, PrintLast.i32_w]; rfl)
          have s1 : u1.heap.size ≤ u3.heap.size := (Bel.out : Below u1.heap.size u1 u3).size
          have s2 : u4.heap.size ≤ u4.heap.size := (Bel.out : Below u4.heap.size u4 u4).size
          have s3 : wa.heap.size ≤ u0.heap.size := (Bel.out : Below wa.heap.size wa u0).size
          have s4 : wa.heap.size ≤ u2.heap.size := (Bel.out : Below wa.heap.size wa u2).size
          have s5 : wa.heap.size ≤ u1.heap.size := (Bel.out : Below wa.heap.size wa u1).size
          have s8 : u1.heap.size ≤ u4.heap.size := (Bel.out : Below u1.heap.size u1 u4).size
          have s9 : wa.heap.size ≤ u1.heap.size := (Bel.out : Below wa.heap.size wa u1).size
          have s6 : u2.heap.size ≤ u2.heap.size := (Bel.out : Below u2.heap.size u2 u2).size
          have s7 := (Array.getElem?_eq_some_iff.1 HG7.out).1
          have F1 := (HD1.out.kept (w1 := u4) (fun k _ hk => (Bel.out : Below u1.heap.size u1 u4).block k hk)).lo s3
          have F2 := ((HD2.out.kept (w1 := u4) (fun k _ hk => (Bel.out : Below u4.heap.size u4 u4).block k hk)).lo s1).hi s2
          exact PrintLast.norm_ (by simp only [PrintLast.putAll, Act.put, List.setIfInBounds_toArray, List.set_cons_zero, List.set_cons_succ, Two.v1, Two.v2]) (hCont ⟨B0, e0, B2, e2, B3, e3, C0, k0, C2, k2, C3, k3, u2.heap.size, u1.heap.size⟩ _ ⟨hHeld, ⟨Bel.out, block_at HG6.out, block_at HG7.out, by show u2.heap.size ≠ u1.heap.size; omega, by exact s4, by exact s5, ⟨u1.heap.size, f1, f2, s9, s8, F1, F2⟩⟩⟩)
    · skip
      refine PrintLast.value_ (w1 := ?_) (v := ?_) (by rfl) rfl ?_ ?_
      rotate_left 2
      · (go_simp; constructor <;> rfl)
      obtain ⟨u1, hu1⟩ : ∃ u1, u1 = u0.alloc (.cells #[.slice none 0 0, .int .i64 0, .slice none 0 0, .slice none 0 0] 28) := ⟨_, rfl⟩
      rw [← hu1]
      have hbc : Below u0.heap.size u0 u1 := by rw [hu1]; exact (Bel.alloc (w := u0) (W := u0)).out
      have HG6 : Hid (u1.heap[u0.heap.size]? = some (.cells #[.slice none 0 0, .int .i64 0, .slice none 0 0, .slice none 0 0] 28 (0, 0))) := by show _ = _; rw [hu1]; exact heap_alloc_new _ _
      haveI : Bel u0 u1 := Bel.step (w := u0) hbc
      haveI : Bel wa u1 := Bel.step (w := wa) hbc
      haveI : Bel w u1 := Bel.step (w := w) hbc
      clear hbc hu1
      refine hK.out _ _ ⟨cell_at x0, cell_at x1, cell_at x2, cell_at x3⟩ (fun hHeld => ?_)
      clear hK K
      refine PrintLast.norm_ (a' := ?_) ?_ ?_
      rotate_left
      · (show Act.put _ (some 6) _ = _; simp only [Act.put, List.setIfInBounds_toArray, List.set_cons_zero, List.set_cons_succ, PrintLast.i64_w, PrintLast.i32_w]; rfl)
      refine PrintLast.two_ (i := 1) (j := 5) (Ni := some 17) (Nj := some 7) #[true, true, true, false, true, false, false, false] #[true, false, true, false, true, true, false, false] rfl rfl rfl rfl (by kernel_rfl) (by decide) (by decide) (fun K hK => ?_) (fun K hK => ?_)
      · skip
        refine PrintLast.goes_ Tryd.func34 (by kernel_rfl) rfl #[.agg #[.slice A0 d.now.st.length c0, .int .i64 d.now.step, .slice A2 d.now.word.length c2, .slice A3 d.past.length c3]] (by rfl) rfl rfl (by (try simp only [List.map_toArray, List.map_cons, List.map_nil]); first | done | rfl) ?_
        refine (i_copyDesk _ d _ (DkI.mk i0.at i2.at i3.at) (by omega) (by omega) (by omega) (fun j hj => by have := HSM.out j hj; omega)).mono ?_
        rintro e u2 ⟨vc, rfl, ⟨f1, hDc⟩, hbc⟩
        obtain ⟨y0, y2, y3, rfl, hT0, hT2, hPs⟩ := hDc
        obtain ⟨B0, e0, rfl⟩ := hT0.ints.form
        obtain ⟨B2, e2, rfl⟩ := hT2.ints.form
        obtain ⟨B3, e3, rfl⟩ := hPs.pls.form
        have HD1 := Lib.hid (DkO.of hT0 hT2 hPs)
        refine ⟨_, rfl, ?_⟩
        haveI : Bel u1 u2 := Bel.step (w := u1) hbc
        haveI : Bel u0 u2 := Bel.step (w := u0) hbc
        haveI : Bel wa u2 := Bel.step (w := wa) hbc
        haveI : Bel w u2 := Bel.step (w := w) hbc
        clear hbc hT0 hT2 hPs
        refine hK.out _ _ ⟨cell_at x0, cell_at x1, cell_at x2, cell_at x3⟩ (fun hHeld => ?_)
        clear hK K
        refine PrintLast.norm_ (a' := ?_) ?_ ?_
        rotate_left
        · (show Act.put _ (some 17) _ = _; simp only [Act.put, List.setIfInBounds_toArray, List.set_cons_zero, List.set_cons_succ, PrintLast.i64_w, PrintLast.i32_w]; rfl)
        refine PrintLast.two_ (i := 3) (j := 5) (Ni := some 19) (Nj := some 7) #[true, true, true, true, true, false, false, false] #[true, true, true, false, true, true, false, false] rfl rfl rfl rfl (by kernel_rfl) (by decide) (by decide) (fun K hK => ?_) (fun K hK => ?_)
        · skip
          refine PrintLast.goes_ Tryd.func34 (by kernel_rfl) rfl #[.agg #[.slice A0 d.now.st.length c0, .int .i64 d.now.step, .slice A2 d.now.word.length c2, .slice A3 d.past.length c3]] (by rfl) rfl rfl (by (try simp only [List.map_toArray, List.map_cons, List.map_nil]); first | done | rfl) ?_
          refine (i_copyDesk _ d _ (DkI.mk i0.at i2.at i3.at) (by omega) (by omega) (by omega) (fun j hj => by have := HSM.out j hj; omega)).mono ?_
          rintro e u3 ⟨vc, rfl, ⟨f2, hDc⟩, hbc⟩
          obtain ⟨y0, y2, y3, rfl, hT0, hT2, hPs⟩ := hDc
          obtain ⟨C0, k0, rfl⟩ := hT0.ints.form
          obtain ⟨C2, k2, rfl⟩ := hT2.ints.form
          obtain ⟨C3, k3, rfl⟩ := hPs.pls.form
          have HD2 := Lib.hid (DkO.of hT0 hT2 hPs)
          refine ⟨_, rfl, ?_⟩
          haveI : Bel u2 u3 := Bel.step (w := u2) hbc
          haveI : Bel u1 u3 := Bel.step (w := u1) hbc
          haveI : Bel u0 u3 := Bel.step (w := u0) hbc
          haveI : Bel wa u3 := Bel.step (w := wa) hbc
          haveI : Bel w u3 := Bel.step (w := w) hbc
          clear hbc hT0 hT2 hPs
          refine hK.out _ _ ⟨cell_at x0, cell_at x1, cell_at x2, cell_at x3⟩ (fun hHeld => ?_)
          clear hK K
          refine PrintLast.norm_ (a' := ?_) ?_ ?_
          rotate_left
          · (show Act.put _ (some 19) _ = _; simp only [Act.put, List.setIfInBounds_toArray, List.set_cons_zero, List.set_cons_succ, PrintLast.i64_w, PrintLast.i32_w]; rfl)
          refine PrintLast.one_ (i := 5) (N := (some 7)) #[true, true, true, true, true, true, false, false] rfl rfl (by kernel_rfl) (by decide) (fun K hK => ?_)
          refine PrintLast.value_ (w1 := ?_) (v := ?_) (by rfl) rfl ?_ ?_
          rotate_left 2
          · (go_simp; constructor <;> rfl)
          obtain ⟨u4, hu4⟩ : ∃ u4, u4 = u3.alloc (.cells #[.slice none 0 0, .int .i64 0, .slice none 0 0, .slice none 0 0] 28) := ⟨_, rfl⟩
          rw [← hu4]
          have hbc : Below u3.heap.size u3 u4 := by rw [hu4]; exact (Bel.alloc (w := u3) (W := u3)).out
          have HG7 : Hid (u4.heap[u3.heap.size]? = some (.cells #[.slice none 0 0, .int .i64 0, .slice none 0 0, .slice none 0 0] 28 (0, 0))) := by show _ = _; rw [hu4]; exact heap_alloc_new _ _
          haveI : Bel u3 u4 := Bel.step (w := u3) hbc
          haveI : Bel u2 u4 := Bel.step (w := u2) hbc
          haveI : Bel u1 u4 := Bel.step (w := u1) hbc
          haveI : Bel u0 u4 := Bel.step (w := u0) hbc
          haveI : Bel wa u4 := Bel.step (w := wa) hbc
          haveI : Bel w u4 := Bel.step (w := w) hbc
          clear hbc hu4
          refine hK.out _ _ ⟨cell_at x0, cell_at x1, cell_at x2, cell_at x3⟩ (fun hHeld => ?_)
          clear hK K
          refine PrintLast.norm_ (a' := ?_) ?_ ?_
          rotate_left
          · (show Act.put _ (some 7) _ = _; simp only [Act.put, List.setIfInBounds_toArray, List.set_cons_zero, List.set_cons_succ, PrintLast.i64_w, PrintLast.i32_w]; rfl)
          have s1 : u2.heap.size ≤ u2.heap.size := (Bel.out : Below u2.heap.size u2 u2).size
          have s2 : u3.heap.size ≤ u4.heap.size := (Bel.out : Below u3.heap.size u3 u4).size
          have s3 : wa.heap.size ≤ u1.heap.size := (Bel.out : Below wa.heap.size wa u1).size
          have s4 : wa.heap.size ≤ u0.heap.size := (Bel.out : Below wa.heap.size wa u0).size
          have s5 : wa.heap.size ≤ u3.heap.size := (Bel.out : Below wa.heap.size wa u3).size
          have s8 : u2.heap.size ≤ u4.heap.size := (Bel.out : Below u2.heap.size u2 u4).size
          have s9 : wa.heap.size ≤ u2.heap.size := (Bel.out : Below wa.heap.size wa u2).size
          have s6 : u1.heap.size ≤ u3.heap.size := (Bel.out : Below u1.heap.size u1 u3).size
          have s7 := (Array.getElem?_eq_some_iff.1 HG6.out).1
          have F1 := (HD1.out.kept (w1 := u4) (fun k _ hk => (Bel.out : Below u2.heap.size u2 u4).block k hk)).lo s3
          have F2 := ((HD2.out.kept (w1 := u4) (fun k _ hk => (Bel.out : Below u3.heap.size u3 u4).block k hk)).lo s1).hi s2
          exact PrintLast.norm_ (by simp only [PrintLast.putAll, Act.put, List.setIfInBounds_toArray, List.set_cons_zero, List.set_cons_succ, Two.v1, Two.v2]) (hCont ⟨B0, e0, B2, e2, B3, e3, C0, k0, C2, k2, C3, k3, u0.heap.size, u3.heap.size⟩ _ ⟨hHeld, ⟨Bel.out, block_at HG6.out, block_at HG7.out, by show u0.heap.size ≠ u3.heap.size; omega, by exact s4, by exact s5, ⟨u2.heap.size, f1, f2, s9, s8, F1, F2⟩⟩⟩)
        · skip
          refine PrintLast.value_ (w1 := ?_) (v := ?_) (by rfl) rfl ?_ ?_
          rotate_left 2
          · (go_simp; constructor <;> rfl)
          obtain ⟨u3, hu3⟩ : ∃ u3, u3 = u2.alloc (.cells #[.slice none 0 0, .int .i64 0, .slice none 0 0, .slice none 0 0] 28) := ⟨_, rfl⟩
          rw [← hu3]
          have hbc : Below u2.heap.size u2 u3 := by rw [hu3]; exact (Bel.alloc (w := u2) (W := u2)).out
          have HG7 : Hid (u3.heap[u2.heap.size]? = some (.cells #[.slice none 0 0, .int .i64 0, .slice none 0 0, .slice none 0 0] 28 (0, 0))) := by show _ = _; rw [hu3]; exact heap_alloc_new _ _
          haveI : Bel u2 u3 := Bel.step (w := u2) hbc
          haveI : Bel u1 u3 := Bel.step (w := u1) hbc
          haveI : Bel u0 u3 := Bel.step (w := u0) hbc
          haveI : Bel wa u3 := Bel.step (w := wa) hbc
          haveI : Bel w u3 := Bel.step (w := w) hbc
          clear hbc hu3
          refine hK.out _ _ ⟨cell_at x0, cell_at x1, cell_at x2, cell_at x3⟩ (fun hHeld => ?_)
          clear hK K
          refine PrintLast.norm_ (a' := ?_) ?_ ?_
          rotate_left
          · (show Act.put _ (some 7) _ = _; simp only [Act.put, List.setIfInBounds_toArray, List.set_cons_zero, List.set_cons_succ, PrintLast.i64_w, PrintLast.i32_w]; rfl)
          refine PrintLast.one_ (i := 3) (N := (some 19)) #[true, true, true, true, true, true, false, false] rfl rfl (by kernel_rfl) (by decide) (fun K hK => ?_)
          refine PrintLast.goes_ Tryd.func34 (by kernel_rfl) rfl #[.agg #[.slice A0 d.now.st.length c0, .int .i64 d.now.step, .slice A2 d.now.word.length c2, .slice A3 d.past.length c3]] (by rfl) rfl rfl (by (try simp only [List.map_toArray, List.map_cons, List.map_nil]); first | done | rfl) ?_
          refine (i_copyDesk _ d _ (DkI.mk i0.at i2.at i3.at) (by omega) (by omega) (by omega) (fun j hj => by have := HSM.out j hj; omega)).mono ?_
          rintro e u4 ⟨vc, rfl, ⟨f2, hDc⟩, hbc⟩
          obtain ⟨y0, y2, y3, rfl, hT0, hT2, hPs⟩ := hDc
          obtain ⟨C0, k0, rfl⟩ := hT0.ints.form
          obtain ⟨C2, k2, rfl⟩ := hT2.ints.form
          obtain ⟨C3, k3, rfl⟩ := hPs.pls.form
          have HD2 := Lib.hid (DkO.of hT0 hT2 hPs)
          refine ⟨_, rfl, ?_⟩
          haveI : Bel u3 u4 := Bel.step (w := u3) hbc
          haveI : Bel u2 u4 := Bel.step (w := u2) hbc
          haveI : Bel u1 u4 := Bel.step (w := u1) hbc
          haveI : Bel u0 u4 := Bel.step (w := u0) hbc
          haveI : Bel wa u4 := Bel.step (w := wa) hbc
          haveI : Bel w u4 := Bel.step (w := w) hbc
          clear hbc hT0 hT2 hPs
          refine hK.out _ _ ⟨cell_at x0, cell_at x1, cell_at x2, cell_at x3⟩ (fun hHeld => ?_)
          clear hK K
          refine PrintLast.norm_ (a' := ?_) ?_ ?_
          rotate_left
          · (show Act.put _ (some 19) _ = _; simp only [Act.put, List.setIfInBounds_toArray, List.set_cons_zero, List.set_cons_succ, PrintLast.i64_w, PrintLast.i32_w]; rfl)
          have s1 : u2.heap.size ≤ u3.heap.size := (Bel.out : Below u2.heap.size u2 u3).size
          have s2 : u4.heap.size ≤ u4.heap.size := (Bel.out : Below u4.heap.size u4 u4).size
          have s3 : wa.heap.size ≤ u1.heap.size := (Bel.out : Below wa.heap.size wa u1).size
          have s4 : wa.heap.size ≤ u0.heap.size := (Bel.out : Below wa.heap.size wa u0).size
          have s5 : wa.heap.size ≤ u2.heap.size := (Bel.out : Below wa.heap.size wa u2).size
          have s8 : u2.heap.size ≤ u4.heap.size := (Bel.out : Below u2.heap.size u2 u4).size
          have s9 : wa.heap.size ≤ u2.heap.size := (Bel.out : Below wa.heap.size wa u2).size
          have s6 : u1.heap.size ≤ u2.heap.size := (Bel.out : Below u1.heap.size u1 u2).size
          have s7 := (Array.getElem?_eq_some_iff.1 HG6.out).1
          have F1 := (HD1.out.kept (w1 := u4) (fun k _ hk => (Bel.out : Below u2.heap.size u2 u4).block k hk)).lo s3
          have F2 := ((HD2.out.kept (w1 := u4) (fun k _ hk => (Bel.out : Below u4.heap.size u4 u4).block k hk)).lo s1).hi s2
          exact PrintLast.norm_ (by simp only [PrintLast.putAll, Act.put, List.setIfInBounds_toArray, List.set_cons_zero, List.set_cons_succ, Two.v1, Two.v2]) (hCont ⟨B0, e0, B2, e2, B3, e3, C0, k0, C2, k2, C3, k3, u0.heap.size, u2.heap.size⟩ _ ⟨hHeld, ⟨Bel.out, block_at HG6.out, block_at HG7.out, by show u0.heap.size ≠ u2.heap.size; omega, by exact s4, by exact s5, ⟨u2.heap.size, f1, f2, s9, s8, F1, F2⟩⟩⟩)
      · skip
        refine PrintLast.value_ (w1 := ?_) (v := ?_) (by rfl) rfl ?_ ?_
        rotate_left 2
        · (go_simp; constructor <;> rfl)
        obtain ⟨u2, hu2⟩ : ∃ u2, u2 = u1.alloc (.cells #[.slice none 0 0, .int .i64 0, .slice none 0 0, .slice none 0 0] 28) := ⟨_, rfl⟩
        rw [← hu2]
        have hbc : Below u1.heap.size u1 u2 := by rw [hu2]; exact (Bel.alloc (w := u1) (W := u1)).out
        have HG7 : Hid (u2.heap[u1.heap.size]? = some (.cells #[.slice none 0 0, .int .i64 0, .slice none 0 0, .slice none 0 0] 28 (0, 0))) := by show _ = _; rw [hu2]; exact heap_alloc_new _ _
        haveI : Bel u1 u2 := Bel.step (w := u1) hbc
        haveI : Bel u0 u2 := Bel.step (w := u0) hbc
        haveI : Bel wa u2 := Bel.step (w := wa) hbc
        haveI : Bel w u2 := Bel.step (w := w) hbc
        clear hbc hu2
        refine hK.out _ _ ⟨cell_at x0, cell_at x1, cell_at x2, cell_at x3⟩ (fun hHeld => ?_)
        clear hK K
        refine PrintLast.norm_ (a' := ?_) ?_ ?_
        rotate_left
        · (show Act.put _ (some 7) _ = _; simp only [Act.put, List.setIfInBounds_toArray, List.set_cons_zero, List.set_cons_succ, PrintLast.i64_w, PrintLast.i32_w]; rfl)
        refine PrintLast.one_ (i := 1) (N := (some 17)) #[true, true, true, false, true, true, false, false] rfl rfl (by kernel_rfl) (by decide) (fun K hK => ?_)
        refine PrintLast.goes_ Tryd.func34 (by kernel_rfl) rfl #[.agg #[.slice A0 d.now.st.length c0, .int .i64 d.now.step, .slice A2 d.now.word.length c2, .slice A3 d.past.length c3]] (by rfl) rfl rfl (by (try simp only [List.map_toArray, List.map_cons, List.map_nil]); first | done | rfl) ?_
        refine (i_copyDesk _ d _ (DkI.mk i0.at i2.at i3.at) (by omega) (by omega) (by omega) (fun j hj => by have := HSM.out j hj; omega)).mono ?_
        rintro e u3 ⟨vc, rfl, ⟨f1, hDc⟩, hbc⟩
        obtain ⟨y0, y2, y3, rfl, hT0, hT2, hPs⟩ := hDc
        obtain ⟨B0, e0, rfl⟩ := hT0.ints.form
        obtain ⟨B2, e2, rfl⟩ := hT2.ints.form
        obtain ⟨B3, e3, rfl⟩ := hPs.pls.form
        have HD1 := Lib.hid (DkO.of hT0 hT2 hPs)
        refine ⟨_, rfl, ?_⟩
        haveI : Bel u2 u3 := Bel.step (w := u2) hbc
        haveI : Bel u1 u3 := Bel.step (w := u1) hbc
        haveI : Bel u0 u3 := Bel.step (w := u0) hbc
        haveI : Bel wa u3 := Bel.step (w := wa) hbc
        haveI : Bel w u3 := Bel.step (w := w) hbc
        clear hbc hT0 hT2 hPs
        refine hK.out _ _ ⟨cell_at x0, cell_at x1, cell_at x2, cell_at x3⟩ (fun hHeld => ?_)
        clear hK K
        refine PrintLast.norm_ (a' := ?_) ?_ ?_
        rotate_left
        · (show Act.put _ (some 17) _ = _; simp only [Act.put, List.setIfInBounds_toArray, List.set_cons_zero, List.set_cons_succ, PrintLast.i64_w, PrintLast.i32_w]; rfl)
        refine PrintLast.one_ (i := 3) (N := (some 19)) #[true, true, true, true, true, true, false, false] rfl rfl (by kernel_rfl) (by decide) (fun K hK => ?_)
        refine PrintLast.goes_ Tryd.func34 (by kernel_rfl) rfl #[.agg #[.slice A0 d.now.st.length c0, .int .i64 d.now.step, .slice A2 d.now.word.length c2, .slice A3 d.past.length c3]] (by rfl) rfl rfl (by (try simp only [List.map_toArray, List.map_cons, List.map_nil]); first | done | rfl) ?_
        refine (i_copyDesk _ d _ (DkI.mk i0.at i2.at i3.at) (by omega) (by omega) (by omega) (fun j hj => by have := HSM.out j hj; omega)).mono ?_
        rintro e u4 ⟨vc, rfl, ⟨f2, hDc⟩, hbc⟩
        obtain ⟨y0, y2, y3, rfl, hT0, hT2, hPs⟩ := hDc
        obtain ⟨C0, k0, rfl⟩ := hT0.ints.form
        obtain ⟨C2, k2, rfl⟩ := hT2.ints.form
        obtain ⟨C3, k3, rfl⟩ := hPs.pls.form
        have HD2 := Lib.hid (DkO.of hT0 hT2 hPs)
        refine ⟨_, rfl, ?_⟩
        haveI : Bel u3 u4 := Bel.step (w := u3) hbc
        haveI : Bel u2 u4 := Bel.step (w := u2) hbc
        haveI : Bel u1 u4 := Bel.step (w := u1) hbc
        haveI : Bel u0 u4 := Bel.step (w := u0) hbc
        haveI : Bel wa u4 := Bel.step (w := wa) hbc
        haveI : Bel w u4 := Bel.step (w := w) hbc
        clear hbc hT0 hT2 hPs
        refine hK.out _ _ ⟨cell_at x0, cell_at x1, cell_at x2, cell_at x3⟩ (fun hHeld => ?_)
        clear hK K
        refine PrintLast.norm_ (a' := ?_) ?_ ?_
        rotate_left
        · (show Act.put _ (some 19) _ = _; simp only [Act.put, List.setIfInBounds_toArray, List.set_cons_zero, List.set_cons_succ, PrintLast.i64_w, PrintLast.i32_w]; rfl)
        have s1 : u3.heap.size ≤ u3.heap.size := (Bel.out : Below u3.heap.size u3 u3).size
        have s2 : u4.heap.size ≤ u4.heap.size := (Bel.out : Below u4.heap.size u4 u4).size
        have s3 : wa.heap.size ≤ u2.heap.size := (Bel.out : Below wa.heap.size wa u2).size
        have s4 : wa.heap.size ≤ u0.heap.size := (Bel.out : Below wa.heap.size wa u0).size
        have s5 : wa.heap.size ≤ u1.heap.size := (Bel.out : Below wa.heap.size wa u1).size
        have s8 : u3.heap.size ≤ u4.heap.size := (Bel.out : Below u3.heap.size u3 u4).size
        have s9 : wa.heap.size ≤ u3.heap.size := (Bel.out : Below wa.heap.size wa u3).size
        have s6 : u1.heap.size ≤ u1.heap.size := (Bel.out : Below u1.heap.size u1 u1).size
        have s7 := (Array.getElem?_eq_some_iff.1 HG6.out).1
        have F1 := (HD1.out.kept (w1 := u4) (fun k _ hk => (Bel.out : Below u3.heap.size u3 u4).block k hk)).lo s3
        have F2 := ((HD2.out.kept (w1 := u4) (fun k _ hk => (Bel.out : Below u4.heap.size u4 u4).block k hk)).lo s1).hi s2
        exact PrintLast.norm_ (by simp only [PrintLast.putAll, Act.put, List.setIfInBounds_toArray, List.set_cons_zero, List.set_cons_succ, Two.v1, Two.v2]) (hCont ⟨B0, e0, B2, e2, B3, e3, C0, k0, C2, k2, C3, k3, u0.heap.size, u1.heap.size⟩ _ ⟨hHeld, ⟨Bel.out, block_at HG6.out, block_at HG7.out, by show u0.heap.size ≠ u1.heap.size; omega, by exact s4, by exact s5, ⟨u3.heap.size, f1, f2, s9, s8, F1, F2⟩⟩⟩)
    · skip
      refine PrintLast.value_ (w1 := ?_) (v := ?_) (by rfl) rfl ?_ ?_
      rotate_left 2
      · (go_simp; constructor <;> rfl)
      obtain ⟨u1, hu1⟩ : ∃ u1, u1 = u0.alloc (.cells #[.slice none 0 0, .int .i64 0, .slice none 0 0, .slice none 0 0] 28) := ⟨_, rfl⟩
      rw [← hu1]
      have hbc : Below u0.heap.size u0 u1 := by rw [hu1]; exact (Bel.alloc (w := u0) (W := u0)).out
      have HG7 : Hid (u1.heap[u0.heap.size]? = some (.cells #[.slice none 0 0, .int .i64 0, .slice none 0 0, .slice none 0 0] 28 (0, 0))) := by show _ = _; rw [hu1]; exact heap_alloc_new _ _
      haveI : Bel u0 u1 := Bel.step (w := u0) hbc
      haveI : Bel wa u1 := Bel.step (w := wa) hbc
      haveI : Bel w u1 := Bel.step (w := w) hbc
      clear hbc hu1
      refine hK.out _ _ ⟨cell_at x0, cell_at x1, cell_at x2, cell_at x3⟩ (fun hHeld => ?_)
      clear hK K
      refine PrintLast.norm_ (a' := ?_) ?_ ?_
      rotate_left
      · (show Act.put _ (some 7) _ = _; simp only [Act.put, List.setIfInBounds_toArray, List.set_cons_zero, List.set_cons_succ, PrintLast.i64_w, PrintLast.i32_w]; rfl)
      refine PrintLast.two_ (i := 1) (j := 4) (Ni := some 17) (Nj := some 6) #[true, true, true, false, false, true, false, false] #[true, false, true, false, true, true, false, false] rfl rfl rfl rfl (by kernel_rfl) (by decide) (by decide) (fun K hK => ?_) (fun K hK => ?_)
      · skip
        refine PrintLast.goes_ Tryd.func34 (by kernel_rfl) rfl #[.agg #[.slice A0 d.now.st.length c0, .int .i64 d.now.step, .slice A2 d.now.word.length c2, .slice A3 d.past.length c3]] (by rfl) rfl rfl (by (try simp only [List.map_toArray, List.map_cons, List.map_nil]); first | done | rfl) ?_
        refine (i_copyDesk _ d _ (DkI.mk i0.at i2.at i3.at) (by omega) (by omega) (by omega) (fun j hj => by have := HSM.out j hj; omega)).mono ?_
        rintro e u2 ⟨vc, rfl, ⟨f1, hDc⟩, hbc⟩
        obtain ⟨y0, y2, y3, rfl, hT0, hT2, hPs⟩ := hDc
        obtain ⟨B0, e0, rfl⟩ := hT0.ints.form
        obtain ⟨B2, e2, rfl⟩ := hT2.ints.form
        obtain ⟨B3, e3, rfl⟩ := hPs.pls.form
        have HD1 := Lib.hid (DkO.of hT0 hT2 hPs)
        refine ⟨_, rfl, ?_⟩
        haveI : Bel u1 u2 := Bel.step (w := u1) hbc
        haveI : Bel u0 u2 := Bel.step (w := u0) hbc
        haveI : Bel wa u2 := Bel.step (w := wa) hbc
        haveI : Bel w u2 := Bel.step (w := w) hbc
        clear hbc hT0 hT2 hPs
        refine hK.out _ _ ⟨cell_at x0, cell_at x1, cell_at x2, cell_at x3⟩ (fun hHeld => ?_)
        clear hK K
        refine PrintLast.norm_ (a' := ?_) ?_ ?_
        rotate_left
        · (show Act.put _ (some 17) _ = _; simp only [Act.put, List.setIfInBounds_toArray, List.set_cons_zero, List.set_cons_succ, PrintLast.i64_w, PrintLast.i32_w]; rfl)
        refine PrintLast.two_ (i := 3) (j := 4) (Ni := some 19) (Nj := some 6) #[true, true, true, true, false, true, false, false] #[true, true, true, false, true, true, false, false] rfl rfl rfl rfl (by kernel_rfl) (by decide) (by decide) (fun K hK => ?_) (fun K hK => ?_)
        · skip
          refine PrintLast.goes_ Tryd.func34 (by kernel_rfl) rfl #[.agg #[.slice A0 d.now.st.length c0, .int .i64 d.now.step, .slice A2 d.now.word.length c2, .slice A3 d.past.length c3]] (by rfl) rfl rfl (by (try simp only [List.map_toArray, List.map_cons, List.map_nil]); first | done | rfl) ?_
          refine (i_copyDesk _ d _ (DkI.mk i0.at i2.at i3.at) (by omega) (by omega) (by omega) (fun j hj => by have := HSM.out j hj; omega)).mono ?_
          rintro e u3 ⟨vc, rfl, ⟨f2, hDc⟩, hbc⟩
          obtain ⟨y0, y2, y3, rfl, hT0, hT2, hPs⟩ := hDc
          obtain ⟨C0, k0, rfl⟩ := hT0.ints.form
          obtain ⟨C2, k2, rfl⟩ := hT2.ints.form
          obtain ⟨C3, k3, rfl⟩ := hPs.pls.form
          have HD2 := Lib.hid (DkO.of hT0 hT2 hPs)
          refine ⟨_, rfl, ?_⟩
          haveI : Bel u2 u3 := Bel.step (w := u2) hbc
          haveI : Bel u1 u3 := Bel.step (w := u1) hbc
          haveI : Bel u0 u3 := Bel.step (w := u0) hbc
          haveI : Bel wa u3 := Bel.step (w := wa) hbc
          haveI : Bel w u3 := Bel.step (w := w) hbc
          clear hbc hT0 hT2 hPs
          refine hK.out _ _ ⟨cell_at x0, cell_at x1, cell_at x2, cell_at x3⟩ (fun hHeld => ?_)
          clear hK K
          refine PrintLast.norm_ (a' := ?_) ?_ ?_
          rotate_left
          · (show Act.put _ (some 19) _ = _; simp only [Act.put, List.setIfInBounds_toArray, List.set_cons_zero, List.set_cons_succ, PrintLast.i64_w, PrintLast.i32_w]; rfl)
          refine PrintLast.one_ (i := 4) (N := (some 6)) #[true, true, true, true, true, true, false, false] rfl rfl (by kernel_rfl) (by decide) (fun K hK => ?_)
          refine PrintLast.value_ (w1 := ?_) (v := ?_) (by rfl) rfl ?_ ?_
          rotate_left 2
          · (go_simp; constructor <;> rfl)
          obtain ⟨u4, hu4⟩ : ∃ u4, u4 = u3.alloc (.cells #[.slice none 0 0, .int .i64 0, .slice none 0 0, .slice none 0 0] 28) := ⟨_, rfl⟩
          rw [← hu4]
          have hbc : Below u3.heap.size u3 u4 := by rw [hu4]; exact (Bel.alloc (w := u3) (W := u3)).out
          have HG6 : Hid (u4.heap[u3.heap.size]? = some (.cells #[.slice none 0 0, .int .i64 0, .slice none 0 0, .slice none 0 0] 28 (0, 0))) := by show _ = _; rw [hu4]; exact heap_alloc_new _ _
          haveI : Bel u3 u4 := Bel.step (w := u3) hbc
          haveI : Bel u2 u4 := Bel.step (w := u2) hbc
          haveI : Bel u1 u4 := Bel.step (w := u1) hbc
          haveI : Bel u0 u4 := Bel.step (w := u0) hbc
          haveI : Bel wa u4 := Bel.step (w := wa) hbc
          haveI : Bel w u4 := Bel.step (w := w) hbc
          clear hbc hu4
          refine hK.out _ _ ⟨cell_at x0, cell_at x1, cell_at x2, cell_at x3⟩ (fun hHeld => ?_)
          clear hK K
          refine PrintLast.norm_ (a' := ?_) ?_ ?_
          rotate_left
          · (show Act.put _ (some 6) _ = _; simp only [Act.put, List.setIfInBounds_toArray, List.set_cons_zero, List.set_cons_succ, PrintLast.i64_w, PrintLast.i32_w]; rfl)
          have s1 : u2.heap.size ≤ u2.heap.size := (Bel.out : Below u2.heap.size u2 u2).size
          have s2 : u3.heap.size ≤ u4.heap.size := (Bel.out : Below u3.heap.size u3 u4).size
          have s3 : wa.heap.size ≤ u1.heap.size := (Bel.out : Below wa.heap.size wa u1).size
          have s4 : wa.heap.size ≤ u3.heap.size := (Bel.out : Below wa.heap.size wa u3).size
          have s5 : wa.heap.size ≤ u0.heap.size := (Bel.out : Below wa.heap.size wa u0).size
          have s8 : u2.heap.size ≤ u4.heap.size := (Bel.out : Below u2.heap.size u2 u4).size
          have s9 : wa.heap.size ≤ u2.heap.size := (Bel.out : Below wa.heap.size wa u2).size
          have s6 : u1.heap.size ≤ u3.heap.size := (Bel.out : Below u1.heap.size u1 u3).size
          have s7 := (Array.getElem?_eq_some_iff.1 HG7.out).1
          have F1 := (HD1.out.kept (w1 := u4) (fun k _ hk => (Bel.out : Below u2.heap.size u2 u4).block k hk)).lo s3
          have F2 := ((HD2.out.kept (w1 := u4) (fun k _ hk => (Bel.out : Below u3.heap.size u3 u4).block k hk)).lo s1).hi s2
          exact PrintLast.norm_ (by simp only [PrintLast.putAll, Act.put, List.setIfInBounds_toArray, List.set_cons_zero, List.set_cons_succ, Two.v1, Two.v2]) (hCont ⟨B0, e0, B2, e2, B3, e3, C0, k0, C2, k2, C3, k3, u3.heap.size, u0.heap.size⟩ _ ⟨hHeld, ⟨Bel.out, block_at HG6.out, block_at HG7.out, by show u3.heap.size ≠ u0.heap.size; omega, by exact s4, by exact s5, ⟨u2.heap.size, f1, f2, s9, s8, F1, F2⟩⟩⟩)
        · skip
          refine PrintLast.value_ (w1 := ?_) (v := ?_) (by rfl) rfl ?_ ?_
          rotate_left 2
          · (go_simp; constructor <;> rfl)
          obtain ⟨u3, hu3⟩ : ∃ u3, u3 = u2.alloc (.cells #[.slice none 0 0, .int .i64 0, .slice none 0 0, .slice none 0 0] 28) := ⟨_, rfl⟩
          rw [← hu3]
          have hbc : Below u2.heap.size u2 u3 := by rw [hu3]; exact (Bel.alloc (w := u2) (W := u2)).out
          have HG6 : Hid (u3.heap[u2.heap.size]? = some (.cells #[.slice none 0 0, .int .i64 0, .slice none 0 0, .slice none 0 0] 28 (0, 0))) := by show _ = _; rw [hu3]; exact heap_alloc_new _ _
          haveI : Bel u2 u3 := Bel.step (w := u2) hbc
          haveI : Bel u1 u3 := Bel.step (w := u1) hbc
          haveI : Bel u0 u3 := Bel.step (w := u0) hbc
          haveI : Bel wa u3 := Bel.step (w := wa) hbc
          haveI : Bel w u3 := Bel.step (w := w) hbc
          clear hbc hu3
          refine hK.out _ _ ⟨cell_at x0, cell_at x1, cell_at x2, cell_at x3⟩ (fun hHeld => ?_)
          clear hK K
          refine PrintLast.norm_ (a' := ?_) ?_ ?_
          rotate_left
          · (show Act.put _ (some 6) _ = _; simp only [Act.put, List.setIfInBounds_toArray, List.set_cons_zero, List.set_cons_succ, PrintLast.i64_w, PrintLast.i32_w]; rfl)
          refine PrintLast.one_ (i := 3) (N := (some 19)) #[true, true, true, true, true, true, false, false] rfl rfl (by kernel_rfl) (by decide) (fun K hK => ?_)
          refine PrintLast.goes_ Tryd.func34 (by kernel_rfl) rfl #[.agg #[.slice A0 d.now.st.length c0, .int .i64 d.now.step, .slice A2 d.now.word.length c2, .slice A3 d.past.length c3]] (by rfl) rfl rfl (by (try simp only [List.map_toArray, List.map_cons, List.map_nil]); first | done | rfl) ?_
          refine (i_copyDesk _ d _ (DkI.mk i0.at i2.at i3.at) (by omega) (by omega) (by omega) (fun j hj => by have := HSM.out j hj; omega)).mono ?_
          rintro e u4 ⟨vc, rfl, ⟨f2, hDc⟩, hbc⟩
          obtain ⟨y0, y2, y3, rfl, hT0, hT2, hPs⟩ := hDc
          obtain ⟨C0, k0, rfl⟩ := hT0.ints.form
          obtain ⟨C2, k2, rfl⟩ := hT2.ints.form
          obtain ⟨C3, k3, rfl⟩ := hPs.pls.form
          have HD2 := Lib.hid (DkO.of hT0 hT2 hPs)
          refine ⟨_, rfl, ?_⟩
          haveI : Bel u3 u4 := Bel.step (w := u3) hbc
          haveI : Bel u2 u4 := Bel.step (w := u2) hbc
          haveI : Bel u1 u4 := Bel.step (w := u1) hbc
          haveI : Bel u0 u4 := Bel.step (w := u0) hbc
          haveI : Bel wa u4 := Bel.step (w := wa) hbc
          haveI : Bel w u4 := Bel.step (w := w) hbc
          clear hbc hT0 hT2 hPs
          refine hK.out _ _ ⟨cell_at x0, cell_at x1, cell_at x2, cell_at x3⟩ (fun hHeld => ?_)
          clear hK K
          refine PrintLast.norm_ (a' := ?_) ?_ ?_
          rotate_left
          · (show Act.put _ (some 19) _ = _; simp only [Act.put, List.setIfInBounds_toArray, List.set_cons_zero, List.set_cons_succ, PrintLast.i64_w, PrintLast.i32_w]; rfl)
          have s1 : u2.heap.size ≤ u3.heap.size := (Bel.out : Below u2.heap.size u2 u3).size
          have s2 : u4.heap.size ≤ u4.heap.size := (Bel.out : Below u4.heap.size u4 u4).size
          have s3 : wa.heap.size ≤ u1.heap.size := (Bel.out : Below wa.heap.size wa u1).size
          have s4 : wa.heap.size ≤ u2.heap.size := (Bel.out : Below wa.heap.size wa u2).size
          have s5 : wa.heap.size ≤ u0.heap.size := (Bel.out : Below wa.heap.size wa u0).size
          have s8 : u2.heap.size ≤ u4.heap.size := (Bel.out : Below u2.heap.size u2 u4).size
          have s9 : wa.heap.size ≤ u2.heap.size := (Bel.out : Below wa.heap.size wa u2).size
          have s6 : u1.heap.size ≤ u2.heap.size := (Bel.out : Below u1.heap.size u1 u2).size
          have s7 := (Array.getElem?_eq_some_iff.1 HG7.out).1
          have F1 := (HD1.out.kept (w1 := u4) (fun k _ hk => (Bel.out : Below u2.heap.size u2 u4).block k hk)).lo s3
          have F2 := ((HD2.out.kept (w1 := u4) (fun k _ hk => (Bel.out : Below u4.heap.size u4 u4).block k hk)).lo s1).hi s2
          exact PrintLast.norm_ (by simp only [PrintLast.putAll, Act.put, List.setIfInBounds_toArray, List.set_cons_zero, List.set_cons_succ, Two.v1, Two.v2]) (hCont ⟨B0, e0, B2, e2, B3, e3, C0, k0, C2, k2, C3, k3, u2.heap.size, u0.heap.size⟩ _ ⟨hHeld, ⟨Bel.out, block_at HG6.out, block_at HG7.out, by show u2.heap.size ≠ u0.heap.size; omega, by exact s4, by exact s5, ⟨u2.heap.size, f1, f2, s9, s8, F1, F2⟩⟩⟩)
      · skip
        refine PrintLast.value_ (w1 := ?_) (v := ?_) (by rfl) rfl ?_ ?_
        rotate_left 2
        · (go_simp; constructor <;> rfl)
        obtain ⟨u2, hu2⟩ : ∃ u2, u2 = u1.alloc (.cells #[.slice none 0 0, .int .i64 0, .slice none 0 0, .slice none 0 0] 28) := ⟨_, rfl⟩
        rw [← hu2]
        have hbc : Below u1.heap.size u1 u2 := by rw [hu2]; exact (Bel.alloc (w := u1) (W := u1)).out
        have HG6 : Hid (u2.heap[u1.heap.size]? = some (.cells #[.slice none 0 0, .int .i64 0, .slice none 0 0, .slice none 0 0] 28 (0, 0))) := by show _ = _; rw [hu2]; exact heap_alloc_new _ _
        haveI : Bel u1 u2 := Bel.step (w := u1) hbc
        haveI : Bel u0 u2 := Bel.step (w := u0) hbc
        haveI : Bel wa u2 := Bel.step (w := wa) hbc
        haveI : Bel w u2 := Bel.step (w := w) hbc
        clear hbc hu2
        refine hK.out _ _ ⟨cell_at x0, cell_at x1, cell_at x2, cell_at x3⟩ (fun hHeld => ?_)
        clear hK K
        refine PrintLast.norm_ (a' := ?_) ?_ ?_
        rotate_left
        · (show Act.put _ (some 6) _ = _; simp only [Act.put, List.setIfInBounds_toArray, List.set_cons_zero, List.set_cons_succ, PrintLast.i64_w, PrintLast.i32_w]; rfl)
        refine PrintLast.one_ (i := 1) (N := (some 17)) #[true, true, true, false, true, true, false, false] rfl rfl (by kernel_rfl) (by decide) (fun K hK => ?_)
        refine PrintLast.goes_ Tryd.func34 (by kernel_rfl) rfl #[.agg #[.slice A0 d.now.st.length c0, .int .i64 d.now.step, .slice A2 d.now.word.length c2, .slice A3 d.past.length c3]] (by rfl) rfl rfl (by (try simp only [List.map_toArray, List.map_cons, List.map_nil]); first | done | rfl) ?_
        refine (i_copyDesk _ d _ (DkI.mk i0.at i2.at i3.at) (by omega) (by omega) (by omega) (fun j hj => by have := HSM.out j hj; omega)).mono ?_
        rintro e u3 ⟨vc, rfl, ⟨f1, hDc⟩, hbc⟩
        obtain ⟨y0, y2, y3, rfl, hT0, hT2, hPs⟩ := hDc
        obtain ⟨B0, e0, rfl⟩ := hT0.ints.form
        obtain ⟨B2, e2, rfl⟩ := hT2.ints.form
        obtain ⟨B3, e3, rfl⟩ := hPs.pls.form
        have HD1 := Lib.hid (DkO.of hT0 hT2 hPs)
        refine ⟨_, rfl, ?_⟩
        haveI : Bel u2 u3 := Bel.step (w := u2) hbc
        haveI : Bel u1 u3 := Bel.step (w := u1) hbc
        haveI : Bel u0 u3 := Bel.step (w := u0) hbc
        haveI : Bel wa u3 := Bel.step (w := wa) hbc
        haveI : Bel w u3 := Bel.step (w := w) hbc
        clear hbc hT0 hT2 hPs
        refine hK.out _ _ ⟨cell_at x0, cell_at x1, cell_at x2, cell_at x3⟩ (fun hHeld => ?_)
        clear hK K
        refine PrintLast.norm_ (a' := ?_) ?_ ?_
        rotate_left
        · (show Act.put _ (some 17) _ = _; simp only [Act.put, List.setIfInBounds_toArray, List.set_cons_zero, List.set_cons_succ, PrintLast.i64_w, PrintLast.i32_w]; rfl)
        refine PrintLast.one_ (i := 3) (N := (some 19)) #[true, true, true, true, true, true, false, false] rfl rfl (by kernel_rfl) (by decide) (fun K hK => ?_)
        refine PrintLast.goes_ Tryd.func34 (by kernel_rfl) rfl #[.agg #[.slice A0 d.now.st.length c0, .int .i64 d.now.step, .slice A2 d.now.word.length c2, .slice A3 d.past.length c3]] (by rfl) rfl rfl (by (try simp only [List.map_toArray, List.map_cons, List.map_nil]); first | done | rfl) ?_
        refine (i_copyDesk _ d _ (DkI.mk i0.at i2.at i3.at) (by omega) (by omega) (by omega) (fun j hj => by have := HSM.out j hj; omega)).mono ?_
        rintro e u4 ⟨vc, rfl, ⟨f2, hDc⟩, hbc⟩
        obtain ⟨y0, y2, y3, rfl, hT0, hT2, hPs⟩ := hDc
        obtain ⟨C0, k0, rfl⟩ := hT0.ints.form
        obtain ⟨C2, k2, rfl⟩ := hT2.ints.form
        obtain ⟨C3, k3, rfl⟩ := hPs.pls.form
        have HD2 := Lib.hid (DkO.of hT0 hT2 hPs)
        refine ⟨_, rfl, ?_⟩
        haveI : Bel u3 u4 := Bel.step (w := u3) hbc
        haveI : Bel u2 u4 := Bel.step (w := u2) hbc
        haveI : Bel u1 u4 := Bel.step (w := u1) hbc
        haveI : Bel u0 u4 := Bel.step (w := u0) hbc
        haveI : Bel wa u4 := Bel.step (w := wa) hbc
        haveI : Bel w u4 := Bel.step (w := w) hbc
        clear hbc hT0 hT2 hPs
        refine hK.out _ _ ⟨cell_at x0, cell_at x1, cell_at x2, cell_at x3⟩ (fun hHeld => ?_)
        clear hK K
        refine PrintLast.norm_ (a' := ?_) ?_ ?_
        rotate_left
        · (show Act.put _ (some 19) _ = _; simp only [Act.put, List.setIfInBounds_toArray, List.set_cons_zero, List.set_cons_succ, PrintLast.i64_w, PrintLast.i32_w]; rfl)
        have s1 : u3.heap.size ≤ u3.heap.size := (Bel.out : Below u3.heap.size u3 u3).size
        have s2 : u4.heap.size ≤ u4.heap.size := (Bel.out : Below u4.heap.size u4 u4).size
        have s3 : wa.heap.size ≤ u2.heap.size := (Bel.out : Below wa.heap.size wa u2).size
        have s4 : wa.heap.size ≤ u1.heap.size := (Bel.out : Below wa.heap.size wa u1).size
        have s5 : wa.heap.size ≤ u0.heap.size := (Bel.out : Below wa.heap.size wa u0).size
        have s8 : u3.heap.size ≤ u4.heap.size := (Bel.out : Below u3.heap.size u3 u4).size
        have s9 : wa.heap.size ≤ u3.heap.size := (Bel.out : Below wa.heap.size wa u3).size
        have s6 : u1.heap.size ≤ u1.heap.size := (Bel.out : Below u1.heap.size u1 u1).size
        have s7 := (Array.getElem?_eq_some_iff.1 HG7.out).1
        have F1 := (HD1.out.kept (w1 := u4) (fun k _ hk => (Bel.out : Below u3.heap.size u3 u4).block k hk)).lo s3
        have F2 := ((HD2.out.kept (w1 := u4) (fun k _ hk => (Bel.out : Below u4.heap.size u4 u4).block k hk)).lo s1).hi s2
        exact PrintLast.norm_ (by simp only [PrintLast.putAll, Act.put, List.setIfInBounds_toArray, List.set_cons_zero, List.set_cons_succ, Two.v1, Two.v2]) (hCont ⟨B0, e0, B2, e2, B3, e3, C0, k0, C2, k2, C3, k3, u1.heap.size, u0.heap.size⟩ _ ⟨hHeld, ⟨Bel.out, block_at HG6.out, block_at HG7.out, by show u1.heap.size ≠ u0.heap.size; omega, by exact s4, by exact s5, ⟨u3.heap.size, f1, f2, s9, s8, F1, F2⟩⟩⟩)
  rintro t wj ⟨hHeld, hF⟩
  simp only [PrintLast.putAll, Act.put, List.setIfInBounds_toArray, List.set_cons_zero, List.set_cons_succ]
  have HF := Lib.hid hF
  have g0 := block_cell hF.b6 0 rfl
  have g1 := block_cell hF.b6 1 rfl
  have g2 := block_cell hF.b6 2 rfl
  have g3 := block_cell hF.b6 3 rfl
  have f0 := block_frozen hF.b6 0
  have f1 := block_frozen hF.b6 1
  have f2 := block_frozen hF.b6 2
  have f3 := block_frozen hF.b6 3
  have q0 := block_cell hF.b7 0 rfl
  have q1 := block_cell hF.b7 1 rfl
  have q2 := block_cell hF.b7 2 rfl
  have q3 := block_cell hF.b7 3 rfl
  have p0 := block_frozen hF.b7 0
  have p1 := block_frozen hF.b7 1
  have p2 := block_frozen hF.b7 2
  have p3 := block_frozen hF.b7 3
  have ne1 := hF.ne
  have ne2 := hF.ne.symm
  clear hF x0 x1 x2 x3 hHeld
  refine PrintLast.last_ (i := 6) (N := none) #[true, true, true, true, true, true, true, false] rfl rfl (by kernel_rfl) (by decide) (fun K hK => ?_)
  unfold Two.v1 Two.v2
  refine PrintLast.skip_ (w1 := ?_) (by rfl) rfl ?_ ?_
  rotate_left
  · (go_simp; rfl)
  refine hK.out _ _ ?_
  clear hK K
  refine PrintLast.last_ (i := 7) (N := none) #[true, true, true, true, true, true, true, true] rfl rfl (by kernel_rfl) (by decide) (fun K hK => ?_)
  refine PrintLast.skip_ (w1 := ?_) (by rfl) rfl ?_ ?_
  rotate_left
  · (go_simp; rfl)
  refine hK.out _ _ ?_
  clear hK K
  refine PrintLast.done_ (by kernel_rfl) ?_
  exact HQ.out t wj HF.out
end Go.Proofs.YtpfncjaclgcbnaaDoor.Ub
