/- Contract of the reference's deeds, one after the other. -/
import Derived.Test.YtpfncjaclgcbnaaDoorR1
set_option linter.unusedVariables false
set_option linter.unusedSimpArgs false
namespace Go.Proofs.YtpfncjaclgcbnaaDoor.Ub
open Go.RowKit Go.Proofs.YtpfncjaclgcbnaaDoorW

/-- A desk that reads the same in each world that has the blocks from lo to hi. -/
def DkR (w : World) (lo hi : Nat) (v : Value) (d : Dk) : Prop := ∀ W : World, (∀ k, lo ≤ k → k < hi → W.heap[k]? = w.heap[k]?) → DkI W v d
theorem DkR.dk {w : World} {lo hi : Nat} {v : Value} {d : Dk} (h : DkR w lo hi v d) : DkI w v d := h w (fun _ _ _ => rfl)
theorem DkR.kept {w w1 : World} {lo hi : Nat} {v : Value} {d : Dk} (h : DkR w lo hi v d) (hk : ∀ k, lo ≤ k → k < hi → w1.heap[k]? = w.heap[k]?) : DkR w1 lo hi v d := fun W hW => h W (fun k a b => (hW k a b).trans (hk k a b))
theorem DkO.rd {w : World} {lo hi : Nat} {f : Nat → Nat} {v : Value} {d : Dk} (h : DkO w lo hi f v d) : DkR w lo hi v d := fun W hk => (h.kept hk).dk
theorem DkS.rd {w : World} {lo : Nat} {v : Value} {d : Dk} (h : DkS w lo v d) : DkR w lo w.heap.size v d := h
theorem DkR.set4 {w : World} {lo hi g : Nat} {v : Value} {d : Dk} (h : DkR w lo hi v d) (hg : g < lo ∨ hi ≤ g) (u0 u1 u2 u3 : Value) : DkR (Ub.set4 w g u0 u1 u2 u3) lo hi v d :=
  h.kept (fun k a b => by
    unfold Ub.set4
    rw [Below.heap_setCell _ _ _ _ (by simp; omega), Below.heap_setCell _ _ _ _ (by simp; omega), Below.heap_setCell _ _ _ _ (by simp; omega), Below.heap_setCell _ _ _ _ (by simp; omega)])
theorem sDoR_is {d : Dk} {a : Dd} {b : Bool} (h : doOk d a = b) (v : Value) (w : World) (h0 : DkI w v d) :
    Calls Tryd.prog 9 #[v, .agg #[.int .i64 a.kind, .int .i64 a.a, .int .i64 a.b]] w fun e w' => ∃ v', e = .returned (.tuple #[v', .bool b]) ∧ DkS w' w.heap.size v' (doDesk d a) ∧ Below w.heap.size w w' := by
  have := s_DeskDo v d a w h0
  rw [h] at this
  refine this.mono ?_
  rintro e w' ⟨v', rfl, h1, h2⟩
  exact ⟨v', rfl, h1.1, h2⟩
structure Nxt where
  X0 : Option Addr
  x0 : Nat
  X2 : Option Addr
  x2 : Nat
  X3 : Option Addr
  x3 : Nat
  g9 : Nat
  lx : Nat
  hx : Nat
def Nxt.v (t : Nxt) (d : Dk) : Value := .agg #[.slice t.X0 d.now.st.length t.x0, .int .i64 d.now.step, .slice t.X2 d.now.word.length t.x2, .slice t.X3 d.past.length t.x3]


set_option maxHeartbeats 8000000 in
set_option maxRecDepth 100000 in
theorem s_l15Run (v vl : Value) (d : Dk) (l : List Dd) (w : World) (h : DkI w v d) (hl : Dds w vl l) (hs : d.now.st.length ≤ 1000) (hw : d.now.word.length ≤ 1000) (hp : d.past.length ≤ 1000) (hps : ∀ j, j < d.past.length → (d.past.getD j z0).st.length ≤ 1000 ∧ (d.past.getD j z0).word.length ≤ 1000) :
    Calls Tryd.prog 54 #[v, vl] w fun e w' => ∃ v', e = .returned (.tuple #[v', .int .i64 (runMany d l)]) ∧ DkS w' w.heap.size v' (runDesk d l) ∧ Below w.heap.size w w' := by
  obtain ⟨A0, c0, A2, c2, A3, c3, rfl, i0, i2, i3⟩ := h.open
  have HL := Lib.hid hl
  obtain ⟨hlm, A, cl, rfl, hlc, _⟩ := hl
  have HPS := Lib.hid hps
  clear h hps
  obtain ⟨W0, hW0⟩ : ∃ W0, W0 = (w.alloc (.cells #[.slice A0 d.now.st.length c0, .int .i64 d.now.step, .slice A2 d.now.word.length c2, .slice A3 d.past.length c3] 28)).alloc (.cells #[.slice none 0 0, .int .i64 0, .slice none 0 0, .slice none 0 0] 28) := ⟨_, rfl⟩
  have hb0 : Below w.heap.size w W0 := by rw [hW0]; exact ((Below.refl _ _).alloc (Nat.le_refl _) _).alloc (by simp) _
  have BX : W0.heap[w.heap.size]? = some (.cells #[.slice A0 d.now.st.length c0, .int .i64 d.now.step, .slice A2 d.now.word.length c2, .slice A3 d.past.length c3] 28 (0, 0)) := by rw [hW0]; exact (heap_alloc_old _ _ (by simp)).trans (heap_alloc_new w _)
  have BR : W0.heap[w.heap.size + 1]? = some (.cells #[.slice none 0 0, .int .i64 0, .slice none 0 0, .slice none 0 0] 28 (0, 0)) := by rw [hW0]; simpa using heap_alloc_new (w.alloc (.cells #[.slice A0 d.now.st.length c0, .int .i64 d.now.step, .slice A2 d.now.word.length c2, .slice A3 d.past.length c3] 28)) _
  haveI b0 : Bel w W0 := ⟨hb0⟩
  have x0 := block_cell BX 0 rfl
  have x1 := block_cell BX 1 rfl
  have x2 := block_cell BX 2 rfl
  have x3 := block_cell BX 3 rfl
  have hz0 : w.heap.size + 2 ≤ W0.heap.size := by rw [hW0]; simp
  have HZ0 := Lib.hid hz0
  go_enter Tryd.func54, Tryd.ntmps54
  go_upto_region 1 with (fail)
  rw [← hW0]
  clear hW0 hb0 hz0
  go_wp2_with fail
  refine (s_l15Copy _ d _ (DkI.mk i0.at i2.at i3.at) hs hw hp HPS.out).mono ?_
  rintro e w1 ⟨v1, rfl, ⟨f, hD⟩, hb1⟩
  obtain ⟨D0, d0', D2, d2', D3, d3', rfl⟩ : ∃ X0 x0 X2 x2 X3 x3, v1 = .agg #[.slice X0 d.now.st.length x0, .int .i64 d.now.step, .slice X2 d.now.word.length x2, .slice X3 d.past.length x3] := by
    obtain ⟨A0, c0, A2, c2, A3, c3, e, _⟩ := hD.dk.open
    exact ⟨_, _, _, _, _, _, e⟩
  haveI b01 : Bel W0 w1 := Bel.step (w := W0) hb1
  haveI bw1 : Bel w w1 := Bel.step (w := w) b01.out
  clear x0 x1 x2 x3
  go_upto_region 2 with (fail)
  obtain ⟨W2, hW2⟩ : ∃ W2, W2 = w1.alloc (.cells #[.slice D0 d.now.st.length d0', .int .i64 d.now.step, .slice D2 d.now.word.length d2', .slice D3 d.past.length d3'] 28) := ⟨_, rfl⟩
  rw [← hW2]
  haveI b12 : Bel w1 W2 := by rw [hW2]; exact Bel.alloc
  haveI bw2 : Bel w W2 := Bel.step (w := w) b12.out
  obtain ⟨g6, hg6⟩ : ∃ g6, g6 = w1.heap.size := ⟨_, rfl⟩
  have HBX : Hid (W2.heap[g6]? = some (.cells #[.slice D0 d.now.st.length d0', .int .i64 d.now.step, .slice D2 d.now.word.length d2', .slice D3 d.past.length d3'] 28 (0, 0))) := by show _ = _; rw [hW2, hg6]; exact heap_alloc_new _ _
  have HBR := Lib.hid (block_at (W := W2) (block_at (W := w1) BR))
  have HD := Lib.hid (hD.rd.kept (w1 := W2) (fun i _ hi => b12.out.block i hi))
  have HB := Lib.hid bw2.out
  have hl6 : w.heap.size + 2 ≤ g6 := by have := HZ0.out; have := b01.out.size; omega
  have hh6 : w1.heap.size ≤ g6 := by omega
  have HH2 : Hid (w1.heap.size ≤ W2.heap.size) := b12.out.size
  have HL6 := Lib.hid hl6; have HH6 := Lib.hid hh6
  rw [← hg6]
  clear hW2 hD BX BR hb1 hl6 hh6 hg6
  go_wp2
  go_loopw [7, 8, 9, 10] (fun n i _ _ wr => ∃ k : Nat, k ≤ l.length ∧ i = .int .i64 k ∧ n = .int .i64 (runMany d (l.take k)) ∧ ∃ D0 d0' D2 d2' D3 d3' lo hi, Hid (wr.heap[g6]? = some (.cells #[.slice D0 (runDesk d (l.take k)).now.st.length d0', .int .i64 (runDesk d (l.take k)).now.step, .slice D2 (runDesk d (l.take k)).now.word.length d2', .slice D3 (runDesk d (l.take k)).past.length d3'] 28 (0, 0))) ∧ Hid (wr.heap[w.heap.size + 1]? = some (.cells #[.slice none 0 0, .int .i64 0, .slice none 0 0, .slice none 0 0] 28 (0, 0))) ∧
    Hid (DkR wr lo hi (.agg #[.slice D0 (runDesk d (l.take k)).now.st.length d0', .int .i64 (runDesk d (l.take k)).now.step, .slice D2 (runDesk d (l.take k)).now.word.length d2', .slice D3 (runDesk d (l.take k)).past.length d3']) (runDesk d (l.take k))) ∧ Hid (Below w.heap.size w wr) ∧ (g6 < lo ∨ hi ≤ g6) ∧ w.heap.size + 2 ≤ lo ∧ hi ≤ wr.heap.size) (fun _ i _ _ _ => l.length - (intOf i).toNat)
  case atStart => exact ⟨0, by omega, rfl, rfl, D0, d0', D2, d2', D3, d3', W0.heap.size, w1.heap.size, HBX.out, HBR.out, HD.out, HB.out, .inr HH6.out, HZ0.out, HH2.out⟩
  case round =>
    obtain ⟨k, hk, rfl, rfl, D0, d0', D2, d2', D3, d3', lo, hi, hBX, hBR, hD, hB, hlo, hlo2, hhi⟩ := hrel
    clear HBX HBR HD HB HH2 HH6
    haveI bwr : Bel w wr := ⟨hB.out⟩
    have hcn := runMany_le d (l.take k)
    have hcn2 : runMany d (l.take k) ≤ k := by rw [List.length_take] at hcn; omega
    clear hcn
    by_cases hlt : k < l.length
    · have HT := Lib.hid (take_getD' l e0 k hlt)
      obtain ⟨_, _, _, eA, _, hcell⟩ := HL.out
      cases eA
      obtain ⟨b, o, rfl, q0, q1, q2⟩ := hcell k hlt
      clear hcell
      generalize l.getD k e0 = a at *
      replace q0 := cell_at q0 (W := wr)
      replace q1 := cell_at q1 (W := wr)
      replace q2 := cell_at q2 (W := wr)
      go_upto_region 6 with (fail)
      cases hok : doOk (runDesk d (l.take k)) a with
      | true =>
        have HOK := Lib.hid hok; clear hok
        have BZ : Bel wr wr.drew := Bel.drew
        refine PrintLast.start_ (n := 12) (S := fun w' => w'.cell? ⟨g6, 0, none⟩ = some (.slice D0 (runDesk d (l.take k)).now.st.length d0') ∧ w'.cell? ⟨g6, 1, none⟩ = some (.int .i64 (runDesk d (l.take k)).now.step) ∧ w'.cell? ⟨g6, 2, none⟩ = some (.slice D2 (runDesk d (l.take k)).now.word.length d2') ∧ w'.cell? ⟨g6, 3, none⟩ = some (.slice D3 (runDesk d (l.take k)).past.length d3') ∧ w'.cell? ⟨b, o + k * 3, none⟩ = some (.int .i64 a.kind) ∧ w'.cell? ⟨b, o + k * 3 + 1, none⟩ = some (.int .i64 a.a) ∧ w'.cell? ⟨b, o + k * 3 + 2, none⟩ = some (.int .i64 a.b)) (ds := [10]) #[false, false, false, false, false, false, false, false, false, false, false, false] (by kernel_rfl) rfl rfl ⟨block_cell (block_at (b := BZ) hBX.out) 0 rfl, block_cell (block_at (b := BZ) hBX.out) 1 rfl, block_cell (block_at (b := BZ) hBX.out) 2 rfl, block_cell (block_at (b := BZ) hBX.out) 3 rfl, cell_at q0 (b := BZ), cell_at q1 (b := BZ), cell_at q2 (b := BZ)⟩ (fun hHeld => ?_)
        refine PrintLast.take_ (i := 0) (N := (some 20)) (v := ?_) (a' := ?_) #[true, false, false, false, false, false, false, false, false, false, false, false] rfl rfl (by kernel_rfl) (fun _ _ _ h => h) (Or.inl ⟨by rfl, ?_⟩) hHeld ?_ ?_
        rotate_left
        · (rintro w' ⟨s0, s1, s2, s3, s4, s5, s6⟩; go_simp; with_reducible rfl)
        rotate_left
        · (simp only [Act.put, List.setIfInBounds_toArray, List.set_cons_zero, List.set_cons_succ, PrintLast.i64_w, PrintLast.i32_w]; rfl)
        refine PrintLast.pure_ (i := 1) (N := (some 21)) (v := ?_) (a' := ?_) #[true, true, false, false, false, false, false, false, false, false, false, false] rfl rfl (by kernel_rfl) (fun _ _ _ h => h) (Or.inl ⟨by rfl, ?_⟩) ?_ ?_
        rotate_left
        · (intro w'; go_simp; with_reducible rfl)
        rotate_left
        · (simp only [Act.put, List.setIfInBounds_toArray, List.set_cons_zero, List.set_cons_succ, PrintLast.i64_w, PrintLast.i32_w]; rfl)
        refine PrintLast.pure_ (i := 2) (N := (some 22)) (v := ?_) (a' := ?_) #[true, true, true, false, false, false, false, false, false, false, false, false] rfl rfl (by kernel_rfl) (fun _ _ _ h => h) (Or.inl ⟨by rfl, ?_⟩) ?_ ?_
        rotate_left
        · (intro w'; go_simp; with_reducible rfl)
        rotate_left
        · (simp only [Act.put, List.setIfInBounds_toArray, List.set_cons_zero, List.set_cons_succ, PrintLast.i64_w, PrintLast.i32_w]; rfl)
        refine PrintLast.pure_ (i := 3) (N := (some 23)) (v := ?_) (a' := ?_) #[true, true, true, true, false, false, false, false, false, false, false, false] rfl rfl (by kernel_rfl) (fun _ _ _ h => h) (Or.inl ⟨by rfl, ?_⟩) ?_ ?_
        rotate_left
        · (intro w'; go_simp; with_reducible rfl)
        rotate_left
        · (simp only [Act.put, List.setIfInBounds_toArray, List.set_cons_zero, List.set_cons_succ, PrintLast.i64_w, PrintLast.i32_w]; rfl)
        refine PrintLast.take_ (i := 4) (N := (some 24)) (v := ?_) (a' := ?_) #[true, true, true, true, true, false, false, false, false, false, false, false] rfl rfl (by kernel_rfl) (fun _ _ _ h => h) (Or.inl ⟨by rfl, ?_⟩) hHeld ?_ ?_
        rotate_left
        · (rintro w' ⟨s0, s1, s2, s3, s4, s5, s6⟩; go_simp; with_reducible rfl)
        rotate_left
        · (simp only [Act.put, List.setIfInBounds_toArray, List.set_cons_zero, List.set_cons_succ, PrintLast.i64_w, PrintLast.i32_w]; rfl)
        refine PrintLast.join_ (σ := Nxt) 2 #[true, true, true, true, true, true, true, true, true, true, false, false] (fun t => [(25, .tuple #[t.v (doDesk (runDesk d (l.take k)) a), .bool true]), (19, .tuple #[t.v (doDesk (runDesk d (l.take k)) a), .bool true]), (26, t.v (doDesk (runDesk d (l.take k)) a)), (27, .bool true), (9, .pointer (some ⟨t.g9, 0, none⟩))]) (fun t w' => Below wr.heap.size wr w' ∧ w'.heap[t.g9]? = some (.cells #[.slice none 0 0, .int .i64 0, .slice none 0 0, .slice none 0 0] 28 (0, 0)) ∧ DkR w' t.lx t.hx (t.v (doDesk (runDesk d (l.take k)) a)) (doDesk (runDesk d (l.take k)) a) ∧ wr.heap.size ≤ t.g9 ∧ wr.heap.size ≤ t.lx ∧ (t.g9 < t.lx ∨ t.hx ≤ t.g9) ∧ t.hx ≤ w'.heap.size) ?_ ?_
        rotate_left
        · intro hCont
          refine PrintLast.two_ (i := 5) (j := 9) (Ni := some 25) (Nj := some 9) #[true, true, true, true, true, true, false, false, false, false, false, false] #[true, true, true, true, true, false, false, false, false, true, false, false] rfl rfl rfl rfl (by kernel_rfl) (by decide) (by decide) (fun K hK => ?_) (fun K hK => ?_)
          · skip
            refine PrintLast.goes_ Tryd.func9 (by kernel_rfl) rfl #[.agg #[.slice D0 (runDesk d (l.take k)).now.st.length d0', .int .i64 (runDesk d (l.take k)).now.step, .slice D2 (runDesk d (l.take k)).now.word.length d2', .slice D3 (runDesk d (l.take k)).past.length d3'], .agg #[.int .i64 a.kind, .int .i64 a.a, .int .i64 a.b]] (by rfl) rfl rfl (by (try simp only [List.map_toArray, List.map_cons, List.map_nil]); first | done | rfl) ?_
            refine (sDoR_is HOK.out _ _ (hD.out.kept (w1 := wr.drew) (fun i _ hi => (Bel.out (self := BZ) : Below wr.heap.size wr wr.drew).block i (by omega))).dk).mono ?_
            rintro e w3 ⟨vx, rfl, hX, hb⟩
            obtain ⟨X0, x0', X2, x2', X3, x3', rfl⟩ : ∃ X0 x0 X2 x2 X3 x3, vx = .agg #[.slice X0 (doDesk (runDesk d (l.take k)) a).now.st.length x0, .int .i64 (doDesk (runDesk d (l.take k)) a).now.step, .slice X2 (doDesk (runDesk d (l.take k)) a).now.word.length x2, .slice X3 (doDesk (runDesk d (l.take k)) a).past.length x3] := by
              obtain ⟨A0, c0, A2, c2, A3, c3, e, _⟩ := hX.dk.open
              exact ⟨_, _, _, _, _, _, e⟩
            refine ⟨_, rfl, ?_⟩
            have B1 : Bel wr w3 := ⟨(Bel.out (self := BZ) : Below wr.heap.size wr wr.drew).trans (hb.mono (Bel.out (self := BZ) : Below wr.heap.size wr wr.drew).size)⟩
            refine hK.out _ _ ⟨block_cell (block_at (b := B1) hBX.out) 0 rfl, block_cell (block_at (b := B1) hBX.out) 1 rfl, block_cell (block_at (b := B1) hBX.out) 2 rfl, block_cell (block_at (b := B1) hBX.out) 3 rfl, cell_at q0 (b := B1), cell_at q1 (b := B1), cell_at q2 (b := B1)⟩ (fun hHeld => ?_)
            clear hK K
            refine PrintLast.norm_ (a' := ?_) ?_ ?_
            rotate_left
            · (show Act.put _ (some 25) _ = _; simp only [Act.put, List.setIfInBounds_toArray, List.set_cons_zero, List.set_cons_succ, PrintLast.i64_w, PrintLast.i32_w]; rfl)
            refine PrintLast.pure_ (i := 6) (N := (some 19)) (v := ?_) (a' := ?_) #[true, true, true, true, true, true, true, false, false, false, false, false] rfl rfl (by kernel_rfl) (fun _ _ _ h => h) (Or.inl ⟨by rfl, ?_⟩) ?_ ?_
            rotate_left
            · (intro w'; go_simp; with_reducible rfl)
            rotate_left
            · (simp only [Act.put, List.setIfInBounds_toArray, List.set_cons_zero, List.set_cons_succ, PrintLast.i64_w, PrintLast.i32_w]; rfl)
            refine PrintLast.pure_ (i := 7) (N := (some 26)) (v := ?_) (a' := ?_) #[true, true, true, true, true, true, true, true, false, false, false, false] rfl rfl (by kernel_rfl) (fun _ _ _ h => h) (Or.inl ⟨by rfl, ?_⟩) ?_ ?_
            rotate_left
            · (intro w'; go_simp; with_reducible rfl)
            rotate_left
            · (simp only [Act.put, List.setIfInBounds_toArray, List.set_cons_zero, List.set_cons_succ, PrintLast.i64_w, PrintLast.i32_w]; rfl)
            refine PrintLast.pure_ (i := 8) (N := (some 27)) (v := ?_) (a' := ?_) #[true, true, true, true, true, true, true, true, true, false, false, false] rfl rfl (by kernel_rfl) (fun _ _ _ h => h) (Or.inl ⟨by rfl, ?_⟩) ?_ ?_
            rotate_left
            · (intro w'; go_simp; with_reducible rfl)
            rotate_left
            · (simp only [Act.put, List.setIfInBounds_toArray, List.set_cons_zero, List.set_cons_succ, PrintLast.i64_w, PrintLast.i32_w]; rfl)
            refine PrintLast.one_ (i := 9) (N := (some 9)) #[true, true, true, true, true, true, true, true, true, true, false, false] rfl rfl (by kernel_rfl) (by decide) (fun K hK => ?_)
            refine PrintLast.value_ (w1 := ?_) (v := ?_) (by rfl) rfl ?_ ?_
            rotate_left 2
            · (go_simp; constructor <;> rfl)
            have B2 : Bel wr (w3.alloc (.cells #[.slice none 0 0, .int .i64 0, .slice none 0 0, .slice none 0 0] 28)) := ⟨(Bel.out (self := B1) : Below wr.heap.size wr w3).alloc (Bel.out (self := B1) : Below wr.heap.size wr w3).size _⟩
            refine hK.out _ _ ⟨block_cell (block_at (b := B2) hBX.out) 0 rfl, block_cell (block_at (b := B2) hBX.out) 1 rfl, block_cell (block_at (b := B2) hBX.out) 2 rfl, block_cell (block_at (b := B2) hBX.out) 3 rfl, cell_at q0 (b := B2), cell_at q1 (b := B2), cell_at q2 (b := B2)⟩ (fun hHeld => ?_)
            clear hK K
            refine PrintLast.norm_ (a' := ?_) ?_ ?_
            rotate_left
            · (show Act.put _ (some 9) _ = _; simp only [Act.put, List.setIfInBounds_toArray, List.set_cons_zero, List.set_cons_succ, PrintLast.i64_w, PrintLast.i32_w]; rfl)
            have hz := B1.out.size
            have hal : Below w3.heap.size w3 (w3.alloc (.cells #[.slice none 0 0, .int .i64 0, .slice none 0 0, .slice none 0 0] 28)) := (Bel.alloc (w := w3) (W := w3)).out
            exact PrintLast.norm_ (by simp only [PrintLast.putAll, Act.put, List.setIfInBounds_toArray, List.set_cons_zero, List.set_cons_succ, Nxt.v]) (hCont ⟨X0, x0', X2, x2', X3, x3', w3.heap.size, wr.heap.size, w3.heap.size⟩ _ ⟨B2.out, heap_alloc_new _ _, hX.rd.kept (fun i _ hi => hal.block i hi), hz, Nat.le_refl _, .inr (Nat.le_refl _), hal.size⟩)
          · skip
            refine PrintLast.value_ (w1 := ?_) (v := ?_) (by rfl) rfl ?_ ?_
            rotate_left 2
            · (go_simp; constructor <;> rfl)
            have B1 : Bel wr (wr.drew.alloc (.cells #[.slice none 0 0, .int .i64 0, .slice none 0 0, .slice none 0 0] 28)) := ⟨(Bel.out (self := BZ) : Below wr.heap.size wr wr.drew).alloc (Bel.out (self := BZ) : Below wr.heap.size wr wr.drew).size _⟩
            refine hK.out _ _ ⟨block_cell (block_at (b := B1) hBX.out) 0 rfl, block_cell (block_at (b := B1) hBX.out) 1 rfl, block_cell (block_at (b := B1) hBX.out) 2 rfl, block_cell (block_at (b := B1) hBX.out) 3 rfl, cell_at q0 (b := B1), cell_at q1 (b := B1), cell_at q2 (b := B1)⟩ (fun hHeld => ?_)
            clear hK K
            refine PrintLast.norm_ (a' := ?_) ?_ ?_
            rotate_left
            · (show Act.put _ (some 9) _ = _; simp only [Act.put, List.setIfInBounds_toArray, List.set_cons_zero, List.set_cons_succ, PrintLast.i64_w, PrintLast.i32_w]; rfl)
            refine PrintLast.one_ (i := 5) (N := (some 25)) #[true, true, true, true, true, true, false, false, false, true, false, false] rfl rfl (by kernel_rfl) (by decide) (fun K hK => ?_)
            refine PrintLast.goes_ Tryd.func9 (by kernel_rfl) rfl #[.agg #[.slice D0 (runDesk d (l.take k)).now.st.length d0', .int .i64 (runDesk d (l.take k)).now.step, .slice D2 (runDesk d (l.take k)).now.word.length d2', .slice D3 (runDesk d (l.take k)).past.length d3'], .agg #[.int .i64 a.kind, .int .i64 a.a, .int .i64 a.b]] (by rfl) rfl rfl (by (try simp only [List.map_toArray, List.map_cons, List.map_nil]); first | done | rfl) ?_
            refine (sDoR_is HOK.out _ _ (hD.out.kept (w1 := (wr.drew.alloc (.cells #[.slice none 0 0, .int .i64 0, .slice none 0 0, .slice none 0 0] 28))) (fun i _ hi => (Bel.out (self := B1) : Below wr.heap.size wr (wr.drew.alloc (.cells #[.slice none 0 0, .int .i64 0, .slice none 0 0, .slice none 0 0] 28))).block i (by omega))).dk).mono ?_
            rintro e w3 ⟨vx, rfl, hX, hb⟩
            obtain ⟨X0, x0', X2, x2', X3, x3', rfl⟩ : ∃ X0 x0 X2 x2 X3 x3, vx = .agg #[.slice X0 (doDesk (runDesk d (l.take k)) a).now.st.length x0, .int .i64 (doDesk (runDesk d (l.take k)) a).now.step, .slice X2 (doDesk (runDesk d (l.take k)) a).now.word.length x2, .slice X3 (doDesk (runDesk d (l.take k)) a).past.length x3] := by
              obtain ⟨A0, c0, A2, c2, A3, c3, e, _⟩ := hX.dk.open
              exact ⟨_, _, _, _, _, _, e⟩
            refine ⟨_, rfl, ?_⟩
            have B2 : Bel wr w3 := ⟨(Bel.out (self := B1) : Below wr.heap.size wr (wr.drew.alloc (.cells #[.slice none 0 0, .int .i64 0, .slice none 0 0, .slice none 0 0] 28))).trans (hb.mono (Bel.out (self := B1) : Below wr.heap.size wr (wr.drew.alloc (.cells #[.slice none 0 0, .int .i64 0, .slice none 0 0, .slice none 0 0] 28))).size)⟩
            refine hK.out _ _ ⟨block_cell (block_at (b := B2) hBX.out) 0 rfl, block_cell (block_at (b := B2) hBX.out) 1 rfl, block_cell (block_at (b := B2) hBX.out) 2 rfl, block_cell (block_at (b := B2) hBX.out) 3 rfl, cell_at q0 (b := B2), cell_at q1 (b := B2), cell_at q2 (b := B2)⟩ (fun hHeld => ?_)
            clear hK K
            refine PrintLast.norm_ (a' := ?_) ?_ ?_
            rotate_left
            · (show Act.put _ (some 25) _ = _; simp only [Act.put, List.setIfInBounds_toArray, List.set_cons_zero, List.set_cons_succ, PrintLast.i64_w, PrintLast.i32_w]; rfl)
            refine PrintLast.pure_ (i := 6) (N := (some 19)) (v := ?_) (a' := ?_) #[true, true, true, true, true, true, true, false, false, true, false, false] rfl rfl (by kernel_rfl) (fun _ _ _ h => h) (Or.inl ⟨by rfl, ?_⟩) ?_ ?_
            rotate_left
            · (intro w'; go_simp; with_reducible rfl)
            rotate_left
            · (simp only [Act.put, List.setIfInBounds_toArray, List.set_cons_zero, List.set_cons_succ, PrintLast.i64_w, PrintLast.i32_w]; rfl)
            refine PrintLast.pure_ (i := 7) (N := (some 26)) (v := ?_) (a' := ?_) #[true, true, true, true, true, true, true, true, false, true, false, false] rfl rfl (by kernel_rfl) (fun _ _ _ h => h) (Or.inl ⟨by rfl, ?_⟩) ?_ ?_
            rotate_left
            · (intro w'; go_simp; with_reducible rfl)
            rotate_left
            · (simp only [Act.put, List.setIfInBounds_toArray, List.set_cons_zero, List.set_cons_succ, PrintLast.i64_w, PrintLast.i32_w]; rfl)
            refine PrintLast.pure_ (i := 8) (N := (some 27)) (v := ?_) (a' := ?_) #[true, true, true, true, true, true, true, true, true, true, false, false] rfl rfl (by kernel_rfl) (fun _ _ _ h => h) (Or.inl ⟨by rfl, ?_⟩) ?_ ?_
            rotate_left
            · (intro w'; go_simp; with_reducible rfl)
            rotate_left
            · (simp only [Act.put, List.setIfInBounds_toArray, List.set_cons_zero, List.set_cons_succ, PrintLast.i64_w, PrintLast.i32_w]; rfl)
            have hz := B1.out.size
            have hzd : (wr.drew.alloc (.cells #[.slice none 0 0, .int .i64 0, .slice none 0 0, .slice none 0 0] 28)).heap.size = wr.heap.size + 1 := by simp
            exact PrintLast.norm_ (by simp only [PrintLast.putAll, Act.put, List.setIfInBounds_toArray, List.set_cons_zero, List.set_cons_succ, Nxt.v]) (hCont ⟨X0, x0', X2, x2', X3, x3', wr.heap.size, wr.heap.size + 1, w3.heap.size⟩ _ ⟨B2.out, (hb.block _ (by show wr.heap.size < _; rw [hzd]; omega)).trans (heap_alloc_new wr.drew _), (by have := hX.rd; rw [hzd] at this; exact this), Nat.le_refl _, by simp only; omega, .inl (by simp only; omega), Nat.le_refl _⟩)
        · rintro t wj ⟨hBj, hB9, hX, hl9, hlx, hn9, hhx⟩
          simp only [PrintLast.putAll, Act.put, List.setIfInBounds_toArray, List.set_cons_zero, List.set_cons_succ]
          obtain ⟨X0, x0', X2, x2', X3, x3', g9, lx, hx⟩ := t
          simp only [Nxt.v] at *
          haveI bj : Bel wr wj := ⟨hBj⟩
          replace hl9 : wr.heap.size ≤ g9 := hl9
          replace hlx : wr.heap.size ≤ lx := hlx
          replace hhx : hx ≤ wj.heap.size := hhx
          replace hn9 : g9 < lx ∨ hx ≤ g9 := hn9
          have z0 := block_cell hB9 0 rfl
          have z1 := block_cell hB9 1 rfl
          have z2 := block_cell hB9 2 rfl
          have z3 := block_cell hB9 3 rfl
          have f0 := block_frozen hB9 0
          have f1 := block_frozen hB9 1
          have f2 := block_frozen hB9 2
          have f3 := block_frozen hB9 3
          have hg6 := (Array.getElem?_eq_some_iff.1 hBX.out).1
          have hgr := (Array.getElem?_eq_some_iff.1 hBR.out).1
          have HBX := Lib.hid (block_far4 (block_at (b := bj) hBX.out) (by omega : g6 ≠ g9) (.slice X0 (doDesk (runDesk d (l.take k)) a).now.st.length x0') (.int .i64 (doDesk (runDesk d (l.take k)) a).now.step) (.slice X2 (doDesk (runDesk d (l.take k)) a).now.word.length x2') (.slice X3 (doDesk (runDesk d (l.take k)) a).past.length x3'))
          have HBR := Lib.hid (block_far4 (block_at (b := bj) hBR.out) (by omega : w.heap.size + 1 ≠ g9) (.slice X0 (doDesk (runDesk d (l.take k)) a).now.st.length x0') (.int .i64 (doDesk (runDesk d (l.take k)) a).now.step) (.slice X2 (doDesk (runDesk d (l.take k)) a).now.word.length x2') (.slice X3 (doDesk (runDesk d (l.take k)) a).past.length x3'))
          have HB9 := Lib.hid (block_set4 hB9 (.slice X0 (doDesk (runDesk d (l.take k)) a).now.st.length x0') (.int .i64 (doDesk (runDesk d (l.take k)) a).now.step) (.slice X2 (doDesk (runDesk d (l.take k)) a).now.word.length x2') (.slice X3 (doDesk (runDesk d (l.take k)) a).past.length x3'))
          have HX := Lib.hid (hX.set4 hn9 (.slice X0 (doDesk (runDesk d (l.take k)) a).now.st.length x0') (.int .i64 (doDesk (runDesk d (l.take k)) a).now.step) (.slice X2 (doDesk (runDesk d (l.take k)) a).now.word.length x2') (.slice X3 (doDesk (runDesk d (l.take k)) a).past.length x3'))
          have HDC := Lib.hid ((hD.out.kept (w1 := wj) (fun i _ hj => bj.out.block i (by omega))).set4 (g := g9) (.inr (by omega)) (.slice X0 (doDesk (runDesk d (l.take k)) a).now.st.length x0') (.int .i64 (doDesk (runDesk d (l.take k)) a).now.step) (.slice X2 (doDesk (runDesk d (l.take k)) a).now.word.length x2') (.slice X3 (doDesk (runDesk d (l.take k)) a).past.length x3'))
          have HB := Lib.hid (below_set4 (hB.out.trans (bj.out.mono hB.out.size)) (by have := hB.out.size; omega : w.heap.size ≤ g9) (.slice X0 (doDesk (runDesk d (l.take k)) a).now.st.length x0') (.int .i64 (doDesk (runDesk d (l.take k)) a).now.step) (.slice X2 (doDesk (runDesk d (l.take k)) a).now.word.length x2') (.slice X3 (doDesk (runDesk d (l.take k)) a).past.length x3'))
          have HHX := Lib.hid hhx; have HLX := Lib.hid hlx; have HG6 := Lib.hid hg6; have HSZ := Lib.hid bj.out.size
          clear hB9 hX hBj hn9 hhx hl9
          refine PrintLast.last_ (i := 10) (N := none) #[true, true, true, true, true, true, true, true, true, true, true, false] rfl rfl (by kernel_rfl) (by decide) (fun K hK => ?_)
          refine PrintLast.skip_ (w1 := ?_) (by rfl) rfl ?_ ?_
          rotate_left
          · (go_simp; rfl)
          refine hK.out _ _ ?_
          clear hK K
          refine PrintLast.pure_ (i := 11) (N := (some 10)) (v := ?_) (a' := ?_) #[true, true, true, true, true, true, true, true, true, true, true, true] rfl rfl (by kernel_rfl) (fun _ _ _ h => h) (Or.inl ⟨by rfl, ?_⟩) ?_ ?_
          rotate_left
          · (intro w'; go_simp; with_reducible rfl)
          rotate_left
          · (simp only [Act.put, List.setIfInBounds_toArray, List.set_cons_zero, List.set_cons_succ, PrintLast.i64_w, PrintLast.i32_w]; rfl)
          refine PrintLast.done_ (by kernel_rfl) ?_
          obtain ⟨W5, hW5⟩ : ∃ W5, W5 = set4 wj g9 (.slice X0 (doDesk (runDesk d (l.take k)) a).now.st.length x0') (.int .i64 (doDesk (runDesk d (l.take k)) a).now.step) (.slice X2 (doDesk (runDesk d (l.take k)) a).now.word.length x2') (.slice X3 (doDesk (runDesk d (l.take k)) a).past.length x3') := ⟨_, rfl⟩
          have e5 := hW5
          unfold set4 at e5
          rw [← e5]
          have HZ5 : Hid (W5.heap.size = wj.heap.size) := by show _ = _; rw [hW5, size_set4]
          rw [← hW5] at HBX HBR HB9 HX HDC HB
          clear hW5 e5 z0 z1 z2 z3 f0 f1 f2 f3
          have f0 := block_frozen HBX.out 0
          have f1 := block_frozen HBX.out 1
          have f2 := block_frozen HBX.out 2
          have f3 := block_frozen HBX.out 3
          have x0 := block_cell HBX.out 0 rfl
          have x1 := block_cell HBX.out 1 rfl
          have x2 := block_cell HBX.out 2 rfl
          have x3 := block_cell HBX.out 3 rfl
          have y0 := block_cell HB9.out 0 rfl
          have y1 := block_cell HB9.out 1 rfl
          have y2 := block_cell HB9.out 2 rfl
          have y3 := block_cell HB9.out 3 rfl
          have ZX := Lib.hid (block_set4 HBX.out (.slice X0 (doDesk (runDesk d (l.take k)) a).now.st.length x0') (.int .i64 (doDesk (runDesk d (l.take k)) a).now.step) (.slice X2 (doDesk (runDesk d (l.take k)) a).now.word.length x2') (.slice X3 (doDesk (runDesk d (l.take k)) a).past.length x3'))
          have ZR := Lib.hid (block_far4 HBR.out (by have := HL6.out; omega : w.heap.size + 1 ≠ g6) (.slice X0 (doDesk (runDesk d (l.take k)) a).now.st.length x0') (.int .i64 (doDesk (runDesk d (l.take k)) a).now.step) (.slice X2 (doDesk (runDesk d (l.take k)) a).now.word.length x2') (.slice X3 (doDesk (runDesk d (l.take k)) a).past.length x3'))
          have ZD := Lib.hid (HX.out.set4 (g := g6) (.inl (by have := HLX.out; have := HG6.out; omega)) (.slice X0 (doDesk (runDesk d (l.take k)) a).now.st.length x0') (.int .i64 (doDesk (runDesk d (l.take k)) a).now.step) (.slice X2 (doDesk (runDesk d (l.take k)) a).now.word.length x2') (.slice X3 (doDesk (runDesk d (l.take k)) a).past.length x3'))
          have ZB := Lib.hid (below_set4 HB.out (by have := HL6.out; omega : w.heap.size ≤ g6) (.slice X0 (doDesk (runDesk d (l.take k)) a).now.st.length x0') (.int .i64 (doDesk (runDesk d (l.take k)) a).now.step) (.slice X2 (doDesk (runDesk d (l.take k)) a).now.word.length x2') (.slice X3 (doDesk (runDesk d (l.take k)) a).past.length x3'))
          have ZL : Hid (g6 < lx ∧ w.heap.size + 2 ≤ lx ∧ hx ≤ (set4 W5 g6 (.slice X0 (doDesk (runDesk d (l.take k)) a).now.st.length x0') (.int .i64 (doDesk (runDesk d (l.take k)) a).now.step) (.slice X2 (doDesk (runDesk d (l.take k)) a).now.word.length x2') (.slice X3 (doDesk (runDesk d (l.take k)) a).past.length x3')).heap.size) := by
            show _ ∧ _ ∧ _
            rw [size_set4]
            have := HLX.out; have := HG6.out; have := HHX.out; have := HZ5.out; have := HL6.out
            exact ⟨by omega, by omega, by omega⟩
          obtain ⟨r1, r2⟩ := run_yes HOK.out
          have R1 := Lib.hid r1; have R2 := Lib.hid r2
          clear r1 r2
          go_wp2
          refine ⟨⟨k + 1, by omega, by go_num, ?_, X0, x0', X2, x2', X3, x3', lx, hx, ?_, ZR.out, ?_, ZB.out, .inl ZL.out.1, ZL.out.2.1, ZL.out.2.2⟩, by simp [intOf]; omega⟩
          · rw [HT.out, R2.out]; rfl
          · show _ = _
            rw [HT.out, R1.out]; exact ZX.out
          · show DkR _ _ _ _ _
            rw [HT.out, R1.out]; exact ZD.out
      | false =>
        have HOK := Lib.hid hok; clear hok
        have BZ : Bel wr wr.drew := Bel.drew
        refine PrintLast.start_ (n := 12) (S := fun w' => w'.cell? ⟨g6, 0, none⟩ = some (.slice D0 (runDesk d (l.take k)).now.st.length d0') ∧ w'.cell? ⟨g6, 1, none⟩ = some (.int .i64 (runDesk d (l.take k)).now.step) ∧ w'.cell? ⟨g6, 2, none⟩ = some (.slice D2 (runDesk d (l.take k)).now.word.length d2') ∧ w'.cell? ⟨g6, 3, none⟩ = some (.slice D3 (runDesk d (l.take k)).past.length d3') ∧ w'.cell? ⟨b, o + k * 3, none⟩ = some (.int .i64 a.kind) ∧ w'.cell? ⟨b, o + k * 3 + 1, none⟩ = some (.int .i64 a.a) ∧ w'.cell? ⟨b, o + k * 3 + 2, none⟩ = some (.int .i64 a.b)) (ds := [10]) #[false, false, false, false, false, false, false, false, false, false, false, false] (by kernel_rfl) rfl rfl ⟨block_cell (block_at (b := BZ) hBX.out) 0 rfl, block_cell (block_at (b := BZ) hBX.out) 1 rfl, block_cell (block_at (b := BZ) hBX.out) 2 rfl, block_cell (block_at (b := BZ) hBX.out) 3 rfl, cell_at q0 (b := BZ), cell_at q1 (b := BZ), cell_at q2 (b := BZ)⟩ (fun hHeld => ?_)
        refine PrintLast.take_ (i := 0) (N := (some 20)) (v := ?_) (a' := ?_) #[true, false, false, false, false, false, false, false, false, false, false, false] rfl rfl (by kernel_rfl) (fun _ _ _ h => h) (Or.inl ⟨by rfl, ?_⟩) hHeld ?_ ?_
        rotate_left
        · (rintro w' ⟨s0, s1, s2, s3, s4, s5, s6⟩; go_simp; with_reducible rfl)
        rotate_left
        · (simp only [Act.put, List.setIfInBounds_toArray, List.set_cons_zero, List.set_cons_succ, PrintLast.i64_w, PrintLast.i32_w]; rfl)
        refine PrintLast.pure_ (i := 1) (N := (some 21)) (v := ?_) (a' := ?_) #[true, true, false, false, false, false, false, false, false, false, false, false] rfl rfl (by kernel_rfl) (fun _ _ _ h => h) (Or.inl ⟨by rfl, ?_⟩) ?_ ?_
        rotate_left
        · (intro w'; go_simp; with_reducible rfl)
        rotate_left
        · (simp only [Act.put, List.setIfInBounds_toArray, List.set_cons_zero, List.set_cons_succ, PrintLast.i64_w, PrintLast.i32_w]; rfl)
        refine PrintLast.pure_ (i := 2) (N := (some 22)) (v := ?_) (a' := ?_) #[true, true, true, false, false, false, false, false, false, false, false, false] rfl rfl (by kernel_rfl) (fun _ _ _ h => h) (Or.inl ⟨by rfl, ?_⟩) ?_ ?_
        rotate_left
        · (intro w'; go_simp; with_reducible rfl)
        rotate_left
        · (simp only [Act.put, List.setIfInBounds_toArray, List.set_cons_zero, List.set_cons_succ, PrintLast.i64_w, PrintLast.i32_w]; rfl)
        refine PrintLast.pure_ (i := 3) (N := (some 23)) (v := ?_) (a' := ?_) #[true, true, true, true, false, false, false, false, false, false, false, false] rfl rfl (by kernel_rfl) (fun _ _ _ h => h) (Or.inl ⟨by rfl, ?_⟩) ?_ ?_
        rotate_left
        · (intro w'; go_simp; with_reducible rfl)
        rotate_left
        · (simp only [Act.put, List.setIfInBounds_toArray, List.set_cons_zero, List.set_cons_succ, PrintLast.i64_w, PrintLast.i32_w]; rfl)
        refine PrintLast.take_ (i := 4) (N := (some 24)) (v := ?_) (a' := ?_) #[true, true, true, true, true, false, false, false, false, false, false, false] rfl rfl (by kernel_rfl) (fun _ _ _ h => h) (Or.inl ⟨by rfl, ?_⟩) hHeld ?_ ?_
        rotate_left
        · (rintro w' ⟨s0, s1, s2, s3, s4, s5, s6⟩; go_simp; with_reducible rfl)
        rotate_left
        · (simp only [Act.put, List.setIfInBounds_toArray, List.set_cons_zero, List.set_cons_succ, PrintLast.i64_w, PrintLast.i32_w]; rfl)
        refine PrintLast.join_ (σ := Nxt) 2 #[true, true, true, true, true, true, true, true, true, true, false, false] (fun t => [(25, .tuple #[t.v (doDesk (runDesk d (l.take k)) a), .bool false]), (19, .tuple #[t.v (doDesk (runDesk d (l.take k)) a), .bool false]), (26, t.v (doDesk (runDesk d (l.take k)) a)), (27, .bool false), (9, .pointer (some ⟨t.g9, 0, none⟩))]) (fun t w' => Below wr.heap.size wr w' ∧ w'.heap[t.g9]? = some (.cells #[.slice none 0 0, .int .i64 0, .slice none 0 0, .slice none 0 0] 28 (0, 0)) ∧ DkR w' t.lx t.hx (t.v (doDesk (runDesk d (l.take k)) a)) (doDesk (runDesk d (l.take k)) a) ∧ wr.heap.size ≤ t.g9 ∧ wr.heap.size ≤ t.lx ∧ (t.g9 < t.lx ∨ t.hx ≤ t.g9) ∧ t.hx ≤ w'.heap.size) ?_ ?_
        rotate_left
        · intro hCont
          refine PrintLast.two_ (i := 5) (j := 9) (Ni := some 25) (Nj := some 9) #[true, true, true, true, true, true, false, false, false, false, false, false] #[true, true, true, true, true, false, false, false, false, true, false, false] rfl rfl rfl rfl (by kernel_rfl) (by decide) (by decide) (fun K hK => ?_) (fun K hK => ?_)
          · skip
            refine PrintLast.goes_ Tryd.func9 (by kernel_rfl) rfl #[.agg #[.slice D0 (runDesk d (l.take k)).now.st.length d0', .int .i64 (runDesk d (l.take k)).now.step, .slice D2 (runDesk d (l.take k)).now.word.length d2', .slice D3 (runDesk d (l.take k)).past.length d3'], .agg #[.int .i64 a.kind, .int .i64 a.a, .int .i64 a.b]] (by rfl) rfl rfl (by (try simp only [List.map_toArray, List.map_cons, List.map_nil]); first | done | rfl) ?_
            refine (sDoR_is HOK.out _ _ (hD.out.kept (w1 := wr.drew) (fun i _ hi => (Bel.out (self := BZ) : Below wr.heap.size wr wr.drew).block i (by omega))).dk).mono ?_
            rintro e w3 ⟨vx, rfl, hX, hb⟩
            obtain ⟨X0, x0', X2, x2', X3, x3', rfl⟩ : ∃ X0 x0 X2 x2 X3 x3, vx = .agg #[.slice X0 (doDesk (runDesk d (l.take k)) a).now.st.length x0, .int .i64 (doDesk (runDesk d (l.take k)) a).now.step, .slice X2 (doDesk (runDesk d (l.take k)) a).now.word.length x2, .slice X3 (doDesk (runDesk d (l.take k)) a).past.length x3] := by
              obtain ⟨A0, c0, A2, c2, A3, c3, e, _⟩ := hX.dk.open
              exact ⟨_, _, _, _, _, _, e⟩
            refine ⟨_, rfl, ?_⟩
            have B1 : Bel wr w3 := ⟨(Bel.out (self := BZ) : Below wr.heap.size wr wr.drew).trans (hb.mono (Bel.out (self := BZ) : Below wr.heap.size wr wr.drew).size)⟩
            refine hK.out _ _ ⟨block_cell (block_at (b := B1) hBX.out) 0 rfl, block_cell (block_at (b := B1) hBX.out) 1 rfl, block_cell (block_at (b := B1) hBX.out) 2 rfl, block_cell (block_at (b := B1) hBX.out) 3 rfl, cell_at q0 (b := B1), cell_at q1 (b := B1), cell_at q2 (b := B1)⟩ (fun hHeld => ?_)
            clear hK K
            refine PrintLast.norm_ (a' := ?_) ?_ ?_
            rotate_left
            · (show Act.put _ (some 25) _ = _; simp only [Act.put, List.setIfInBounds_toArray, List.set_cons_zero, List.set_cons_succ, PrintLast.i64_w, PrintLast.i32_w]; rfl)
            refine PrintLast.pure_ (i := 6) (N := (some 19)) (v := ?_) (a' := ?_) #[true, true, true, true, true, true, true, false, false, false, false, false] rfl rfl (by kernel_rfl) (fun _ _ _ h => h) (Or.inl ⟨by rfl, ?_⟩) ?_ ?_
            rotate_left
            · (intro w'; go_simp; with_reducible rfl)
            rotate_left
            · (simp only [Act.put, List.setIfInBounds_toArray, List.set_cons_zero, List.set_cons_succ, PrintLast.i64_w, PrintLast.i32_w]; rfl)
            refine PrintLast.pure_ (i := 7) (N := (some 26)) (v := ?_) (a' := ?_) #[true, true, true, true, true, true, true, true, false, false, false, false] rfl rfl (by kernel_rfl) (fun _ _ _ h => h) (Or.inl ⟨by rfl, ?_⟩) ?_ ?_
            rotate_left
            · (intro w'; go_simp; with_reducible rfl)
            rotate_left
            · (simp only [Act.put, List.setIfInBounds_toArray, List.set_cons_zero, List.set_cons_succ, PrintLast.i64_w, PrintLast.i32_w]; rfl)
            refine PrintLast.pure_ (i := 8) (N := (some 27)) (v := ?_) (a' := ?_) #[true, true, true, true, true, true, true, true, true, false, false, false] rfl rfl (by kernel_rfl) (fun _ _ _ h => h) (Or.inl ⟨by rfl, ?_⟩) ?_ ?_
            rotate_left
            · (intro w'; go_simp; with_reducible rfl)
            rotate_left
            · (simp only [Act.put, List.setIfInBounds_toArray, List.set_cons_zero, List.set_cons_succ, PrintLast.i64_w, PrintLast.i32_w]; rfl)
            refine PrintLast.one_ (i := 9) (N := (some 9)) #[true, true, true, true, true, true, true, true, true, true, false, false] rfl rfl (by kernel_rfl) (by decide) (fun K hK => ?_)
            refine PrintLast.value_ (w1 := ?_) (v := ?_) (by rfl) rfl ?_ ?_
            rotate_left 2
            · (go_simp; constructor <;> rfl)
            have B2 : Bel wr (w3.alloc (.cells #[.slice none 0 0, .int .i64 0, .slice none 0 0, .slice none 0 0] 28)) := ⟨(Bel.out (self := B1) : Below wr.heap.size wr w3).alloc (Bel.out (self := B1) : Below wr.heap.size wr w3).size _⟩
            refine hK.out _ _ ⟨block_cell (block_at (b := B2) hBX.out) 0 rfl, block_cell (block_at (b := B2) hBX.out) 1 rfl, block_cell (block_at (b := B2) hBX.out) 2 rfl, block_cell (block_at (b := B2) hBX.out) 3 rfl, cell_at q0 (b := B2), cell_at q1 (b := B2), cell_at q2 (b := B2)⟩ (fun hHeld => ?_)
            clear hK K
            refine PrintLast.norm_ (a' := ?_) ?_ ?_
            rotate_left
            · (show Act.put _ (some 9) _ = _; simp only [Act.put, List.setIfInBounds_toArray, List.set_cons_zero, List.set_cons_succ, PrintLast.i64_w, PrintLast.i32_w]; rfl)
            have hz := B1.out.size
            have hal : Below w3.heap.size w3 (w3.alloc (.cells #[.slice none 0 0, .int .i64 0, .slice none 0 0, .slice none 0 0] 28)) := (Bel.alloc (w := w3) (W := w3)).out
            exact PrintLast.norm_ (by simp only [PrintLast.putAll, Act.put, List.setIfInBounds_toArray, List.set_cons_zero, List.set_cons_succ, Nxt.v]) (hCont ⟨X0, x0', X2, x2', X3, x3', w3.heap.size, wr.heap.size, w3.heap.size⟩ _ ⟨B2.out, heap_alloc_new _ _, hX.rd.kept (fun i _ hi => hal.block i hi), hz, Nat.le_refl _, .inr (Nat.le_refl _), hal.size⟩)
          · skip
            refine PrintLast.value_ (w1 := ?_) (v := ?_) (by rfl) rfl ?_ ?_
            rotate_left 2
            · (go_simp; constructor <;> rfl)
            have B1 : Bel wr (wr.drew.alloc (.cells #[.slice none 0 0, .int .i64 0, .slice none 0 0, .slice none 0 0] 28)) := ⟨(Bel.out (self := BZ) : Below wr.heap.size wr wr.drew).alloc (Bel.out (self := BZ) : Below wr.heap.size wr wr.drew).size _⟩
            refine hK.out _ _ ⟨block_cell (block_at (b := B1) hBX.out) 0 rfl, block_cell (block_at (b := B1) hBX.out) 1 rfl, block_cell (block_at (b := B1) hBX.out) 2 rfl, block_cell (block_at (b := B1) hBX.out) 3 rfl, cell_at q0 (b := B1), cell_at q1 (b := B1), cell_at q2 (b := B1)⟩ (fun hHeld => ?_)
            clear hK K
            refine PrintLast.norm_ (a' := ?_) ?_ ?_
            rotate_left
            · (show Act.put _ (some 9) _ = _; simp only [Act.put, List.setIfInBounds_toArray, List.set_cons_zero, List.set_cons_succ, PrintLast.i64_w, PrintLast.i32_w]; rfl)
            refine PrintLast.one_ (i := 5) (N := (some 25)) #[true, true, true, true, true, true, false, false, false, true, false, false] rfl rfl (by kernel_rfl) (by decide) (fun K hK => ?_)
            refine PrintLast.goes_ Tryd.func9 (by kernel_rfl) rfl #[.agg #[.slice D0 (runDesk d (l.take k)).now.st.length d0', .int .i64 (runDesk d (l.take k)).now.step, .slice D2 (runDesk d (l.take k)).now.word.length d2', .slice D3 (runDesk d (l.take k)).past.length d3'], .agg #[.int .i64 a.kind, .int .i64 a.a, .int .i64 a.b]] (by rfl) rfl rfl (by (try simp only [List.map_toArray, List.map_cons, List.map_nil]); first | done | rfl) ?_
            refine (sDoR_is HOK.out _ _ (hD.out.kept (w1 := (wr.drew.alloc (.cells #[.slice none 0 0, .int .i64 0, .slice none 0 0, .slice none 0 0] 28))) (fun i _ hi => (Bel.out (self := B1) : Below wr.heap.size wr (wr.drew.alloc (.cells #[.slice none 0 0, .int .i64 0, .slice none 0 0, .slice none 0 0] 28))).block i (by omega))).dk).mono ?_
            rintro e w3 ⟨vx, rfl, hX, hb⟩
            obtain ⟨X0, x0', X2, x2', X3, x3', rfl⟩ : ∃ X0 x0 X2 x2 X3 x3, vx = .agg #[.slice X0 (doDesk (runDesk d (l.take k)) a).now.st.length x0, .int .i64 (doDesk (runDesk d (l.take k)) a).now.step, .slice X2 (doDesk (runDesk d (l.take k)) a).now.word.length x2, .slice X3 (doDesk (runDesk d (l.take k)) a).past.length x3] := by
              obtain ⟨A0, c0, A2, c2, A3, c3, e, _⟩ := hX.dk.open
              exact ⟨_, _, _, _, _, _, e⟩
            refine ⟨_, rfl, ?_⟩
            have B2 : Bel wr w3 := ⟨(Bel.out (self := B1) : Below wr.heap.size wr (wr.drew.alloc (.cells #[.slice none 0 0, .int .i64 0, .slice none 0 0, .slice none 0 0] 28))).trans (hb.mono (Bel.out (self := B1) : Below wr.heap.size wr (wr.drew.alloc (.cells #[.slice none 0 0, .int .i64 0, .slice none 0 0, .slice none 0 0] 28))).size)⟩
            refine hK.out _ _ ⟨block_cell (block_at (b := B2) hBX.out) 0 rfl, block_cell (block_at (b := B2) hBX.out) 1 rfl, block_cell (block_at (b := B2) hBX.out) 2 rfl, block_cell (block_at (b := B2) hBX.out) 3 rfl, cell_at q0 (b := B2), cell_at q1 (b := B2), cell_at q2 (b := B2)⟩ (fun hHeld => ?_)
            clear hK K
            refine PrintLast.norm_ (a' := ?_) ?_ ?_
            rotate_left
            · (show Act.put _ (some 25) _ = _; simp only [Act.put, List.setIfInBounds_toArray, List.set_cons_zero, List.set_cons_succ, PrintLast.i64_w, PrintLast.i32_w]; rfl)
            refine PrintLast.pure_ (i := 6) (N := (some 19)) (v := ?_) (a' := ?_) #[true, true, true, true, true, true, true, false, false, true, false, false] rfl rfl (by kernel_rfl) (fun _ _ _ h => h) (Or.inl ⟨by rfl, ?_⟩) ?_ ?_
            rotate_left
            · (intro w'; go_simp; with_reducible rfl)
            rotate_left
            · (simp only [Act.put, List.setIfInBounds_toArray, List.set_cons_zero, List.set_cons_succ, PrintLast.i64_w, PrintLast.i32_w]; rfl)
            refine PrintLast.pure_ (i := 7) (N := (some 26)) (v := ?_) (a' := ?_) #[true, true, true, true, true, true, true, true, false, true, false, false] rfl rfl (by kernel_rfl) (fun _ _ _ h => h) (Or.inl ⟨by rfl, ?_⟩) ?_ ?_
            rotate_left
            · (intro w'; go_simp; with_reducible rfl)
            rotate_left
            · (simp only [Act.put, List.setIfInBounds_toArray, List.set_cons_zero, List.set_cons_succ, PrintLast.i64_w, PrintLast.i32_w]; rfl)
            refine PrintLast.pure_ (i := 8) (N := (some 27)) (v := ?_) (a' := ?_) #[true, true, true, true, true, true, true, true, true, true, false, false] rfl rfl (by kernel_rfl) (fun _ _ _ h => h) (Or.inl ⟨by rfl, ?_⟩) ?_ ?_
            rotate_left
            · (intro w'; go_simp; with_reducible rfl)
            rotate_left
            · (simp only [Act.put, List.setIfInBounds_toArray, List.set_cons_zero, List.set_cons_succ, PrintLast.i64_w, PrintLast.i32_w]; rfl)
            have hz := B1.out.size
            have hzd : (wr.drew.alloc (.cells #[.slice none 0 0, .int .i64 0, .slice none 0 0, .slice none 0 0] 28)).heap.size = wr.heap.size + 1 := by simp
            exact PrintLast.norm_ (by simp only [PrintLast.putAll, Act.put, List.setIfInBounds_toArray, List.set_cons_zero, List.set_cons_succ, Nxt.v]) (hCont ⟨X0, x0', X2, x2', X3, x3', wr.heap.size, wr.heap.size + 1, w3.heap.size⟩ _ ⟨B2.out, (hb.block _ (by show wr.heap.size < _; rw [hzd]; omega)).trans (heap_alloc_new wr.drew _), (by have := hX.rd; rw [hzd] at this; exact this), Nat.le_refl _, by simp only; omega, .inl (by simp only; omega), Nat.le_refl _⟩)
        · rintro t wj ⟨hBj, hB9, hX, hl9, hlx, hn9, hhx⟩
          simp only [PrintLast.putAll, Act.put, List.setIfInBounds_toArray, List.set_cons_zero, List.set_cons_succ]
          obtain ⟨X0, x0', X2, x2', X3, x3', g9, lx, hx⟩ := t
          simp only [Nxt.v] at *
          haveI bj : Bel wr wj := ⟨hBj⟩
          replace hl9 : wr.heap.size ≤ g9 := hl9
          replace hlx : wr.heap.size ≤ lx := hlx
          replace hhx : hx ≤ wj.heap.size := hhx
          replace hn9 : g9 < lx ∨ hx ≤ g9 := hn9
          have z0 := block_cell hB9 0 rfl
          have z1 := block_cell hB9 1 rfl
          have z2 := block_cell hB9 2 rfl
          have z3 := block_cell hB9 3 rfl
          have f0 := block_frozen hB9 0
          have f1 := block_frozen hB9 1
          have f2 := block_frozen hB9 2
          have f3 := block_frozen hB9 3
          have hg6 := (Array.getElem?_eq_some_iff.1 hBX.out).1
          have hgr := (Array.getElem?_eq_some_iff.1 hBR.out).1
          have HBX := Lib.hid (block_far4 (block_at (b := bj) hBX.out) (by omega : g6 ≠ g9) (.slice X0 (doDesk (runDesk d (l.take k)) a).now.st.length x0') (.int .i64 (doDesk (runDesk d (l.take k)) a).now.step) (.slice X2 (doDesk (runDesk d (l.take k)) a).now.word.length x2') (.slice X3 (doDesk (runDesk d (l.take k)) a).past.length x3'))
          have HBR := Lib.hid (block_far4 (block_at (b := bj) hBR.out) (by omega : w.heap.size + 1 ≠ g9) (.slice X0 (doDesk (runDesk d (l.take k)) a).now.st.length x0') (.int .i64 (doDesk (runDesk d (l.take k)) a).now.step) (.slice X2 (doDesk (runDesk d (l.take k)) a).now.word.length x2') (.slice X3 (doDesk (runDesk d (l.take k)) a).past.length x3'))
          have HB9 := Lib.hid (block_set4 hB9 (.slice X0 (doDesk (runDesk d (l.take k)) a).now.st.length x0') (.int .i64 (doDesk (runDesk d (l.take k)) a).now.step) (.slice X2 (doDesk (runDesk d (l.take k)) a).now.word.length x2') (.slice X3 (doDesk (runDesk d (l.take k)) a).past.length x3'))
          have HX := Lib.hid (hX.set4 hn9 (.slice X0 (doDesk (runDesk d (l.take k)) a).now.st.length x0') (.int .i64 (doDesk (runDesk d (l.take k)) a).now.step) (.slice X2 (doDesk (runDesk d (l.take k)) a).now.word.length x2') (.slice X3 (doDesk (runDesk d (l.take k)) a).past.length x3'))
          have HDC := Lib.hid ((hD.out.kept (w1 := wj) (fun i _ hj => bj.out.block i (by omega))).set4 (g := g9) (.inr (by omega)) (.slice X0 (doDesk (runDesk d (l.take k)) a).now.st.length x0') (.int .i64 (doDesk (runDesk d (l.take k)) a).now.step) (.slice X2 (doDesk (runDesk d (l.take k)) a).now.word.length x2') (.slice X3 (doDesk (runDesk d (l.take k)) a).past.length x3'))
          have HB := Lib.hid (below_set4 (hB.out.trans (bj.out.mono hB.out.size)) (by have := hB.out.size; omega : w.heap.size ≤ g9) (.slice X0 (doDesk (runDesk d (l.take k)) a).now.st.length x0') (.int .i64 (doDesk (runDesk d (l.take k)) a).now.step) (.slice X2 (doDesk (runDesk d (l.take k)) a).now.word.length x2') (.slice X3 (doDesk (runDesk d (l.take k)) a).past.length x3'))
          have HHX := Lib.hid hhx; have HLX := Lib.hid hlx; have HG6 := Lib.hid hg6; have HSZ := Lib.hid bj.out.size
          clear hB9 hX hBj hn9 hhx hl9
          refine PrintLast.last_ (i := 10) (N := none) #[true, true, true, true, true, true, true, true, true, true, true, false] rfl rfl (by kernel_rfl) (by decide) (fun K hK => ?_)
          refine PrintLast.skip_ (w1 := ?_) (by rfl) rfl ?_ ?_
          rotate_left
          · (go_simp; rfl)
          refine hK.out _ _ ?_
          clear hK K
          refine PrintLast.pure_ (i := 11) (N := (some 10)) (v := ?_) (a' := ?_) #[true, true, true, true, true, true, true, true, true, true, true, true] rfl rfl (by kernel_rfl) (fun _ _ _ h => h) (Or.inl ⟨by rfl, ?_⟩) ?_ ?_
          rotate_left
          · (intro w'; go_simp; with_reducible rfl)
          rotate_left
          · (simp only [Act.put, List.setIfInBounds_toArray, List.set_cons_zero, List.set_cons_succ, PrintLast.i64_w, PrintLast.i32_w]; rfl)
          refine PrintLast.done_ (by kernel_rfl) ?_
          obtain ⟨W5, hW5⟩ : ∃ W5, W5 = set4 wj g9 (.slice X0 (doDesk (runDesk d (l.take k)) a).now.st.length x0') (.int .i64 (doDesk (runDesk d (l.take k)) a).now.step) (.slice X2 (doDesk (runDesk d (l.take k)) a).now.word.length x2') (.slice X3 (doDesk (runDesk d (l.take k)) a).past.length x3') := ⟨_, rfl⟩
          have e5 := hW5
          unfold set4 at e5
          rw [← e5]
          have HZ5 : Hid (W5.heap.size = wj.heap.size) := by show _ = _; rw [hW5, size_set4]
          rw [← hW5] at HBX HBR HB9 HX HDC HB
          clear hW5 e5 z0 z1 z2 z3 f0 f1 f2 f3
          obtain ⟨r1, r2⟩ := run_no HOK.out
          have R1 := Lib.hid r1; have R2 := Lib.hid r2
          have ZH : Hid (hi ≤ W5.heap.size) := by show _ ≤ _; have := HZ5.out; have := HSZ.out; omega
          clear r1 r2
          go_wp2
          refine ⟨⟨k + 1, by omega, by go_num, ?_, D0, d0', D2, d2', D3, d3', lo, hi, ?_, HBR.out, ?_, HB.out, hlo, hlo2, ZH.out⟩, by simp [intOf]; omega⟩
          · rw [HT.out, R2.out]
          · show _ = _
            rw [HT.out, R1.out]; exact HBX.out
          · show DkR _ _ _ _ _
            rw [HT.out, R1.out]; exact HDC.out
    · obtain rfl : k = l.length := by omega
      rw [List.take_of_length_le (Nat.le_refl _)] at *
      have x0 := block_cell hBX.out 0 rfl
      have x1 := block_cell hBX.out 1 rfl
      have x2 := block_cell hBX.out 2 rfl
      have x3 := block_cell hBX.out 3 rfl
      have r0 := block_cell hBR.out 0 rfl
      have r1 := block_cell hBR.out 1 rfl
      have r2 := block_cell hBR.out 2 rfl
      have r3 := block_cell hBR.out 3 rfl
      have f0 := block_frozen hBR.out 0
      have f1 := block_frozen hBR.out 1
      have f2 := block_frozen hBR.out 2
      have f3 := block_frozen hBR.out 3
      have HF := Lib.hid (hD.out.set4 (g := w.heap.size + 1) (.inl (by omega)) (.slice D0 (runDesk d l).now.st.length d0') (.int .i64 (runDesk d l).now.step) (.slice D2 (runDesk d l).now.word.length d2') (.slice D3 (runDesk d l).past.length d3'))
      have HFB := Lib.hid (below_set4 hB.out (by omega : w.heap.size ≤ w.heap.size + 1) (.slice D0 (runDesk d l).now.st.length d0') (.int .i64 (runDesk d l).now.step) (.slice D2 (runDesk d l).now.word.length d2') (.slice D3 (runDesk d l).past.length d3'))
      go_wp2
      exact bodyPost_ret (v := .tuple #[.agg #[.slice D0 (runDesk d l).now.st.length d0', .int .i64 (runDesk d l).now.step, .slice D2 (runDesk d l).now.word.length d2', .slice D3 (runDesk d l).past.length d3'], .int .i64 (runMany d l)]) (by simp [results, Tryd.results54, go_sem, r0, r1, r2, r3]) rfl ⟨_, rfl, fun WW hk => HF.out WW (fun i a b => hk i (by omega) (by simp only [World.size_setCell]; omega)), HFB.out⟩
end Go.Proofs.YtpfncjaclgcbnaaDoor.Ub
