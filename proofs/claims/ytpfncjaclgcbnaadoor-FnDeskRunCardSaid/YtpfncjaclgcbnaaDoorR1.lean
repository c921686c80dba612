/- Deeds in memory; the contract of deeds done one after the other. -/
import Derived.Test.YtpfncjaclgcbnaaDoorF15
import Derived.Test.YtpfncjaclgcbnaaDoorF21
set_option linter.unusedVariables false
set_option linter.unusedSimpArgs false
namespace Go.Proofs.YtpfncjaclgcbnaaDoor.Ub
open Go.RowKit Go.Proofs.YtpfncjaclgcbnaaDoorW

def e0 : Dd := ⟨0, 0, 0⟩
/-- The slice v reads as deeds. -/
def Dds (w : World) (v : Value) (l : List Dd) : Prop := l.length ≤ 9223372036854775807 ∧ ∃ A c, v = .slice A l.length c ∧ l.length ≤ c ∧
  ∀ j, j < l.length → ∃ b o, A = some ⟨b, o, none⟩ ∧ w.cell? ⟨b, o + j * 3, none⟩ = some (.int .i64 (l.getD j e0).kind) ∧ w.cell? ⟨b, o + j * 3 + 1, none⟩ = some (.int .i64 (l.getD j e0).a) ∧ w.cell? ⟨b, o + j * 3 + 2, none⟩ = some (.int .i64 (l.getD j e0).b)
theorem Dds.ext {w w1 : World} {v : Value} {l : List Dd} (h : Dds w v l) (he : Ext w w1) : Dds w1 v l := by
  obtain ⟨hm, A, c, rfl, hl, hc⟩ := h
  exact ⟨hm, A, c, rfl, hl, fun j hj => by obtain ⟨b, o, e, k0, k1, k2⟩ := hc j hj; exact ⟨b, o, e, he _ _ k0, he _ _ k1, he _ _ k2⟩⟩
theorem Dds.at {w W : World} {v : Value} {l : List Dd} (h : Dds w v l) [b : Bel w W] : Dds W v l := h.ext (Bel.ext w)
theorem Dds.form {w : World} {v : Value} {l : List Dd} (h : Dds w v l) : ∃ A c, v = .slice A l.length c := by
  obtain ⟨_, A, c, e, _⟩ := h
  exact ⟨A, c, e⟩
theorem take_getD' {α : Type} (xs : List α) (z : α) (k : Nat) (h : k < xs.length) : xs.take (k + 1) = xs.take k ++ [xs.getD k z] := by
  rw [List.take_add_one]; simp [List.getD, h]
theorem run_yes {d : Dk} {l : List Dd} {a : Dd} (h : doOk (runDesk d l) a = true) : runDesk d (l ++ [a]) = doDesk (runDesk d l) a ∧ runMany d (l ++ [a]) = runMany d l + 1 := by
  obtain ⟨h1, h2⟩ := run_append d l [a]
  rw [h1, h2]
  simp [runDesk, runMany, h]
theorem run_no {d : Dk} {l : List Dd} {a : Dd} (h : doOk (runDesk d l) a = false) : runDesk d (l ++ [a]) = runDesk d l ∧ runMany d (l ++ [a]) = runMany d l := by
  obtain ⟨h1, h2⟩ := run_append d l [a]
  rw [h1, h2]
  simp [runDesk, runMany, h]

theorem iDoR_is {d : Dk} {a : Dd} {b : Bool} (h : doOk d a = b) (v : Value) (w : World) (h0 : DkI w v d) (he : Env w) :
    Calls Tryd.prog 8 #[v, .agg #[.int .i64 a.kind, .int .i64 a.a, .int .i64 a.b]] w fun e w' => ∃ v', e = .returned (.tuple #[v', .bool b]) ∧ (∃ f, DkW w' w.heap.size w'.heap.size f v' (doDesk d a)) ∧ Below w.heap.size w w' := by
  have := i_DeskDo v d a w h0 he
  rw [h] at this; exact this

set_option maxHeartbeats 4000000 in
set_option maxRecDepth 100000 in
theorem i_doAll (v vl : Value) (d : Dk) (l : List Dd) (w : World) (h : DkI w v d) (hl : Dds w vl l) (he : Env w) (hs : d.now.st.length ≤ 1000) (hw : d.now.word.length ≤ 1000) (hp : d.past.length ≤ 1000) (hps : ∀ j, j < d.past.length → (d.past.getD j z0).st.length ≤ 1000 ∧ (d.past.getD j z0).word.length ≤ 1000) :
    Calls Tryd.prog 53 #[v, vl] w fun e w' => ∃ v', e = .returned (.tuple #[v', .int .i64 (runMany d l)]) ∧ (∃ f, DkW w' w.heap.size w'.heap.size f v' (runDesk d l)) ∧ Below w.heap.size w w' := by
  obtain ⟨A0, c0, A2, c2, A3, c3, rfl, i0, i2, i3⟩ := h.open
  have HL := Lib.hid hl
  obtain ⟨hlm, A, cl, rfl, hlc, _⟩ := hl
  have HEN := Lib.hid he
  have HPS := Lib.hid hps
  clear h hps he
  obtain ⟨W0, hW0⟩ : ∃ W0, W0 = (w.alloc (.cells #[.slice A0 d.now.st.length c0, .int .i64 d.now.step, .slice A2 d.now.word.length c2, .slice A3 d.past.length c3] 28)).alloc (.cells #[.slice none 0 0, .int .i64 0, .slice none 0 0, .slice none 0 0] 28) := ⟨_, rfl⟩
  have hb0 : Below w.heap.size w W0 := by rw [hW0]; exact ((Below.refl _ _).alloc (Nat.le_refl _) _).alloc (by simp) _
  have BX : W0.heap[w.heap.size]? = some (.cells #[.slice A0 d.now.st.length c0, .int .i64 d.now.step, .slice A2 d.now.word.length c2, .slice A3 d.past.length c3] 28 (0, 0)) := by rw [hW0]; exact (heap_alloc_old _ _ (by simp)).trans (heap_alloc_new w _)
  have BR : W0.heap[w.heap.size + 1]? = some (.cells #[.slice none 0 0, .int .i64 0, .slice none 0 0, .slice none 0 0] 28 (0, 0)) := by rw [hW0]; simpa using heap_alloc_new (w.alloc (.cells #[.slice A0 d.now.st.length c0, .int .i64 d.now.step, .slice A2 d.now.word.length c2, .slice A3 d.past.length c3] 28)) _
  haveI b0 : Bel w W0 := ⟨hb0⟩
  have x0 := block_cell BX 0 rfl
  have x1 := block_cell BX 1 rfl
  have x2 := block_cell BX 2 rfl
  have x3 := block_cell BX 3 rfl
  have hz0 : w.heap.size + 2 ≤ W0.heap.size := by rw [hW0]; simp
  have HZ0 := Lib.hid hz0
  go_enter Tryd.func53, Tryd.ntmps53
  go_upto_region 2 with (fail)
  rw [← hW0]
  clear hW0 hb0 hz0
  go_wp2_with fail
  refine (i_copyDesk _ d _ (DkI.mk i0.at i2.at i3.at) hs hw hp HPS.out).mono ?_
  rintro e w1 ⟨v1, rfl, ⟨f, hD⟩, hb1⟩
  obtain ⟨D0, e0', D2, e2, D3, e3, rfl⟩ : ∃ X0 x0 X2 x2 X3 x3, v1 = .agg #[.slice X0 d.now.st.length x0, .int .i64 d.now.step, .slice X2 d.now.word.length x2, .slice X3 d.past.length x3] := by
    obtain ⟨A0, c0, A2, c2, A3, c3, e, _⟩ := hD.dk.open
    exact ⟨_, _, _, _, _, _, e⟩
  haveI b01 : Bel W0 w1 := Bel.step (w := W0) hb1
  haveI bw1 : Bel w w1 := Bel.step (w := w) b01.out
  have BX1 := block_at (W := w1) BX
  have BR1 := block_at (W := w1) BR
  clear x0 x1 x2 x3 BX BR hb1
  have x0 := block_cell BX1 0 rfl
  have x1 := block_cell BX1 1 rfl
  have x2 := block_cell BX1 2 rfl
  have x3 := block_cell BX1 3 rfl
  have f0 := block_frozen BX1 0
  have f1 := block_frozen BX1 1
  have f2 := block_frozen BX1 2
  have f3 := block_frozen BX1 3
  have HBX := Lib.hid (block_set4 BX1 (.slice D0 d.now.st.length e0') (.int .i64 d.now.step) (.slice D2 d.now.word.length e2) (.slice D3 d.past.length e3))
  have HBR := Lib.hid (block_far4 BR1 (by omega : w.heap.size + 1 ≠ w.heap.size) (.slice D0 d.now.st.length e0') (.int .i64 d.now.step) (.slice D2 d.now.word.length e2) (.slice D3 d.past.length e3))
  have HD := Lib.hid (((hD.weak.set4 BX1 (by decide) (by decide) (.slice D0 d.now.st.length e0') (.int .i64 d.now.step) (.slice D2 d.now.word.length e2) (.slice D3 d.past.length e3)).lo (lo' := w.heap.size) (by have := HZ0.out; omega)).hi (hi' := (set4 w1 w.heap.size (.slice D0 d.now.st.length e0') (.int .i64 d.now.step) (.slice D2 d.now.word.length e2) (.slice D3 d.past.length e3)).heap.size) (by rw [size_set4]; exact Nat.le_refl _))
  have HB := Lib.hid (below_set4 bw1.out (Nat.le_refl _) (.slice D0 d.now.st.length e0') (.int .i64 d.now.step) (.slice D2 d.now.word.length e2) (.slice D3 d.past.length e3))
  clear BX1 BR1 hD
  go_upto_region 3 with (fail)
  obtain ⟨W2, hW2⟩ : ∃ W2, W2 = set4 w1 w.heap.size (.slice D0 d.now.st.length e0') (.int .i64 d.now.step) (.slice D2 d.now.word.length e2) (.slice D3 d.past.length e3) := ⟨_, rfl⟩
  have eW := hW2
  unfold set4 at eW
  rw [← eW]
  rw [← hW2] at HBX HBR HD HB
  clear hW2 eW x0 x1 x2 x3 f0 f1 f2 f3 b01 bw1
  go_wp2
  have HS1 : Hid (w.heap.size < W2.heap.size) := (Array.getElem?_eq_some_iff.1 HBX.out).1
  go_loopw [6, 15] (fun n i wr => ∃ k : Nat, k ≤ l.length ∧ i = .int .i64 k ∧ n = .int .i64 (runMany d (l.take k)) ∧ ∃ D0 e0 D2 e2 D3 e3 f, Hid (wr.heap[w.heap.size]? = some (.cells #[.slice D0 (runDesk d (l.take k)).now.st.length e0, .int .i64 (runDesk d (l.take k)).now.step, .slice D2 (runDesk d (l.take k)).now.word.length e2, .slice D3 (runDesk d (l.take k)).past.length e3] 28 (0, 0))) ∧ Hid (wr.heap[w.heap.size + 1]? = some (.cells #[.slice none 0 0, .int .i64 0, .slice none 0 0, .slice none 0 0] 28 (0, 0))) ∧
    Hid (DkW wr w.heap.size wr.heap.size f (.agg #[.slice D0 (runDesk d (l.take k)).now.st.length e0, .int .i64 (runDesk d (l.take k)).now.step, .slice D2 (runDesk d (l.take k)).now.word.length e2, .slice D3 (runDesk d (l.take k)).past.length e3]) (runDesk d (l.take k))) ∧ Hid (Below w.heap.size w wr)) (fun _ i _ => l.length - (intOf i).toNat)
  case atStart => exact ⟨0, by omega, rfl, rfl, D0, e0', D2, e2, D3, e3, f, HBX.out, HBR.out, HD.out, HB.out⟩
  case round =>
    obtain ⟨k, hk, rfl, rfl, D0, e0', D2, e2, D3, e3, f, hBX, hBR, hD, hB⟩ := hrel
    clear HBX HBR HD HB HS1
    haveI bwr : Bel w wr := ⟨hB.out⟩
    have hcn := runMany_le d (l.take k)
    have hcn2 : runMany d (l.take k) ≤ k := by rw [List.length_take] at hcn; omega
    clear hcn
    by_cases hlt : k < l.length
    · have HT := Lib.hid (take_getD' l e0 k hlt)
      obtain ⟨_, _, _, eA, _, hcell⟩ := HL.out
      cases eA
      obtain ⟨b, o, rfl, q0, q1, q2⟩ := hcell k hlt
      clear hcell
      generalize l.getD k e0 = a at *
      replace q0 := cell_at q0 (W := wr)
      replace q1 := cell_at q1 (W := wr)
      replace q2 := cell_at q2 (W := wr)
      cases hok : doOk (runDesk d (l.take k)) a with
      | true =>
        have HOK := Lib.hid hok; clear hok
        have x0 := fun o => cell_at (W := wr.alloc o) (block_cell hBX.out 0 rfl)
        have x1 := fun o => cell_at (W := wr.alloc o) (block_cell hBX.out 1 rfl)
        have x2 := fun o => cell_at (W := wr.alloc o) (block_cell hBX.out 2 rfl)
        have x3 := fun o => cell_at (W := wr.alloc o) (block_cell hBX.out 3 rfl)
        go_wp2_with fail
        clear x0 x1 x2 x3
        have hal : Bel wr (wr.alloc (.cells #[.int .i64 a.kind, .int .i64 a.a, .int .i64 a.b] 30)) := Bel.alloc
        refine (iDoR_is HOK.out _ _ (hD.out.dk.at (b := hal)) HEN.out.at).mono ?_
        rintro e w3 ⟨vx, rfl, ⟨f3', hX⟩, hb3⟩
        obtain ⟨X0, z0', X2, z2', X3, z3', rfl⟩ : ∃ X0 x0 X2 x2 X3 x3, vx = .agg #[.slice X0 (doDesk (runDesk d (l.take k)) a).now.st.length x0, .int .i64 (doDesk (runDesk d (l.take k)) a).now.step, .slice X2 (doDesk (runDesk d (l.take k)) a).now.word.length x2, .slice X3 (doDesk (runDesk d (l.take k)) a).past.length x3] := by
          obtain ⟨A0, c0, A2, c2, A3, c3, e, _⟩ := hX.dk.open
          exact ⟨_, _, _, _, _, _, e⟩
        haveI b3 : Bel wr w3 := ⟨hal.out.trans (hb3.mono hal.out.size)⟩
        have hwz : w.heap.size ≤ wr.heap.size := hB.out.size
        have hX' := hX.lo (lo' := w.heap.size) (by have := hal.out.size; omega)
        go_upto_region 7 with (fail)
        obtain ⟨W5, hW5⟩ : ∃ W5, W5 = w3.alloc (.cells #[.slice X0 (doDesk (runDesk d (l.take k)) a).now.st.length z0', .int .i64 (doDesk (runDesk d (l.take k)) a).now.step, .slice X2 (doDesk (runDesk d (l.take k)) a).now.word.length z2', .slice X3 (doDesk (runDesk d (l.take k)) a).past.length z3'] 28) := ⟨_, rfl⟩
        rw [← hW5]
        haveI b5 : Bel w3 W5 := by rw [hW5]; exact Bel.alloc
        haveI b35 : Bel wr W5 := Bel.step (w := wr) b5.out
        haveI bw5 : Bel w W5 := Bel.step (w := w) b35.out
        have hz5 : w3.heap.size + 1 = W5.heap.size := by rw [hW5]; simp
        have HBY : Hid (W5.heap[w3.heap.size]? = some (.cells #[.slice X0 (doDesk (runDesk d (l.take k)) a).now.st.length z0', .int .i64 (doDesk (runDesk d (l.take k)) a).now.step, .slice X2 (doDesk (runDesk d (l.take k)) a).now.word.length z2', .slice X3 (doDesk (runDesk d (l.take k)) a).past.length z3'] 28 (0, 0))) := by show _ = _; rw [hW5]; exact heap_alloc_new _ _
        have HBX := Lib.hid (block_at (W := W5) hBX.out)
        have HBR := Lib.hid (block_at (W := W5) hBR.out)
        have HY := Lib.hid ((hX'.kept (w1 := W5) (fun i _ hi => b5.out.block i hi)).hi (hi' := W5.heap.size) (by omega))
        have HDC := Lib.hid ((hD.out.kept (w1 := W5) (fun i _ hi => b35.out.block i hi)).hi (hi' := W5.heap.size) b35.out.size)
        have HB := Lib.hid bw5.out
        clear hW5 hX hX' hb3 hal hz5
        have f0 := block_frozen HBX.out 0
        have f1 := block_frozen HBX.out 1
        have f2 := block_frozen HBX.out 2
        have f3 := block_frozen HBX.out 3
        have x0 := block_cell HBX.out 0 rfl
        have x1 := block_cell HBX.out 1 rfl
        have x2 := block_cell HBX.out 2 rfl
        have x3 := block_cell HBX.out 3 rfl
        have y0 := block_cell HBY.out 0 rfl
        have y1 := block_cell HBY.out 1 rfl
        have y2 := block_cell HBY.out 2 rfl
        have y3 := block_cell HBY.out 3 rfl
        have ZX := Lib.hid (block_set4 HBX.out (.slice X0 (doDesk (runDesk d (l.take k)) a).now.st.length z0') (.int .i64 (doDesk (runDesk d (l.take k)) a).now.step) (.slice X2 (doDesk (runDesk d (l.take k)) a).now.word.length z2') (.slice X3 (doDesk (runDesk d (l.take k)) a).past.length z3'))
        have ZR := Lib.hid (block_far4 HBR.out (by omega : w.heap.size + 1 ≠ w.heap.size) (.slice X0 (doDesk (runDesk d (l.take k)) a).now.st.length z0') (.int .i64 (doDesk (runDesk d (l.take k)) a).now.step) (.slice X2 (doDesk (runDesk d (l.take k)) a).now.word.length z2') (.slice X3 (doDesk (runDesk d (l.take k)) a).past.length z3'))
        have ZD := Lib.hid ((HY.out.set4 HBX.out (by decide) (by decide) (.slice X0 (doDesk (runDesk d (l.take k)) a).now.st.length z0') (.int .i64 (doDesk (runDesk d (l.take k)) a).now.step) (.slice X2 (doDesk (runDesk d (l.take k)) a).now.word.length z2') (.slice X3 (doDesk (runDesk d (l.take k)) a).past.length z3')).hi (hi' := (set4 W5 w.heap.size (.slice X0 (doDesk (runDesk d (l.take k)) a).now.st.length z0') (.int .i64 (doDesk (runDesk d (l.take k)) a).now.step) (.slice X2 (doDesk (runDesk d (l.take k)) a).now.word.length z2') (.slice X3 (doDesk (runDesk d (l.take k)) a).past.length z3')).heap.size) (by rw [size_set4]; exact Nat.le_refl _))
        have ZB := Lib.hid (below_set4 HB.out (Nat.le_refl _) (.slice X0 (doDesk (runDesk d (l.take k)) a).now.st.length z0') (.int .i64 (doDesk (runDesk d (l.take k)) a).now.step) (.slice X2 (doDesk (runDesk d (l.take k)) a).now.word.length z2') (.slice X3 (doDesk (runDesk d (l.take k)) a).past.length z3'))
        obtain ⟨r1, r2⟩ := run_yes HOK.out
        have R1 := Lib.hid r1; have R2 := Lib.hid r2
        clear r1 r2
        go_wp2
        refine ⟨⟨k + 1, by omega, by go_num, ?_, X0, z0', X2, z2', X3, z3', f3', ?_, ZR.out, ?_, ZB.out⟩, by simp [intOf]; omega⟩
        · rw [HT.out, R2.out]; rfl
        · show _ = _
          rw [HT.out, R1.out]; exact ZX.out
        · show DkW _ _ _ _ _ _
          rw [HT.out, R1.out]; exact ZD.out
      | false =>
        have HOK := Lib.hid hok; clear hok
        have x0 := fun o => cell_at (W := wr.alloc o) (block_cell hBX.out 0 rfl)
        have x1 := fun o => cell_at (W := wr.alloc o) (block_cell hBX.out 1 rfl)
        have x2 := fun o => cell_at (W := wr.alloc o) (block_cell hBX.out 2 rfl)
        have x3 := fun o => cell_at (W := wr.alloc o) (block_cell hBX.out 3 rfl)
        go_wp2_with fail
        clear x0 x1 x2 x3
        have hal : Bel wr (wr.alloc (.cells #[.int .i64 a.kind, .int .i64 a.a, .int .i64 a.b] 30)) := Bel.alloc
        refine (iDoR_is HOK.out _ _ (hD.out.dk.at (b := hal)) HEN.out.at).mono ?_
        rintro e w3 ⟨vx, rfl, ⟨f3', hX⟩, hb3⟩
        obtain ⟨X0, z0', X2, z2', X3, z3', rfl⟩ : ∃ X0 x0 X2 x2 X3 x3, vx = .agg #[.slice X0 (doDesk (runDesk d (l.take k)) a).now.st.length x0, .int .i64 (doDesk (runDesk d (l.take k)) a).now.step, .slice X2 (doDesk (runDesk d (l.take k)) a).now.word.length x2, .slice X3 (doDesk (runDesk d (l.take k)) a).past.length x3] := by
          obtain ⟨A0, c0, A2, c2, A3, c3, e, _⟩ := hX.dk.open
          exact ⟨_, _, _, _, _, _, e⟩
        haveI b3 : Bel wr w3 := ⟨hal.out.trans (hb3.mono hal.out.size)⟩
        have hwz : w.heap.size ≤ wr.heap.size := hB.out.size
        have hX' := hX.lo (lo' := w.heap.size) (by have := hal.out.size; omega)
        go_upto_region 7 with (fail)
        obtain ⟨W5, hW5⟩ : ∃ W5, W5 = w3.alloc (.cells #[.slice X0 (doDesk (runDesk d (l.take k)) a).now.st.length z0', .int .i64 (doDesk (runDesk d (l.take k)) a).now.step, .slice X2 (doDesk (runDesk d (l.take k)) a).now.word.length z2', .slice X3 (doDesk (runDesk d (l.take k)) a).past.length z3'] 28) := ⟨_, rfl⟩
        rw [← hW5]
        haveI b5 : Bel w3 W5 := by rw [hW5]; exact Bel.alloc
        haveI b35 : Bel wr W5 := Bel.step (w := wr) b5.out
        haveI bw5 : Bel w W5 := Bel.step (w := w) b35.out
        have hz5 : w3.heap.size + 1 = W5.heap.size := by rw [hW5]; simp
        have HBY : Hid (W5.heap[w3.heap.size]? = some (.cells #[.slice X0 (doDesk (runDesk d (l.take k)) a).now.st.length z0', .int .i64 (doDesk (runDesk d (l.take k)) a).now.step, .slice X2 (doDesk (runDesk d (l.take k)) a).now.word.length z2', .slice X3 (doDesk (runDesk d (l.take k)) a).past.length z3'] 28 (0, 0))) := by show _ = _; rw [hW5]; exact heap_alloc_new _ _
        have HBX := Lib.hid (block_at (W := W5) hBX.out)
        have HBR := Lib.hid (block_at (W := W5) hBR.out)
        have HY := Lib.hid ((hX'.kept (w1 := W5) (fun i _ hi => b5.out.block i hi)).hi (hi' := W5.heap.size) (by omega))
        have HDC := Lib.hid ((hD.out.kept (w1 := W5) (fun i _ hi => b35.out.block i hi)).hi (hi' := W5.heap.size) b35.out.size)
        have HB := Lib.hid bw5.out
        clear hW5 hX hX' hb3 hal hz5
        obtain ⟨r1, r2⟩ := run_no HOK.out
        have R1 := Lib.hid r1; have R2 := Lib.hid r2
        clear r1 r2
        go_wp2
        refine ⟨⟨k + 1, by omega, by go_num, ?_, D0, e0', D2, e2, D3, e3, f, ?_, HBR.out, ?_, HB.out⟩, by simp [intOf]; omega⟩
        · rw [HT.out, R2.out]
        · show _ = _
          rw [HT.out, R1.out]; exact HBX.out
        · show DkW _ _ _ _ _ _
          rw [HT.out, R1.out]; exact HDC.out
    · obtain rfl : k = l.length := by omega
      rw [List.take_of_length_le (Nat.le_refl _)] at *
      have x0 := block_cell hBX.out 0 rfl
      have x1 := block_cell hBX.out 1 rfl
      have x2 := block_cell hBX.out 2 rfl
      have x3 := block_cell hBX.out 3 rfl
      have r0 := block_cell hBR.out 0 rfl
      have r1 := block_cell hBR.out 1 rfl
      have r2 := block_cell hBR.out 2 rfl
      have r3 := block_cell hBR.out 3 rfl
      have f0 := block_frozen hBR.out 0
      have f1 := block_frozen hBR.out 1
      have f2 := block_frozen hBR.out 2
      have f3 := block_frozen hBR.out 3
      have HF := Lib.hid ((hD.out.set4 hBR.out (by decide) (by decide) (.slice D0 (runDesk d l).now.st.length e0') (.int .i64 (runDesk d l).now.step) (.slice D2 (runDesk d l).now.word.length e2) (.slice D3 (runDesk d l).past.length e3)).hi (hi' := (set4 wr (w.heap.size + 1) (.slice D0 (runDesk d l).now.st.length e0') (.int .i64 (runDesk d l).now.step) (.slice D2 (runDesk d l).now.word.length e2) (.slice D3 (runDesk d l).past.length e3)).heap.size) (by rw [size_set4]; exact Nat.le_refl _))
      have HFB := Lib.hid (below_set4 hB.out (by omega : w.heap.size ≤ w.heap.size + 1) (.slice D0 (runDesk d l).now.st.length e0') (.int .i64 (runDesk d l).now.step) (.slice D2 (runDesk d l).now.word.length e2) (.slice D3 (runDesk d l).past.length e3))
      go_wp2
      exact bodyPost_ret (v := .tuple #[.agg #[.slice D0 (runDesk d l).now.st.length e0', .int .i64 (runDesk d l).now.step, .slice D2 (runDesk d l).now.word.length e2, .slice D3 (runDesk d l).past.length e3], .int .i64 (runMany d l)]) (by simp [results, Tryd.results53, go_sem, r0, r1, r2, r3]) rfl ⟨_, rfl, ⟨f, HF.out⟩, HFB.out⟩
end Go.Proofs.YtpfncjaclgcbnaaDoor.Ub
