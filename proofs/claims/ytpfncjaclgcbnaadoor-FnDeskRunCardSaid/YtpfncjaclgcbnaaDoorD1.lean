/- Contracts of what draws numbers. -/
import Derived.Test.YtpfncjaclgcbnaaDoorF14
import Derived.Test.YtpfncjaclgcbnaaDoorOwn2
set_option linter.unusedVariables false
set_option linter.unusedSimpArgs false
namespace Go.Proofs.YtpfncjaclgcbnaaDoor.Ub
open Go.RowKit Go.Proofs.YtpfncjaclgcbnaaDoorW

/-- The reader at block g: its bytes read, and at most P have been asked for. -/
def Rd (w : World) (g P : Nat) : Prop := ∃ A n c, ∃ p : Nat, w.heap[g]? = some (.cells #[.slice A n c, .int .i64 p] 93 (0, 0)) ∧ p ≤ P ∧ n ≤ 2000 ∧ n ≤ c ∧
  ∀ j, j < n → ∃ b o, ∃ x : Nat, A = some ⟨b, o, none⟩ ∧ b < g ∧ w.cell? ⟨b, o + j, none⟩ = some (.int .u8 x) ∧ x ≤ 255
def PickP (g P : Nat) (n : Int) (w : World) (e : Ending) (w' : World) : Prop := ∃ k : Nat, e = .returned (.int .i64 k) ∧ (1 ≤ n → (k : Int) < n) ∧ Rd w' g (P + 1) ∧ w.grownBy w' (some g)
theorem grown_set (w : World) (g j : Nat) (u : Value) : w.grownBy (w.setCell ⟨g, j, none⟩ u) (some g) :=
  ⟨rfl, rfl, rfl, by simp, fun k hk hn => Below.heap_setCell w ⟨g, j, none⟩ u k (fun e => hn (by rw [e]))⟩
theorem grown_trans {w a b : World} {r : Option Nat} (h : w.grownBy a r) (k : a.grownBy b r) : w.grownBy b r :=
  ⟨k.os.trans h.os, k.tape.trans h.tape, k.output.trans h.output, Nat.le_trans h.size k.size, fun i hi hn => (k.block i (by have := h.size; omega) hn).trans (h.block i hi hn)⟩
theorem grown_refl (w : World) (r : Option Nat) : w.grownBy w r := ⟨rfl, rfl, rfl, Nat.le_refl _, fun _ _ _ => rfl⟩
theorem grown_below {w a : World} (h : Below w.heap.size w a) (r : Option Nat) : w.grownBy a r := ⟨h.os, h.tape, h.output, h.size, fun k hk _ => h.block k hk⟩
theorem rd_next {w : World} {g P n c p : Nat} {A : Option Addr} (hb : w.heap[g]? = some (.cells #[.slice A n c, .int .i64 p] 93 (0, 0))) (hp : p ≤ P) (hn : n ≤ 2000) (hc : n ≤ c)
    (hx : ∀ j, j < n → ∃ b o, ∃ x : Nat, A = some ⟨b, o, none⟩ ∧ b < g ∧ w.cell? ⟨b, o + j, none⟩ = some (.int .u8 x) ∧ x ≤ 255) : Rd (w.setCell ⟨g, 1, none⟩ (.int .i64 ((p : Int) + 1))) g (P + 1) :=
  ⟨A, n, c, p + 1, by rw [block_set hb 1]; rfl, by omega, hn, hc, fun j hj => by
    obtain ⟨b, o, x, e, hlt, hq, h255⟩ := hx j hj
    refine ⟨b, o, x, e, hlt, ?_, h255⟩
    have : (⟨b, o + j, none⟩ : Addr) ≠ ⟨g, 1, none⟩ := by intro e; injection e with e; omega
    exact ((World.cell?_of_block (w := w) (a := ⟨b, o + j, none⟩) (Below.heap_setCell w ⟨g, 1, none⟩ _ b (by simp; omega)))).trans hq⟩

theorem rd_drew {w : World} {g P : Nat} (h : Rd w g P) (n : Nat) : Rd (w.drewN n) g P := by
  obtain ⟨A, l, c, p, hb, h1, h2, h3, h4⟩ := h
  exact ⟨A, l, c, p, ((below_drewN w n).block g (Array.getElem?_eq_some_iff.1 hb).1).trans hb, h1, h2, h3, fun j hj => by
    obtain ⟨b, o, x, e, hl, hq, hx⟩ := h4 j hj
    exact ⟨b, o, x, e, hl, ((below_drewN w n).cell (World.block_lt_of_cell? w _ hq)).trans hq, hx⟩⟩
theorem mod_nat {x : Nat} {n : Int} (hn : 1 ≤ n) : ∃ k : Nat, (x : Int) % n = k ∧ (k : Int) < n := by
  have h0 := Int.emod_nonneg (x : Int) (show n ≠ 0 by omega)
  have h1 := Int.emod_lt_of_pos (x : Int) (show 0 < n by omega)
  exact ⟨((x : Int) % n).toNat, by omega, by omega⟩
theorem xor_nat {T : Nat} (h : T < 4294967296) : bits .xor .i64 (T : Int) ((T : Int) / 64) = ((T ^^^ (T / 64) : Nat) : Int) := by
  have hx : T ^^^ (T / 64) < 4294967296 := Nat.xor_lt_two_pow (n := 32) h (by omega)
  have e : (T : Int) / 64 = ((T / 64 : Nat) : Int) := by omega
  rw [e]
  unfold bits
  have e1 : (BitVec.ofInt IntKind.i64.bits (T : Int)).toNat = T := by rw [BitVec.toNat_ofInt]; simp [IntKind.bits]; omega
  have e2 : (BitVec.ofInt IntKind.i64.bits ((T / 64 : Nat) : Int)).toNat = T / 64 := by rw [BitVec.toNat_ofInt]; simp [IntKind.bits]; omega
  simp only [BitVec.toNat_xor, e1, e2]
  exact i64_wrap (by omega) (by omega)
set_option maxHeartbeats 1000000 in
set_option maxRecDepth 100000 in
theorem s_pick (g P : Nat) (n : Int) (w : World) (h : Rd w g P) (hP : P ≤ 100000) (hn0 : -1000000 ≤ n) (hn1 : n ≤ 1000000) : Calls Tryd.prog 68 #[.pointer (some ⟨g, 0, none⟩), .int .i64 n] w (PickP g P n w) := by
  obtain ⟨A, l, c, p, hb, hp, hl, hc, hx⟩ := h
  have HR := Lib.hid (rd_next hb hp hl hc hx)
  have HG := Lib.hid (grown_set w g 1 (.int .i64 ((p : Int) + 1)))
  have g1 := block_cell hb 1 rfl
  have g0 := block_cell hb 0 rfl
  have f1 := block_frozen hb 1
  have HX := Lib.hid hx
  have HBG := Lib.hid hb
  clear hb hx
  by_cases hn : n < 1
  · go_enter Tryd.func68, Tryd.ntmps68
    go_wp2
    go_ret
    exact ⟨0, rfl, fun h => by omega, HR.out, HG.out⟩
  · by_cases h0 : l = 0
    · subst h0
      go_enter Tryd.func68, Tryd.ntmps68
      go_wp2
      go_ret
      exact ⟨0, rfl, fun h => by omega, HR.out, HG.out⟩
    · by_cases hlt : p < l
      · obtain ⟨b, o, x, rfl, hbg, hq, h255⟩ := HX.out p hlt
        have hq' : (w.setCell ⟨g, 1, none⟩ (.int .i64 ((p : Int) + 1))).cell? ⟨b, o + p, none⟩ = some (.int .u8 x) := (World.cell?_of_block (w := w) (a := ⟨b, o + p, none⟩) (Below.heap_setCell w ⟨g, 1, none⟩ _ b (by simp; omega))).trans hq
        have hlz : ((l : Int) == 0) = false := by simp; omega
        go_enter Tryd.func68, Tryd.ntmps68
        go_wp2
        go_ret
        obtain ⟨k, hk, hkn⟩ := mod_nat (x := x) (n := n) (by omega)
        exact ⟨k, by rw [hk]; rfl, fun _ => hkn, HR.out, HG.out⟩
      · obtain ⟨i1, hi1⟩ : ∃ i1, i1 = p % l := ⟨_, rfl⟩
        obtain ⟨i2, hi2⟩ : ∃ i2, i2 = (p * 7 + 3) % l := ⟨_, rfl⟩
        obtain ⟨q, hq⟩ : ∃ q, q = p / l := ⟨_, rfl⟩
        have l1 : i1 < l := by rw [hi1]; exact Nat.mod_lt _ (by omega)
        have l2 : i2 < l := by rw [hi2]; exact Nat.mod_lt _ (by omega)
        have lq : q ≤ p := by rw [hq]; exact Nat.div_le_self _ _
        obtain ⟨b, o, x1, rfl, hbg, hq1, hx1⟩ := HX.out i1 l1
        obtain ⟨_, _, x2, e, _, hq2, hx2⟩ := HX.out i2 l2
        cases e
        have q1 : (w.setCell ⟨g, 1, none⟩ (.int .i64 ((p : Int) + 1))).cell? ⟨b, o + i1, none⟩ = some (.int .u8 x1) := (World.cell?_of_block (w := w) (a := ⟨b, o + i1, none⟩) (Below.heap_setCell w ⟨g, 1, none⟩ _ b (by simp; omega))).trans hq1
        have q2 : (w.setCell ⟨g, 1, none⟩ (.int .i64 ((p : Int) + 1))).cell? ⟨b, o + i2, none⟩ = some (.int .u8 x2) := (World.cell?_of_block (w := w) (a := ⟨b, o + i2, none⟩) (Below.heap_setCell w ⟨g, 1, none⟩ _ b (by simp; omega))).trans hq2
        have e57 : (p : Int).tmod (l : Int) = (i1 : Int) := by rw [Int.tmod_eq_emod_of_nonneg (by omega), hi1]; omega
        have e74 : ((p : Int) * 7 + 3).tmod (l : Int) = (i2 : Int) := by rw [show (p : Int) * 7 + 3 = ((p * 7 + 3 : Nat) : Int) by omega, Int.tmod_eq_emod_of_nonneg (by omega), hi2]; rfl
        have e89 : (p : Int).tdiv (l : Int) = (q : Int) := by rw [Int.tdiv_eq_ediv_of_nonneg (by omega), hq]; omega
        have e60 : IntKind.i64.wrap (x1 : Int) = x1 := i64_wrap (by omega) (by omega)
        have e61 : IntKind.i64.wrap ((x1 : Int) * 131) = x1 * 131 := i64_wrap (by omega) (by omega)
        have e67 : IntKind.i64.wrap ((p : Int) * 7) = p * 7 := i64_wrap (by omega) (by omega)
        have e68 : IntKind.i64.wrap ((p : Int) * 7 + 3) = p * 7 + 3 := i64_wrap (by omega) (by omega)
        have e77 : IntKind.i64.wrap (x2 : Int) = x2 := i64_wrap (by omega) (by omega)
        have e78 : IntKind.i64.wrap ((x2 : Int) * 1117) = x2 * 1117 := i64_wrap (by omega) (by omega)
        have e79 : IntKind.i64.wrap ((x1 : Int) * 131 + x2 * 1117) = x1 * 131 + x2 * 1117 := i64_wrap (by omega) (by omega)
        have e81 : IntKind.i64.wrap ((p : Int) * 29) = p * 29 := i64_wrap (by omega) (by omega)
        have e82 : IntKind.i64.wrap ((x1 : Int) * 131 + x2 * 1117 + p * 29) = x1 * 131 + x2 * 1117 + p * 29 := i64_wrap (by omega) (by omega)
        have e90 : IntKind.i64.wrap ((q : Int) * 53) = q * 53 := i64_wrap (by omega) (by omega)
        have e91 : IntKind.i64.wrap ((x1 : Int) * 131 + x2 * 1117 + p * 29 + q * 53) = ((x1 * 131 + x2 * 1117 + p * 29 + q * 53 : Nat) : Int) := by rw [i64_wrap (by omega) (by omega)]; omega
        have hT : x1 * 131 + x2 * 1117 + p * 29 + q * 53 < 4294967296 := by omega
        have hlz : ((l : Int) == 0) = false := by simp; omega
        have c1 : (i1 : Int) < l := by omega
        have c2 : (i2 : Int) < l := by omega
        have HI1 := Lib.hid hi1; have HI2 := Lib.hid hi2; have HQ := Lib.hid hq
        clear hi1 hi2 hq
        generalize x1 * 131 + x2 * 1117 + p * 29 + q * 53 = T at *
        have e95 : bits .xor .i64 (T : Int) ((T : Int) / 64) = ((T ^^^ (T / 64) : Nat) : Int) := xor_nat hT
        go_enter Tryd.func68, Tryd.ntmps68
        go_wp2_with fail
        go_quiet (fail)
        go_wp2
        go_ret
        obtain ⟨k, hk, hkn⟩ := mod_nat (x := T ^^^ (T / 64)) (n := n) (by omega)
        exact ⟨k, by rw [hk]; rfl, fun _ => hkn, rd_drew HR.out _, grown_trans HG.out (grown_below (below_drewN _ _) _)⟩
end Go.Proofs.YtpfncjaclgcbnaaDoor.Ub
