/- Words for desks of the call's own: which block belongs to which row, and what stays when something is written. -/
import Derived.Test.YtpfncjaclgcbnaaDoorBase
set_option linter.unusedVariables false
set_option linter.unusedSimpArgs false
namespace Go.Proofs.YtpfncjaclgcbnaaDoor.Ub
open Go.RowKit

/-- Numbers of the call's own, in a block below hi that bears the tag t. -/
def OwnT (w : World) (lo hi : Nat) (f : Nat → Nat) (t : Nat) (v : Value) (xs : List Int) : Prop := OwnI w lo v xs ∧ ∀ k, v.ownBlock = some k → f k = t ∧ k < hi
def OwnPs (w : World) (lo hi : Nat) (f : Nat → Nat) (v : Value) (ps : List Pl) : Prop :=
  ∃ es : List Value, w.ownsRow lo 25 3 v ps.length es ∧ (∀ k, v.ownBlock = some k → k < hi) ∧
    ∀ j, j < ps.length → ∃ x0 x2, es[j * 3]? = some x0 ∧ es[j * 3 + 1]? = some (.int .i64 (ps.getD j z0).step) ∧ es[j * 3 + 2]? = some x2 ∧ OwnT w lo hi f (2 * j + 2) x0 (ps.getD j z0).st ∧ OwnT w lo hi f (2 * j + 3) x2 (ps.getD j z0).word
def DkO (w : World) (lo hi : Nat) (f : Nat → Nat) (v : Value) (d : Dk) : Prop :=
  ∃ x0 x2 x3, v = .agg #[x0, .int .i64 d.now.step, x2, x3] ∧ OwnT w lo hi f 0 x0 d.now.st ∧ OwnT w lo hi f 1 x2 d.now.word ∧ OwnPs w lo hi f x3 d.past

theorem own_kept {w w1 : World} {lo hi : Nat} {e : TypeId} {s n : Nat} {v : Value} {xs : List Value} (h : w.ownsRow lo e s v n xs) (hh : ∀ k, v.ownBlock = some k → k < hi) (hk : ∀ k, lo ≤ k → k < hi → w1.heap[k]? = w.heap[k]?) : w1.ownsRow lo e s v n xs := by
  obtain ⟨h1, h2⟩ := h
  refine ⟨h1, ?_⟩
  rcases h2 with h2 | ⟨g, cap, cur, rfl, hg, hb, r⟩
  · exact .inl h2
  · exact .inr ⟨g, cap, cur, rfl, hg, (hk g hg (hh g rfl)).trans hb, r⟩
theorem OwnT.kept {w w1 : World} {lo hi : Nat} {f : Nat → Nat} {t : Nat} {v : Value} {xs : List Int} (h : OwnT w lo hi f t v xs) (hk : ∀ k, lo ≤ k → k < hi → w1.heap[k]? = w.heap[k]?) : OwnT w1 lo hi f t v xs :=
  ⟨own_kept h.1 (fun k e => (h.2 k e).2) hk, h.2⟩
theorem OwnPs.kept {w w1 : World} {lo hi : Nat} {f : Nat → Nat} {v : Value} {ps : List Pl} (h : OwnPs w lo hi f v ps) (hk : ∀ k, lo ≤ k → k < hi → w1.heap[k]? = w.heap[k]?) : OwnPs w1 lo hi f v ps := by
  obtain ⟨es, h1, h2, h3⟩ := h
  refine ⟨es, own_kept h1 h2 hk, h2, fun j hj => ?_⟩
  obtain ⟨x0, x2, k0, k1, k2, k3, k4⟩ := h3 j hj
  exact ⟨x0, x2, k0, k1, k2, k3.kept hk, k4.kept hk⟩
theorem DkO.kept {w w1 : World} {lo hi : Nat} {f : Nat → Nat} {v : Value} {d : Dk} (h : DkO w lo hi f v d) (hk : ∀ k, lo ≤ k → k < hi → w1.heap[k]? = w.heap[k]?) : DkO w1 lo hi f v d := by
  obtain ⟨x0, x2, x3, e, h0, h2, h3⟩ := h
  exact ⟨x0, x2, x3, e, h0.kept hk, h2.kept hk, h3.kept hk⟩
theorem OwnT.lo {w : World} {lo lo' hi : Nat} {f : Nat → Nat} {t : Nat} {v : Value} {xs : List Int} (h : OwnT w lo hi f t v xs) (hl : lo' ≤ lo) : OwnT w lo' hi f t v xs := ⟨h.1.mono hl, h.2⟩
theorem own_lo {w : World} {lo lo' : Nat} {e : TypeId} {s n : Nat} {v : Value} {xs : List Value} (h : w.ownsRow lo e s v n xs) (hl : lo' ≤ lo) : w.ownsRow lo' e s v n xs := by
  obtain ⟨h1, h2⟩ := h
  refine ⟨h1, ?_⟩
  rcases h2 with h2 | ⟨g, cap, cur, hv, hg, r⟩
  · exact .inl h2
  · exact .inr ⟨g, cap, cur, hv, Nat.le_trans hl hg, r⟩
theorem OwnPs.lo {w : World} {lo lo' hi : Nat} {f : Nat → Nat} {v : Value} {ps : List Pl} (h : OwnPs w lo hi f v ps) (hl : lo' ≤ lo) : OwnPs w lo' hi f v ps := by
  obtain ⟨es, h1, h2, h3⟩ := h
  refine ⟨es, own_lo h1 hl, h2, fun j hj => ?_⟩
  obtain ⟨x0, x2, k0, k1, k2, k3, k4⟩ := h3 j hj
  exact ⟨x0, x2, k0, k1, k2, k3.lo hl, k4.lo hl⟩
theorem DkO.lo {w : World} {lo lo' hi : Nat} {f : Nat → Nat} {v : Value} {d : Dk} (h : DkO w lo hi f v d) (hl : lo' ≤ lo) : DkO w lo' hi f v d := by
  obtain ⟨x0, x2, x3, e, h0, h2, h3⟩ := h
  exact ⟨x0, x2, x3, e, h0.lo hl, h2.lo hl, h3.lo hl⟩
theorem OwnT.re {w : World} {lo hi hi' : Nat} {f f' : Nat → Nat} {t t' : Nat} {v : Value} {xs : List Int} (h : OwnT w lo hi f t v xs) (hf : ∀ k, lo ≤ k → k < hi → f k = t → f' k = t') (hh : hi ≤ hi') : OwnT w lo hi' f' t' v xs :=
  ⟨h.1, fun k e => ⟨hf k (h.1.lt k e).1 (h.2 k e).2 (h.2 k e).1, by have := (h.2 k e).2; omega⟩⟩
theorem OwnPs.re {w : World} {lo hi hi' : Nat} {f f' : Nat → Nat} {v : Value} {ps : List Pl} (h : OwnPs w lo hi f v ps) (hf : ∀ k, lo ≤ k → k < hi → 2 ≤ f k → f k < 2 * ps.length + 2 → f' k = f k) (hh : hi ≤ hi') : OwnPs w lo hi' f' v ps := by
  obtain ⟨es, h1, h2, h3⟩ := h
  refine ⟨es, h1, fun k e => by have := h2 k e; omega, fun j hj => ?_⟩
  obtain ⟨x0, x2, k0, k1, k2, k3, k4⟩ := h3 j hj
  exact ⟨x0, x2, k0, k1, k2, k3.re (fun k a b c => by rw [hf k a b (by omega) (by omega), c]) hh, k4.re (fun k a b c => by rw [hf k a b (by omega) (by omega), c]) hh⟩
theorem OwnT.ints {w : World} {lo hi : Nat} {f : Nat → Nat} {t : Nat} {v : Value} {xs : List Int} (h : OwnT w lo hi f t v xs) : Ints w v xs := OwnI.ints h.1
theorem OwnPs.pls {w : World} {lo hi : Nat} {f : Nat → Nat} {v : Value} {ps : List Pl} (h : OwnPs w lo hi f v ps) : Pls w v ps := by
  obtain ⟨es, ⟨h1, ⟨rfl, h2⟩ | ⟨g, cap, cur, rfl, hg, hh, hc, hm, hs, ht⟩⟩, _, h3⟩ := h
  · obtain rfl := List.length_eq_zero_iff.1 h2
    exact ⟨by simp, none, 0, rfl, by simp, fun j hj => by simp at hj⟩
  · refine ⟨by unfold maxLen at hm; omega, some ⟨g, 0, none⟩, cap, rfl, hc, fun j hj => ?_⟩
    obtain ⟨x0, x2, k0, k1, k2, k3, k4⟩ := h3 j hj
    obtain ⟨A0, c0, rfl⟩ := k3.ints.form
    obtain ⟨A2, c2, rfl⟩ := k4.ints.form
    have cell : ∀ i u, es[i]? = some u → w.cell? ⟨g, i, none⟩ = some u := fun i u hu => by
      rw [cell_of_row w g i cur _ _ hh]
      rw [← ht, List.getElem?_take] at hu
      split at hu
      · simpa using hu
      · cases hu
    exact ⟨g, 0, A0, c0, A2, c2, rfl, by rw [Nat.zero_add]; exact cell _ _ k0, by rw [Nat.zero_add]; exact cell _ _ k1, by rw [Nat.zero_add]; exact cell _ _ k2, k3.ints, k4.ints⟩
theorem DkO.dk {w : World} {lo hi : Nat} {f : Nat → Nat} {v : Value} {d : Dk} (h : DkO w lo hi f v d) : DkI w v d := by
  obtain ⟨x0, x2, x3, e, h0, h2, h3⟩ := h
  exact ⟨x0, x2, x3, e, h0.ints, h2.ints, h3.pls⟩
theorem OwnPs.nil (w : World) (lo hi : Nat) (f : Nat → Nat) : OwnPs w lo hi f (.slice none 0 0) [] := ⟨[], World.ownsRow_nil _ _ _ _, fun k e => by simp [Value.ownBlock] at e, fun j hj => by simp at hj⟩
/-- A fresh row gets its tag. -/
theorem OwnI.tag {w : World} {lo lo' hi : Nat} {f : Nat → Nat} {t : Nat} {v : Value} {xs : List Int} (h : OwnI w lo' v xs) (hl : lo ≤ lo') (hh : w.heap.size ≤ hi) (hf : ∀ k, v.ownBlock = some k → f k = t) : OwnT w lo hi f t v xs :=
  ⟨h.mono hl, fun k e => ⟨hf k e, by have := (h.lt k e).2; omega⟩⟩
/-- Two fresh rows and what was there: one tagging for all. -/
def retag (f : Nat → Nat) (N : Nat) (v0 : Value) (t : Nat) (k : Nat) : Nat := if k < N then f k else if v0.ownBlock = some k then t else t + 1
theorem retag_old {f : Nat → Nat} {N : Nat} {v0 : Value} {t k : Nat} (h : k < N) : retag f N v0 t k = f k := if_pos h
theorem retag_one {f : Nat → Nat} {N : Nat} {v0 : Value} {t k : Nat} (h : N ≤ k) (e : v0.ownBlock = some k) : retag f N v0 t k = t := by unfold retag; rw [if_neg (by omega), if_pos e]
theorem retag_two {f : Nat → Nat} {N : Nat} {v0 : Value} {t k : Nat} (h : N ≤ k) (e : v0.ownBlock ≠ some k) : retag f N v0 t k = t + 1 := by unfold retag; rw [if_neg (by omega), if_neg e]

/-- A place of the call's own, fresh from N on: two rows apart. -/
def PlO (w : World) (N : Nat) (v : Value) (p : Pl) : Prop :=
  ∃ x0 x2, v = .agg #[x0, .int .i64 p.step, x2] ∧ OwnI w N x0 p.st ∧ OwnI w N x2 p.word ∧ ∀ k, x0.ownBlock = some k → x2.ownBlock ≠ some k
theorem PlO.pl {w : World} {N : Nat} {v : Value} {p : Pl} (h : PlO w N v p) : PlI w v p := by
  obtain ⟨x0, x2, e, h0, h2, _⟩ := h
  exact ⟨x0, x2, e, h0.ints, h2.ints⟩
/-- A place is put behind the others. -/
theorem OwnPs.push {w w1 : World} {lo hi N : Nat} {f : Nat → Nat} {v v' : Value} {ps : List Pl} {p : Pl} {x0 x2 : Value} {es : List Value} (hes : w.ownsRow lo 25 3 v ps.length es) (hlt : ∀ k, v.ownBlock = some k → k < hi)
    (hin : ∀ j, j < ps.length → ∃ x0 x2, es[j * 3]? = some x0 ∧ es[j * 3 + 1]? = some (.int .i64 (ps.getD j z0).step) ∧ es[j * 3 + 2]? = some x2 ∧ OwnT w lo hi f (2 * j + 2) x0 (ps.getD j z0).st ∧ OwnT w lo hi f (2 * j + 3) x2 (ps.getD j z0).word)
    (h0 : OwnI w N x0 p.st) (h2 : OwnI w N x2 p.word) (hap : ∀ k, x0.ownBlock = some k → x2.ownBlock ≠ some k) (hN : hi ≤ N) (hlo : lo ≤ N)
    (hg : w.grownBy w1 v.ownBlock) (h1 : w1.ownsRow lo 25 3 v' (ps.length + 1) (es ++ [x0, .int .i64 p.step, x2])) : OwnPs w1 lo w1.heap.size (retag f N x0 (2 * ps.length + 2)) v' (ps ++ [p]) := by
  have hsz := hg.size
  have hl : es.length = ps.length * 3 := hes.1
  have keep : ∀ {t : Nat} {u : Value} {xs : List Int}, OwnT w lo hi f t u xs → OwnT w1 lo w1.heap.size (retag f N x0 (2 * ps.length + 2)) t u xs := fun {t u xs} h =>
    ⟨own_other h.1 hes hg (by decide), fun k e => by
      obtain ⟨a, b⟩ := h.2 k e
      exact ⟨by rw [retag_old (by omega)]; exact a, by have := (h.1.lt k e).2; omega⟩⟩
  refine ⟨es ++ [x0, .int .i64 p.step, x2], by rw [List.length_append]; exact h1, fun k e => (World.ownsRow.lt h1 k e).2, fun j hj => ?_⟩
  rw [List.length_append, List.length_singleton] at hj
  by_cases e2 : j < ps.length
  · obtain ⟨y0, y2, k0, k1, k2, k3, k4⟩ := hin j e2
    have e : (ps ++ [p]).getD j z0 = ps.getD j z0 := by simp [List.getD, List.getElem?_append_left e2]
    rw [e]
    exact ⟨y0, y2, by rw [List.getElem?_append_left (by omega)]; exact k0, by rw [List.getElem?_append_left (by omega)]; exact k1, by rw [List.getElem?_append_left (by omega)]; exact k2, keep k3, keep k4⟩
  · obtain rfl : j = ps.length := by omega
    have e : (ps ++ [p]).getD ps.length z0 = p := by simp [List.getD]
    rw [e]
    refine ⟨x0, x2, by rw [List.getElem?_append_right (by omega)]; simp [hl], by rw [List.getElem?_append_right (by omega)]; simp [hl], by rw [List.getElem?_append_right (by omega)]; simp [hl], ⟨OwnI.mono (own_other h0 hes hg (by decide)) hlo, fun k e => ?_⟩, ⟨OwnI.mono (own_other h2 hes hg (by decide)) hlo, fun k e => ?_⟩⟩
    · have := h0.lt k e
      exact ⟨retag_one (by omega) e, by omega⟩
    · have := h2.lt k e
      exact ⟨retag_two (by omega) (fun e3 => hap k e3 e), by omega⟩
/-- The last place is taken off. -/
theorem OwnPs.take {w : World} {lo hi : Nat} {f : Nat → Nat} {A : Option Addr} {n c : Nat} {ps : List Pl} (h : OwnPs w lo hi f (.slice A n c) ps) (m : Nat) (hm : m ≤ ps.length) : OwnPs w lo hi f (.slice A m c) (ps.take m) := by
  obtain ⟨es, ⟨h1, h2⟩, h3, h4⟩ := h
  refine ⟨es.take (m * 3), ⟨by rw [List.length_take, List.length_take, h1]; omega, ?_⟩, fun k e => h3 k (by cases A with | none => simp [Value.ownBlock] at e | some a => exact e), fun j hj => ?_⟩
  · rw [List.length_take, Nat.min_eq_left hm]
    rcases h2 with ⟨e, h2⟩ | ⟨g, cap, cur, e, hg, hb, hc, hx, hs, ht⟩
    · simp only [Value.slice.injEq] at e
      obtain ⟨rfl, rfl, rfl⟩ := e
      exact .inl ⟨by simp; omega, by omega⟩
    · simp only [Value.slice.injEq] at e
      obtain ⟨rfl, rfl, rfl⟩ := e
      exact .inr ⟨g, c, cur, rfl, hg, hb, by omega, hx, hs, by rw [← ht, List.take_take, Nat.min_eq_left (by omega)]⟩
  · rw [List.length_take] at hj
    obtain ⟨x0, x2, k0, k1, k2, k3, k4⟩ := h4 j (by omega)
    have e : (ps.take m).getD j z0 = ps.getD j z0 := by simp [List.getD, List.getElem?_take, show j < m by omega]
    rw [e]
    exact ⟨x0, x2, by rw [List.getElem?_take, if_pos (by omega)]; exact k0, by rw [List.getElem?_take, if_pos (by omega)]; exact k1, by rw [List.getElem?_take, if_pos (by omega)]; exact k2, k3, k4⟩
theorem own_far {w : World} {lo : Nat} {e : TypeId} {s n : Nat} {v : Value} {xs : List Value} (h : w.ownsRow lo e s v n xs) {p : Addr} {u : Value} (hp : ∀ k, v.ownBlock = some k → k ≠ p.block) : (w.setCell p u).ownsRow lo e s v n xs := by
  obtain ⟨h1, h2⟩ := h
  refine ⟨h1, ?_⟩
  rcases h2 with h2 | ⟨g, cap, cur, rfl, hg, hb, r⟩
  · exact .inl h2
  · exact .inr ⟨g, cap, cur, rfl, hg, (Below.heap_setCell w p u g (hp g rfl)).trans hb, r⟩
theorem OwnI.far {w : World} {lo : Nat} {v : Value} {xs : List Int} (h : OwnI w lo v xs) {p : Addr} {u : Value} (hp : ∀ k, v.ownBlock = some k → k ≠ p.block) : OwnI (w.setCell p u) lo v xs := own_far h hp
theorem own_ne {w : World} {lo : Nat} {e t : TypeId} {s n g : Nat} {v : Value} {xs : List Value} {cs : Array Value} {fr : Nat × Nat} (h : w.ownsRow lo e s v n xs) (hb : w.heap[g]? = some (.cells cs t fr)) (hne : e ≠ t) : ∀ k, v.ownBlock = some k → k ≠ g := fun k hk e2 => by
  obtain ⟨c1, h1⟩ := own_typed h hk
  rw [e2, hb] at h1
  injection h1 with h1
  injection h1 with _ h1
  exact hne h1.symm
/-- A cell of a block of another type is written. -/
theorem OwnT.set {w : World} {lo hi : Nat} {f : Nat → Nat} {t : Nat} {v : Value} {xs : List Int} {g : Nat} {cs : Array Value} {ty : TypeId} {fr : Nat × Nat} (h : OwnT w lo hi f t v xs) (hb : w.heap[g]? = some (.cells cs ty fr)) (h1 : 3 ≠ ty) (j : Nat) (u : Value) : OwnT (w.setCell ⟨g, j, none⟩ u) lo hi f t v xs :=
  ⟨own_far h.1 (own_ne h.1 hb h1), h.2⟩
theorem OwnPs.set {w : World} {lo hi : Nat} {f : Nat → Nat} {v : Value} {ps : List Pl} {g : Nat} {cs : Array Value} {ty : TypeId} {fr : Nat × Nat} (h : OwnPs w lo hi f v ps) (hb : w.heap[g]? = some (.cells cs ty fr)) (h1 : 3 ≠ ty) (h2 : 25 ≠ ty) (j : Nat) (u : Value) : OwnPs (w.setCell ⟨g, j, none⟩ u) lo hi f v ps := by
  obtain ⟨es, k1, k2, k3⟩ := h
  refine ⟨es, own_far k1 (own_ne k1 hb h2), k2, fun i hi => ?_⟩
  obtain ⟨x0, x2, a0, a1, a2, a3, a4⟩ := k3 i hi
  exact ⟨x0, x2, a0, a1, a2, a3.set hb h1 j u, a4.set hb h1 j u⟩
theorem block_other {w w1 : World} {lo : Nat} {e t : TypeId} {s n g : Nat} {v : Value} {xs : List Value} {cs : Array Value} {fr : Nat × Nat} (hb : w.heap[g]? = some (.cells cs t fr)) (h : w.ownsRow lo e s v n xs) (hg : w.grownBy w1 v.ownBlock) (hne : e ≠ t) : w1.heap[g]? = some (.cells cs t fr) :=
  (hg.block g (Array.getElem?_eq_some_iff.1 hb).1 (fun e2 => own_ne h hb hne g e2.symm rfl)).trans hb
theorem block_at {w W : World} {g : Nat} {o : Obj} (h : w.heap[g]? = some o) [b : Bel w W] : W.heap[g]? = some o := (b.out.block g (Array.getElem?_eq_some_iff.1 h).1).trans h
theorem block_cell {w : World} {g : Nat} {cs : Array Value} {t : TypeId} {fr : Nat × Nat} (h : w.heap[g]? = some (.cells cs t fr)) (j : Nat) {u : Value} (hj : cs[j]? = some u) : w.cell? ⟨g, j, none⟩ = some u := by rw [cell_of_row w g j cs t fr h]; exact hj
theorem block_frozen {w : World} {g : Nat} {cs : Array Value} {t : TypeId} (h : w.heap[g]? = some (.cells cs t (0, 0))) (j : Nat) : w.frozen? ⟨g, j, none⟩ = false := frozen_of_row w g j cs t h
theorem block_set {w : World} {g : Nat} {cs : Array Value} {t : TypeId} (h : w.heap[g]? = some (.cells cs t (0, 0))) (j : Nat) (u : Value) : (w.setCell ⟨g, j, none⟩ u).heap[g]? = some (.cells (cs.setIfInBounds j u) t (0, 0)) := heap_setCell_same w g j cs t u h
theorem block_far {w : World} {g : Nat} {o : Obj} {p : Addr} {u : Value} (h : w.heap[g]? = some o) (hp : g ≠ p.block) : (w.setCell p u).heap[g]? = some o := (Below.heap_setCell w p u g hp).trans h
theorem frozen_at {w W : World} {a : Addr} {x : Value} (hc : w.cell? a = some x) (hf : w.frozen? a = false) [b : Bel w W] : W.frozen? a = false := (b.out.frozen (World.block_lt_of_cell? w a hc)).trans hf
theorem DkO.set {w : World} {lo hi : Nat} {f : Nat → Nat} {v : Value} {d : Dk} {g : Nat} {cs : Array Value} {ty : TypeId} {fr : Nat × Nat} (h : DkO w lo hi f v d) (hb : w.heap[g]? = some (.cells cs ty fr)) (h1 : 3 ≠ ty) (h2 : 25 ≠ ty) (j : Nat) (u : Value) : DkO (w.setCell ⟨g, j, none⟩ u) lo hi f v d := by
  obtain ⟨x0, x2, x3, e, k0, k2, k3⟩ := h
  exact ⟨x0, x2, x3, e, k0.set hb h1 j u, k2.set hb h1 j u, k3.set hb h1 h2 j u⟩
/-- The four cells of a result are written. -/
theorem DkO.set4 {w : World} {lo hi : Nat} {f : Nat → Nat} {v : Value} {d : Dk} {g : Nat} {cs : Array Value} {ty : TypeId} (h : DkO w lo hi f v d) (hb : w.heap[g]? = some (.cells cs ty (0, 0))) (h1 : 3 ≠ ty) (h2 : 25 ≠ ty) (u0 u1 u2 u3 : Value) :
    DkO ((((w.setCell ⟨g, 0, none⟩ u0).setCell ⟨g, 1, none⟩ u1).setCell ⟨g, 2, none⟩ u2).setCell ⟨g, 3, none⟩ u3) lo hi f v d :=
  (((h.set hb h1 h2 0 u0).set (block_set hb 0 u0) h1 h2 1 u1).set (block_set (block_set hb 0 u0) 1 u1) h1 h2 2 u2).set (block_set (block_set (block_set hb 0 u0) 1 u1) 2 u2) h1 h2 3 u3
/-- append of all of a slice of numbers, at a step of a region that draws its order. -/
theorem app_all_step {w : World} {ops : Array Oper} {o : Oper} {a : Act} {K : Act → World → Prop} {Q : Exit → Act → World → Prop} {F : Prop} (hgd : o.guard = none) (s x : Operand)
    (ho : o.op = .call { callee := .builtin .append, args := #[s, x], argTypes := #[23, 23] }) (lo : Nat) (v : Value) (xs : List Int) (hs : a.eval s = v) (hown : OwnI w lo v xs)
    (u : Value) (ys : List Int) (hx : a.eval x = u) (hy : Ints w u ys) (hlen : xs.length + ys.length ≤ 1000000) (hlo : lo ≤ w.heap.size)
    (h : ∀ v' w', OwnI w' lo v' (xs ++ ys) → w.grownBy w' v.ownBlock → (v'.ownBlock = v.ownBlock ∨ ∃ g, v'.ownBlock = some g ∧ w.heap.size ≤ g) → K (a.put o.dst v') w') :
    if Region.wanted o (yielded ops a.tmps) = true then Oper.wp Tryd.prog o a w K Q else F := by
  have hw : Region.wanted o (yielded ops a.tmps) = true := by simp [Region.wanted, hgd]
  rw [if_pos hw]
  obtain ⟨i, i1, i2, i3, i4⟩ := eI.inf
  have run : ∃ v' w', (Builtin.append_ #[23, 23] o.type #[v, u]).run Tryd.prog w = .ok v' w' ∧ OwnI w' lo v' (xs ++ ys) ∧ w.grownBy w' v.ownBlock ∧ (v'.ownBlock = v.ownBlock ∨ ∃ g, v'.ownBlock = some g ∧ w.heap.size ≤ g) := by
    obtain ⟨hm, A, c, rfl, hl, hz, hc⟩ := hy
    cases A with
    | some ad =>
      obtain ⟨v', w', hr, k1, k2, _, k4⟩ := run_append_own_at (P := Tryd.prog) w lo 23 o.type 3 i (.int .i64 0) 1 8 eI.und i1 i2 i3 i4 eI.zs eI.pos v xs.length (nums xs) hown ad ys.length c (nums ys) (by simp [nums])
        (fun j y hj => by
          have hjl : j < ys.length := by
            rcases Nat.lt_or_ge j ys.length with h' | h'
            · exact h'
            · rw [List.getElem?_eq_none (by simpa [nums] using h')] at hj; cases hj
          obtain ⟨b, f, e, hq⟩ := hc j hjl
          cases e
          have e2 : (⟨b, f, none⟩ : Addr).add j = ⟨b, f + j, none⟩ := by unfold Addr.add; split <;> simp_all
          rw [e2, hq]
          simpa [nums, hjl] using hj)
        (fun q hq => by simp only [nums, List.mem_map] at hq; obtain ⟨_, _, rfl⟩ := hq; rfl) (by unfold maxLen; omega) (by omega) hlo
      refine ⟨v', w', hr, ?_, k2, k4.imp id fun e => ⟨_, e, Nat.le_refl _⟩⟩
      unfold OwnI
      rw [List.length_append]
      simpa [nums] using k1
    | none =>
      have h0 : ys.length = 0 := by
        rcases Nat.eq_zero_or_pos ys.length with h' | h'
        · exact h'
        · obtain ⟨b, o, e, _⟩ := hc 0 h'; cases e
      obtain rfl := hz rfl
      obtain rfl := List.length_eq_zero_iff.1 h0
      exact ⟨v, w, run_append_owned_none (P := Tryd.prog) (w := w) lo 23 o.type 3 i 1 eI.und i1 v xs.length (nums xs) hown, by rw [List.append_nil]; exact hown, ⟨rfl, rfl, rfl, Nat.le_refl _, fun _ _ _ => rfl⟩, .inl rfl⟩
  obtain ⟨v', w', hr, k1, k2, k3⟩ := run
  unfold Oper.wp execOp
  simp only [ho, resolve, invoke, builtin, Sem.run_bind, Sem.run_pure, Result.andThen_ok, List.map_toArray, List.map_cons, List.map_nil, hs, hx, hr]
  exact h v' w' k1 k2 k3
theorem empty_block {w : World} {lo g : Nat} (h : w.heap[g]? = some (.cells #[] 3 (0, 0))) (hl : lo ≤ g) : OwnI w lo (.slice (some ⟨g, 0, none⟩) 0 0) [] :=
  ⟨by simp [nums], .inr ⟨g, 0, #[], rfl, hl, h, Nat.le_refl _, by decide, rfl, by simp [nums]⟩⟩

end Go.Proofs.YtpfncjaclgcbnaaDoor.Ub
