/- More words for desks of the call's own: a row whose capacity is cut; the last place; one place more; one place less. -/
import Derived.Test.YtpfncjaclgcbnaaDoorOwn
set_option linter.unusedVariables false
set_option linter.unusedSimpArgs false
namespace Go.Proofs.YtpfncjaclgcbnaaDoor.Ub
open Go.RowKit

/-- A row in a block of the call's own, whose capacity may have been cut. -/
def rowIn (w : World) (lo : Nat) (e : TypeId) (size : Nat) (v : Value) (n : Nat) (xs : List Value) : Prop :=
  xs.length = n * size ∧ ((v = .slice none 0 0 ∧ n = 0) ∨
    ∃ g cap cur, v = .slice (some ⟨g, 0, none⟩) n cap ∧ lo ≤ g ∧ w.heap[g]? = some (.cells cur e (0, 0)) ∧ n ≤ cap ∧ cap ≤ maxLen ∧ n * size ≤ cur.size ∧ cur.toList.take (n * size) = xs)
theorem rowIn_of {w : World} {lo : Nat} {e : TypeId} {size n : Nat} {v : Value} {xs : List Value} (h : w.ownsRow lo e size v n xs) : rowIn w lo e size v n xs := by
  obtain ⟨h1, h2 | ⟨g, cap, cur, e1, hg, hh, hc, hm, hs, ht⟩⟩ := h
  · exact ⟨h1, .inl h2⟩
  · exact ⟨h1, .inr ⟨g, cap, cur, e1, hg, hh, hc, hm, by rw [hs]; exact Nat.mul_le_mul_right _ hc, ht⟩⟩
theorem rowIn.lt {w : World} {lo : Nat} {e : TypeId} {size n : Nat} {v : Value} {xs : List Value} (h : rowIn w lo e size v n xs) : ∀ k, v.ownBlock = some k → lo ≤ k ∧ k < w.heap.size := fun k hk => by
  obtain ⟨_, ⟨rfl, _⟩ | ⟨g, cap, cur, rfl, hg, hh, _⟩⟩ := h
  · simp [Value.ownBlock] at hk
  · have : g = k := by simpa [Value.ownBlock] using hk
    subst this
    exact ⟨hg, (Array.getElem?_eq_some_iff.1 hh).1⟩
theorem rowIn.kept {w w1 : World} {lo hi : Nat} {e : TypeId} {s n : Nat} {v : Value} {xs : List Value} (h : rowIn w lo e s v n xs) (hh : ∀ k, v.ownBlock = some k → k < hi) (hk : ∀ k, lo ≤ k → k < hi → w1.heap[k]? = w.heap[k]?) : rowIn w1 lo e s v n xs := by
  obtain ⟨h1, h2⟩ := h
  refine ⟨h1, ?_⟩
  rcases h2 with h2 | ⟨g, cap, cur, rfl, hg, hb, r⟩
  · exact .inl h2
  · exact .inr ⟨g, cap, cur, rfl, hg, (hk g hg (hh g rfl)).trans hb, r⟩
theorem rowIn.lo {w : World} {lo lo' : Nat} {e : TypeId} {s n : Nat} {v : Value} {xs : List Value} (h : rowIn w lo e s v n xs) (hl : lo' ≤ lo) : rowIn w lo' e s v n xs := by
  obtain ⟨h1, h2⟩ := h
  refine ⟨h1, ?_⟩
  rcases h2 with h2 | ⟨g, cap, cur, hv, hg, r⟩
  · exact .inl h2
  · exact .inr ⟨g, cap, cur, hv, Nat.le_trans hl hg, r⟩
theorem rowIn.far {w : World} {lo : Nat} {e : TypeId} {s n : Nat} {v : Value} {xs : List Value} (h : rowIn w lo e s v n xs) {p : Addr} {u : Value} (hp : ∀ k, v.ownBlock = some k → k ≠ p.block) : rowIn (w.setCell p u) lo e s v n xs := by
  obtain ⟨h1, h2⟩ := h
  refine ⟨h1, ?_⟩
  rcases h2 with h2 | ⟨g, cap, cur, rfl, hg, hb, r⟩
  · exact .inl h2
  · exact .inr ⟨g, cap, cur, rfl, hg, (Below.heap_setCell w p u g (hp g rfl)).trans hb, r⟩
theorem rowIn.ne {w : World} {lo : Nat} {e t : TypeId} {s n g : Nat} {v : Value} {xs : List Value} {cs : Array Value} {fr : Nat × Nat} (h : rowIn w lo e s v n xs) (hb : w.heap[g]? = some (.cells cs t fr)) (hne : e ≠ t) : ∀ k, v.ownBlock = some k → k ≠ g := fun k hk e2 => by
  obtain ⟨_, ⟨rfl, _⟩ | ⟨g', cap, cur, rfl, hg, hh, _⟩⟩ := h
  · simp [Value.ownBlock] at hk
  · have : g' = k := by simpa [Value.ownBlock] using hk
    subst this e2
    rw [hb] at hh
    injection hh with hh
    injection hh with _ hh
    exact hne hh.symm
def InPs (w : World) (lo hi : Nat) (f : Nat → Nat) (v : Value) (ps : List Pl) : Prop :=
  ∃ es : List Value, rowIn w lo 25 3 v ps.length es ∧ (∀ k, v.ownBlock = some k → k < hi) ∧
    ∀ j, j < ps.length → ∃ x0 x2, es[j * 3]? = some x0 ∧ es[j * 3 + 1]? = some (.int .i64 (ps.getD j z0).step) ∧ es[j * 3 + 2]? = some x2 ∧ OwnT w lo hi f (2 * j + 2) x0 (ps.getD j z0).st ∧ OwnT w lo hi f (2 * j + 3) x2 (ps.getD j z0).word
def DkW (w : World) (lo hi : Nat) (f : Nat → Nat) (v : Value) (d : Dk) : Prop :=
  ∃ x0 x2 x3, v = .agg #[x0, .int .i64 d.now.step, x2, x3] ∧ OwnT w lo hi f 0 x0 d.now.st ∧ OwnT w lo hi f 1 x2 d.now.word ∧ InPs w lo hi f x3 d.past
theorem OwnPs.inp {w : World} {lo hi : Nat} {f : Nat → Nat} {v : Value} {ps : List Pl} (h : OwnPs w lo hi f v ps) : InPs w lo hi f v ps := by
  obtain ⟨es, h1, h2, h3⟩ := h
  exact ⟨es, rowIn_of h1, h2, h3⟩
theorem DkO.weak {w : World} {lo hi : Nat} {f : Nat → Nat} {v : Value} {d : Dk} (h : DkO w lo hi f v d) : DkW w lo hi f v d := by
  obtain ⟨x0, x2, x3, e, h0, h2, h3⟩ := h
  exact ⟨x0, x2, x3, e, h0, h2, h3.inp⟩
theorem InPs.pls {w : World} {lo hi : Nat} {f : Nat → Nat} {v : Value} {ps : List Pl} (h : InPs w lo hi f v ps) : Pls w v ps := by
  obtain ⟨es, ⟨h1, ⟨rfl, h2⟩ | ⟨g, cap, cur, rfl, hg, hh, hc, hm, hs, ht⟩⟩, _, h3⟩ := h
  · obtain rfl := List.length_eq_zero_iff.1 h2
    exact ⟨by simp, none, 0, rfl, by simp, fun j hj => by simp at hj⟩
  · refine ⟨by unfold maxLen at hm; omega, some ⟨g, 0, none⟩, cap, rfl, hc, fun j hj => ?_⟩
    obtain ⟨x0, x2, k0, k1, k2, k3, k4⟩ := h3 j hj
    obtain ⟨A0, c0, rfl⟩ := k3.ints.form
    obtain ⟨A2, c2, rfl⟩ := k4.ints.form
    have cell : ∀ i u, es[i]? = some u → w.cell? ⟨g, i, none⟩ = some u := fun i u hu => by
      rw [cell_of_row w g i cur _ _ hh]
      rw [← ht, List.getElem?_take] at hu
      split at hu
      · simpa using hu
      · cases hu
    exact ⟨g, 0, A0, c0, A2, c2, rfl, by rw [Nat.zero_add]; exact cell _ _ k0, by rw [Nat.zero_add]; exact cell _ _ k1, by rw [Nat.zero_add]; exact cell _ _ k2, k3.ints, k4.ints⟩
theorem DkW.dk {w : World} {lo hi : Nat} {f : Nat → Nat} {v : Value} {d : Dk} (h : DkW w lo hi f v d) : DkI w v d := by
  obtain ⟨x0, x2, x3, e, h0, h2, h3⟩ := h
  exact ⟨x0, x2, x3, e, h0.ints, h2.ints, h3.pls⟩
theorem InPs.kept {w w1 : World} {lo hi : Nat} {f : Nat → Nat} {v : Value} {ps : List Pl} (h : InPs w lo hi f v ps) (hk : ∀ k, lo ≤ k → k < hi → w1.heap[k]? = w.heap[k]?) : InPs w1 lo hi f v ps := by
  obtain ⟨es, h1, h2, h3⟩ := h
  refine ⟨es, h1.kept h2 hk, h2, fun j hj => ?_⟩
  obtain ⟨x0, x2, k0, k1, k2, k3, k4⟩ := h3 j hj
  exact ⟨x0, x2, k0, k1, k2, k3.kept hk, k4.kept hk⟩
theorem DkW.kept {w w1 : World} {lo hi : Nat} {f : Nat → Nat} {v : Value} {d : Dk} (h : DkW w lo hi f v d) (hk : ∀ k, lo ≤ k → k < hi → w1.heap[k]? = w.heap[k]?) : DkW w1 lo hi f v d := by
  obtain ⟨x0, x2, x3, e, h0, h2, h3⟩ := h
  exact ⟨x0, x2, x3, e, h0.kept hk, h2.kept hk, h3.kept hk⟩
theorem InPs.lo {w : World} {lo lo' hi : Nat} {f : Nat → Nat} {v : Value} {ps : List Pl} (h : InPs w lo hi f v ps) (hl : lo' ≤ lo) : InPs w lo' hi f v ps := by
  obtain ⟨es, h1, h2, h3⟩ := h
  refine ⟨es, h1.lo hl, h2, fun j hj => ?_⟩
  obtain ⟨x0, x2, k0, k1, k2, k3, k4⟩ := h3 j hj
  exact ⟨x0, x2, k0, k1, k2, k3.lo hl, k4.lo hl⟩
theorem DkW.lo {w : World} {lo lo' hi : Nat} {f : Nat → Nat} {v : Value} {d : Dk} (h : DkW w lo hi f v d) (hl : lo' ≤ lo) : DkW w lo' hi f v d := by
  obtain ⟨x0, x2, x3, e, h0, h2, h3⟩ := h
  exact ⟨x0, x2, x3, e, h0.lo hl, h2.lo hl, h3.lo hl⟩
theorem OwnT.hi {w : World} {lo hi hi' : Nat} {f : Nat → Nat} {t : Nat} {v : Value} {xs : List Int} (h : OwnT w lo hi f t v xs) (hl : hi ≤ hi') : OwnT w lo hi' f t v xs := ⟨h.1, fun k e => ⟨(h.2 k e).1, by have := (h.2 k e).2; omega⟩⟩
theorem InPs.hi {w : World} {lo hi hi' : Nat} {f : Nat → Nat} {v : Value} {ps : List Pl} (h : InPs w lo hi f v ps) (hl : hi ≤ hi') : InPs w lo hi' f v ps := by
  obtain ⟨es, h1, h2, h3⟩ := h
  refine ⟨es, h1, fun k e => by have := h2 k e; omega, fun j hj => ?_⟩
  obtain ⟨x0, x2, k0, k1, k2, k3, k4⟩ := h3 j hj
  exact ⟨x0, x2, k0, k1, k2, k3.hi hl, k4.hi hl⟩
theorem DkW.hi {w : World} {lo hi hi' : Nat} {f : Nat → Nat} {v : Value} {d : Dk} (h : DkW w lo hi f v d) (hl : hi ≤ hi') : DkW w lo hi' f v d := by
  obtain ⟨x0, x2, x3, e, h0, h2, h3⟩ := h
  exact ⟨x0, x2, x3, e, h0.hi hl, h2.hi hl, h3.hi hl⟩
theorem InPs.set {w : World} {lo hi : Nat} {f : Nat → Nat} {v : Value} {ps : List Pl} {g : Nat} {cs : Array Value} {ty : TypeId} {fr : Nat × Nat} (h : InPs w lo hi f v ps) (hb : w.heap[g]? = some (.cells cs ty fr)) (h1 : 3 ≠ ty) (h2 : 25 ≠ ty) (j : Nat) (u : Value) : InPs (w.setCell ⟨g, j, none⟩ u) lo hi f v ps := by
  obtain ⟨es, k1, k2, k3⟩ := h
  refine ⟨es, k1.far (k1.ne hb h2), k2, fun i hi => ?_⟩
  obtain ⟨x0, x2, a0, a1, a2, a3, a4⟩ := k3 i hi
  exact ⟨x0, x2, a0, a1, a2, a3.set hb h1 j u, a4.set hb h1 j u⟩
theorem DkW.set {w : World} {lo hi : Nat} {f : Nat → Nat} {v : Value} {d : Dk} {g : Nat} {cs : Array Value} {ty : TypeId} {fr : Nat × Nat} (h : DkW w lo hi f v d) (hb : w.heap[g]? = some (.cells cs ty fr)) (h1 : 3 ≠ ty) (h2 : 25 ≠ ty) (j : Nat) (u : Value) : DkW (w.setCell ⟨g, j, none⟩ u) lo hi f v d := by
  obtain ⟨x0, x2, x3, e, k0, k2, k3⟩ := h
  exact ⟨x0, x2, x3, e, k0.set hb h1 j u, k2.set hb h1 j u, k3.set hb h1 h2 j u⟩
def set4 (w : World) (g : Nat) (u0 u1 u2 u3 : Value) : World := (((w.setCell ⟨g, 0, none⟩ u0).setCell ⟨g, 1, none⟩ u1).setCell ⟨g, 2, none⟩ u2).setCell ⟨g, 3, none⟩ u3
/-- The four cells of a result are written. -/
theorem DkW.set4 {w : World} {lo hi : Nat} {f : Nat → Nat} {v : Value} {d : Dk} {g : Nat} {cs : Array Value} {ty : TypeId} (h : DkW w lo hi f v d) (hb : w.heap[g]? = some (.cells cs ty (0, 0))) (h1 : 3 ≠ ty) (h2 : 25 ≠ ty) (u0 u1 u2 u3 : Value) :
    DkW (set4 w g u0 u1 u2 u3) lo hi f v d :=
  (((h.set hb h1 h2 0 u0).set (block_set hb 0 u0) h1 h2 1 u1).set (block_set (block_set hb 0 u0) 1 u1) h1 h2 2 u2).set (block_set (block_set (block_set hb 0 u0) 1 u1) 2 u2) h1 h2 3 u3
theorem below_set4 {B g : Nat} {w W : World} (h : Below B w W) (hg : B ≤ g) (u0 u1 u2 u3 : Value) : Below B w (set4 W g u0 u1 u2 u3) :=
  (((h.setCell (p := ⟨g, 0, none⟩) hg u0).setCell (p := ⟨g, 1, none⟩) hg u1).setCell (p := ⟨g, 2, none⟩) hg u2).setCell (p := ⟨g, 3, none⟩) hg u3
theorem size_set4 (w : World) (g : Nat) (u0 u1 u2 u3 : Value) : (set4 w g u0 u1 u2 u3).heap.size = w.heap.size := by simp [set4]
theorem DkI.nil (w : World) : DkI w (.agg #[.slice none 0 0, .int .i64 0, .slice none 0 0, .slice none 0 0]) zd :=
  ⟨_, _, _, rfl, (OwnI.nil w 0).ints, (OwnI.nil w 0).ints, (OwnPs.nil w 0 0 (fun _ => 0)).pls⟩
theorem DkW.nil (w : World) (lo hi : Nat) : DkW w lo hi (fun _ => 0) (.agg #[.slice none 0 0, .int .i64 0, .slice none 0 0, .slice none 0 0]) zd :=
  ⟨_, _, _, rfl, ⟨OwnI.nil w lo, fun k e => by simp [Value.ownBlock] at e⟩, ⟨OwnI.nil w lo, fun k e => by simp [Value.ownBlock] at e⟩, (OwnPs.nil w lo hi _).inp⟩
/-- The last place, and those before it. -/
theorem OwnPs.last {w : World} {lo hi : Nat} {f : Nat → Nat} {A : Option Addr} {c m : Nat} {ps : List Pl} (h : OwnPs w lo hi f (.slice A ps.length c) ps) (hm : ps.length = m + 1) :
    ∃ g y0 y2, A = some ⟨g, 0, none⟩ ∧ m + 1 ≤ c ∧ c ≤ maxLen ∧ w.cell? ⟨g, m * 3, none⟩ = some y0 ∧ w.cell? ⟨g, m * 3 + 1, none⟩ = some (.int .i64 (ps.getD m z0).step) ∧ w.cell? ⟨g, m * 3 + 2, none⟩ = some y2 ∧
      ∃ f', OwnT w lo hi f' 0 y0 (ps.getD m z0).st ∧ OwnT w lo hi f' 1 y2 (ps.getD m z0).word ∧ OwnPs w lo hi f' (.slice A m c) (ps.take m) := by
  have ht := OwnPs.take h m (by omega)
  obtain ⟨es, ⟨h1, ⟨e, h2⟩ | ⟨g, cap, cur, e, hg, hh, hc, hx, hs, hr⟩⟩, _, h3⟩ := h
  · omega
  · simp only [Value.slice.injEq] at e
    obtain ⟨rfl, _, rfl⟩ := e
    obtain ⟨x0, x2, k0, k1, k2, k3, k4⟩ := h3 m (by omega)
    have cell : ∀ i u, es[i]? = some u → w.cell? ⟨g, i, none⟩ = some u := fun i u hu => by
      rw [cell_of_row w g i cur _ _ hh]
      rw [← hr, List.getElem?_take] at hu
      split at hu
      · simpa using hu
      · cases hu
    refine ⟨g, x0, x2, rfl, by omega, hx, cell _ _ k0, cell _ _ k1, cell _ _ k2, fun k => if f k = 2 * m + 2 then 0 else if f k = 2 * m + 3 then 1 else f k, ?_, ?_, ?_⟩
    · exact k3.re (fun k _ _ e => by rw [if_pos e]) (Nat.le_refl _)
    · exact k4.re (fun k _ _ e => by rw [if_neg (by omega), if_pos e]) (Nat.le_refl _)
    · refine ht.re (fun k _ _ _ a => ?_) (Nat.le_refl _)
      rw [List.length_take] at a
      rw [if_neg (by omega), if_neg (by omega)]
theorem OwnPs.clip {w : World} {lo hi : Nat} {f : Nat → Nat} {A : Option Addr} {c m : Nat} {ps : List Pl} (h : OwnPs w lo hi f (.slice A m c) ps) (hm : ps.length = m) : InPs w lo hi f (.slice A m m) ps := by
  subst hm
  obtain ⟨es, ⟨h1, h2⟩, h3, h4⟩ := h
  refine ⟨es, ⟨h1, ?_⟩, fun k e => h3 k (by cases A with | none => simp [Value.ownBlock] at e | some a => exact e), h4⟩
  rcases h2 with ⟨e, h2⟩ | ⟨g, cap, cur, e, hg, hb, hc, hx, hs, ht⟩
  · simp only [Value.slice.injEq] at e
    obtain ⟨rfl, e, rfl⟩ := e
    exact .inl ⟨by rw [e], h2⟩
  · simp only [Value.slice.injEq] at e
    obtain ⟨rfl, _, rfl⟩ := e
    exact .inr ⟨g, ps.length, cur, rfl, hg, hb, Nat.le_refl _, by omega, by rw [hs]; exact Nat.mul_le_mul_right _ hc, ht⟩
theorem Pls.of_row {w : World} {lo : Nat} {v : Value} {es : List Value} {ps : List Pl} (h : w.ownsRow lo 25 3 v ps.length es)
    (hin : ∀ j, j < ps.length → ∃ x0 x2, es[j * 3]? = some x0 ∧ es[j * 3 + 1]? = some (.int .i64 (ps.getD j z0).step) ∧ es[j * 3 + 2]? = some x2 ∧ Ints w x0 (ps.getD j z0).st ∧ Ints w x2 (ps.getD j z0).word) : Pls w v ps := by
  obtain ⟨h1, ⟨rfl, h2⟩ | ⟨g, cap, cur, rfl, hg, hh, hc, hm, hs, ht⟩⟩ := h
  · obtain rfl := List.length_eq_zero_iff.1 h2
    exact ⟨by simp, none, 0, rfl, by simp, fun j hj => by simp at hj⟩
  · refine ⟨by unfold maxLen at hm; omega, some ⟨g, 0, none⟩, cap, rfl, hc, fun j hj => ?_⟩
    obtain ⟨x0, x2, k0, k1, k2, k3, k4⟩ := hin j hj
    obtain ⟨A0, c0, rfl⟩ := k3.form
    obtain ⟨A2, c2, rfl⟩ := k4.form
    have cell : ∀ i u, es[i]? = some u → w.cell? ⟨g, i, none⟩ = some u := fun i u hu => by
      rw [cell_of_row w g i cur _ _ hh]
      rw [← ht, List.getElem?_take] at hu
      split at hu
      · simpa using hu
      · cases hu
    exact ⟨g, 0, A0, c0, A2, c2, rfl, by rw [Nat.zero_add]; exact cell _ _ k0, by rw [Nat.zero_add]; exact cell _ _ k1, by rw [Nat.zero_add]; exact cell _ _ k2, k3, k4⟩
/-- One place less, at the head. -/
theorem Pls.drop1 {w : World} {g n c : Nat} {ps : List Pl} (h : Pls w (.slice (some ⟨g, 0, none⟩) (n + 1) c) ps) : Pls w (.slice (some ⟨g, 3, none⟩) n (c - 1)) (ps.drop 1) := by
  obtain ⟨hm, A, c', e, hl, hc⟩ := h
  simp only [Value.slice.injEq] at e
  obtain ⟨rfl, hn, rfl⟩ := e
  have hd : (ps.drop 1).length = n := by rw [List.length_drop]; omega
  refine ⟨by omega, some ⟨g, 3, none⟩, c - 1, by rw [hd], by omega, fun j hj => ?_⟩
  obtain ⟨b, o, A0, c0, A2, c2, e, k0, k1, k2, k3, k4⟩ := hc (j + 1) (by omega)
  cases e
  have e : (ps.drop 1).getD j z0 = ps.getD (j + 1) z0 := by simp [List.getD, Nat.add_comm]
  rw [e]
  have ea : 0 + (j + 1) * 3 = 3 + j * 3 := by omega
  rw [ea] at k0 k1 k2
  exact ⟨g, 3, A0, c0, A2, c2, rfl, k0, k1, k2, k3, k4⟩
/-- Places of the call's own, without tags. -/
def HasPs (w : World) (lo : Nat) (v : Value) (ps : List Pl) : Prop :=
  ∃ es : List Value, w.ownsRow lo 25 3 v ps.length es ∧
    ∀ j, j < ps.length → ∃ x0 x2, es[j * 3]? = some x0 ∧ es[j * 3 + 1]? = some (.int .i64 (ps.getD j z0).step) ∧ es[j * 3 + 2]? = some x2 ∧ OwnI w lo x0 (ps.getD j z0).st ∧ OwnI w lo x2 (ps.getD j z0).word
theorem HasPs.pls {w : World} {lo : Nat} {v : Value} {ps : List Pl} (h : HasPs w lo v ps) : Pls w v ps := by
  obtain ⟨es, h1, h2⟩ := h
  exact Pls.of_row h1 fun j hj => by
    obtain ⟨x0, x2, k0, k1, k2, k3, k4⟩ := h2 j hj
    exact ⟨x0, x2, k0, k1, k2, k3.ints, k4.ints⟩
theorem HasPs.set {w : World} {lo : Nat} {v : Value} {ps : List Pl} {g : Nat} {cs : Array Value} {ty : TypeId} {fr : Nat × Nat} (h : HasPs w lo v ps) (hb : w.heap[g]? = some (.cells cs ty fr)) (h1 : 3 ≠ ty) (h2 : 25 ≠ ty) (j : Nat) (u : Value) : HasPs (w.setCell ⟨g, j, none⟩ u) lo v ps := by
  obtain ⟨es, k1, k2⟩ := h
  refine ⟨es, own_far k1 (own_ne k1 hb h2), fun i hi => ?_⟩
  obtain ⟨x0, x2, a0, a1, a2, a3, a4⟩ := k2 i hi
  exact ⟨x0, x2, a0, a1, a2, own_far a3 (own_ne a3 hb h1), own_far a4 (own_ne a4 hb h1)⟩
theorem HasPs.set4 {w : World} {lo : Nat} {v : Value} {ps : List Pl} {g : Nat} {cs : Array Value} {ty : TypeId} (h : HasPs w lo v ps) (hb : w.heap[g]? = some (.cells cs ty (0, 0))) (h1 : 3 ≠ ty) (h2 : 25 ≠ ty) (u0 u1 u2 u3 : Value) : HasPs (Ub.set4 w g u0 u1 u2 u3) lo v ps :=
  (((h.set hb h1 h2 0 u0).set (block_set hb 0 u0) h1 h2 1 u1).set (block_set (block_set hb 0 u0) 1 u1) h1 h2 2 u2).set (block_set (block_set (block_set hb 0 u0) 1 u1) 2 u2) h1 h2 3 u3
theorem OwnI.set4 {w : World} {lo : Nat} {v : Value} {xs : List Int} {g : Nat} {cs : Array Value} {ty : TypeId} (h : OwnI w lo v xs) (hb : w.heap[g]? = some (.cells cs ty (0, 0))) (h1 : 3 ≠ ty) (u0 u1 u2 u3 : Value) : OwnI (Ub.set4 w g u0 u1 u2 u3) lo v xs := by
  have s1 : ∀ {w : World} {cs : Array Value} (j : Nat) (u : Value), OwnI w lo v xs → w.heap[g]? = some (.cells cs ty (0, 0)) → OwnI (w.setCell ⟨g, j, none⟩ u) lo v xs := fun j u h hb => own_far h (own_ne h hb h1)
  exact s1 3 u3 (s1 2 u2 (s1 1 u1 (s1 0 u0 h hb) (block_set hb 0 u0)) (block_set (block_set hb 0 u0) 1 u1)) (block_set (block_set (block_set hb 0 u0) 1 u1) 2 u2)
/-- One place more. -/
theorem HasPs.push {w w1 : World} {lo hi l0 l2 : Nat} {f : Nat → Nat} {v v' : Value} {ps : List Pl} {p : Pl} {x0 x2 : Value} {es : List Value} (hes : w.ownsRow lo 25 3 v ps.length es)
    (hin : ∀ j, j < ps.length → ∃ x0 x2, es[j * 3]? = some x0 ∧ es[j * 3 + 1]? = some (.int .i64 (ps.getD j z0).step) ∧ es[j * 3 + 2]? = some x2 ∧ OwnT w lo hi f (2 * j + 2) x0 (ps.getD j z0).st ∧ OwnT w lo hi f (2 * j + 3) x2 (ps.getD j z0).word)
    (h0 : OwnI w l0 x0 p.st) (h2 : OwnI w l2 x2 p.word) (hl0 : lo ≤ l0) (hl2 : lo ≤ l2)
    (hg : w.grownBy w1 v.ownBlock) (h1 : w1.ownsRow lo 25 3 v' (ps.length + 1) (es ++ [x0, .int .i64 p.step, x2])) : HasPs w1 lo v' (ps ++ [p]) := by
  have hl : es.length = ps.length * 3 := hes.1
  have keep : ∀ {l : Nat} {u : Value} {xs : List Int}, lo ≤ l → OwnI w l u xs → OwnI w1 lo u xs := fun {l u xs} hl h => OwnI.mono (own_other h hes hg (by decide)) hl
  refine ⟨es ++ [x0, .int .i64 p.step, x2], by rw [List.length_append]; exact h1, fun j hj => ?_⟩
  rw [List.length_append, List.length_singleton] at hj
  by_cases e2 : j < ps.length
  · obtain ⟨y0, y2, k0, k1, k2, k3, k4⟩ := hin j e2
    have e : (ps ++ [p]).getD j z0 = ps.getD j z0 := by simp [List.getD, List.getElem?_append_left e2]
    rw [e]
    exact ⟨y0, y2, by rw [List.getElem?_append_left (by omega)]; exact k0, by rw [List.getElem?_append_left (by omega)]; exact k1, by rw [List.getElem?_append_left (by omega)]; exact k2, keep (Nat.le_refl _) k3.1, keep (Nat.le_refl _) k4.1⟩
  · obtain rfl : j = ps.length := by omega
    have e : (ps ++ [p]).getD ps.length z0 = p := by simp [List.getD]
    rw [e]
    exact ⟨x0, x2, by rw [List.getElem?_append_right (by omega)]; simp [hl], by rw [List.getElem?_append_right (by omega)]; simp [hl], by rw [List.getElem?_append_right (by omega)]; simp [hl], keep hl0 h0, keep hl2 h2⟩
theorem block_far4 {w : World} {g h : Nat} {o : Obj} (hb : w.heap[h]? = some o) (hn : h ≠ g) (u0 u1 u2 u3 : Value) : (set4 w g u0 u1 u2 u3).heap[h]? = some o :=
  block_far (block_far (block_far (block_far hb hn) hn) hn) hn
theorem block_set4 {w : World} {g : Nat} {t : TypeId} {a b c d : Value} (h : w.heap[g]? = some (.cells #[a, b, c, d] t (0, 0))) (u0 u1 u2 u3 : Value) : (set4 w g u0 u1 u2 u3).heap[g]? = some (.cells #[u0, u1, u2, u3] t (0, 0)) :=
  block_set (block_set (block_set (block_set h 0 u0) 1 u1) 2 u2) 3 u3
theorem OwnPs.hi {w : World} {lo hi hi' : Nat} {f : Nat → Nat} {v : Value} {ps : List Pl} (h : OwnPs w lo hi f v ps) (hl : hi ≤ hi') : OwnPs w lo hi' f v ps := by
  obtain ⟨es, h1, h2, h3⟩ := h
  refine ⟨es, h1, fun k e => by have := h2 k e; omega, fun j hj => ?_⟩
  obtain ⟨x0, x2, k0, k1, k2, k3, k4⟩ := h3 j hj
  exact ⟨x0, x2, k0, k1, k2, k3.hi hl, k4.hi hl⟩
theorem DkO.hi {w : World} {lo hi hi' : Nat} {f : Nat → Nat} {v : Value} {d : Dk} (h : DkO w lo hi f v d) (hl : hi ≤ hi') : DkO w lo hi' f v d := by
  obtain ⟨x0, x2, x3, e, h0, h2, h3⟩ := h
  exact ⟨x0, x2, x3, e, h0.hi hl, h2.hi hl, h3.hi hl⟩
/-- Two copies of a desk, and two new blocks for them. -/
structure Two where
  B0 : Option Addr
  e0 : Nat
  B2 : Option Addr
  e2 : Nat
  B3 : Option Addr
  e3 : Nat
  C0 : Option Addr
  k0 : Nat
  C2 : Option Addr
  k2 : Nat
  C3 : Option Addr
  k3 : Nat
  g6 : Nat
  g7 : Nat
def Two.v1 (t : Two) (d : Dk) : Value := .agg #[.slice t.B0 d.now.st.length t.e0, .int .i64 d.now.step, .slice t.B2 d.now.word.length t.e2, .slice t.B3 d.past.length t.e3]
def Two.v2 (t : Two) (d : Dk) : Value := .agg #[.slice t.C0 d.now.st.length t.k0, .int .i64 d.now.step, .slice t.C2 d.now.word.length t.k2, .slice t.C3 d.past.length t.k3]
structure Two.Fits (t : Two) (wa : World) (d : Dk) (w' : World) : Prop where
  bel : Below wa.heap.size wa w'
  b6 : w'.heap[t.g6]? = some (.cells #[.slice none 0 0, .int .i64 0, .slice none 0 0, .slice none 0 0] 28 (0, 0))
  b7 : w'.heap[t.g7]? = some (.cells #[.slice none 0 0, .int .i64 0, .slice none 0 0, .slice none 0 0] 28 (0, 0))
  ne : t.g6 ≠ t.g7
  l6 : wa.heap.size ≤ t.g6
  l7 : wa.heap.size ≤ t.g7
  own : ∃ m f1 f2, m ≤ w'.heap.size ∧ DkO w' wa.heap.size m f1 (t.v1 d) d ∧ DkO w' m w'.heap.size f2 (t.v2 d) d
/-- A desk in the making, at block g1; the result's block is r. -/
structure Fin (w W : World) (g1 r : Nat) (cs rc : Array Value) (lo l : Nat) (vp : Value) (ps : List Pl) (v0 : Value) (m0 : List Int) (v2 : Value) (m2 : List Int) : Prop where
  out : W.heap[g1]? = some (.cells cs 28 (0, 0))
  res : W.heap[r]? = some (.cells rc 28 (0, 0))
  past : HasPs W lo vp ps
  st : OwnI W l v0 m0
  word : OwnI W l v2 m2
  below : Below w.heap.size w W
theorem Fin.set {w W : World} {g1 r : Nat} {cs rc : Array Value} {lo l : Nat} {vp : Value} {ps : List Pl} {v0 : Value} {m0 : List Int} {v2 : Value} {m2 : List Int} (h : Fin w W g1 r cs rc lo l vp ps v0 m0 v2 m2) (hr : r ≠ g1) (hg : w.heap.size ≤ g1) (j : Nat) (u : Value) :
    Fin w (W.setCell ⟨g1, j, none⟩ u) g1 r (cs.setIfInBounds j u) rc lo l vp ps v0 m0 v2 m2 :=
  ⟨block_set h.out j u, block_far h.res hr, h.past.set h.out (by decide) (by decide) j u, own_far h.st (own_ne h.st h.out (by decide)), own_far h.word (own_ne h.word h.out (by decide)), h.below.setCell hg u⟩
theorem DkO.of {w : World} {lo hi : Nat} {f : Nat → Nat} {x0 x2 x3 : Value} {d : Dk} (h0 : OwnT w lo hi f 0 x0 d.now.st) (h2 : OwnT w lo hi f 1 x2 d.now.word) (h3 : OwnPs w lo hi f x3 d.past) : DkO w lo hi f (.agg #[x0, .int .i64 d.now.step, x2, x3]) d := ⟨_, _, _, rfl, h0, h2, h3⟩
theorem DkW.of {w : World} {lo hi : Nat} {f : Nat → Nat} {x0 x2 x3 : Value} {d : Dk} (h0 : OwnT w lo hi f 0 x0 d.now.st) (h2 : OwnT w lo hi f 1 x2 d.now.word) (h3 : InPs w lo hi f x3 d.past) : DkW w lo hi f (.agg #[x0, .int .i64 d.now.step, x2, x3]) d := ⟨_, _, _, rfl, h0, h2, h3⟩
theorem DkO.parts {w : World} {lo hi : Nat} {f : Nat → Nat} {x0 u x2 x3 : Value} {d : Dk} (h : DkO w lo hi f (.agg #[x0, u, x2, x3]) d) : OwnT w lo hi f 0 x0 d.now.st ∧ OwnT w lo hi f 1 x2 d.now.word ∧ OwnPs w lo hi f x3 d.past := by
  obtain ⟨_, _, _, e, h⟩ := h
  injection e with e
  simp only [Array.mk.injEq, List.cons.injEq, and_true] at e
  obtain ⟨rfl, _, rfl, rfl⟩ := e
  exact h
/-- A desk that reads the same in each world that has its blocks, which lie from lo on. -/
def DkS (w : World) (lo : Nat) (v : Value) (d : Dk) : Prop := ∀ W : World, (∀ k, lo ≤ k → k < w.heap.size → W.heap[k]? = w.heap[k]?) → DkI W v d
theorem DkS.dk {w : World} {lo : Nat} {v : Value} {d : Dk} (h : DkS w lo v d) : DkI w v d := h w (fun _ _ _ => rfl)
theorem DkW.stay {w : World} {lo lo' hi : Nat} {f : Nat → Nat} {v : Value} {d : Dk} (h : DkW w lo hi f v d) (hl : lo' ≤ lo) (hh : hi ≤ w.heap.size) : DkS w lo' v d := fun W hk =>
  (h.kept (fun k a b => hk k (by omega) (by omega))).dk
theorem HasPs.kept {w w1 : World} {lo : Nat} {v : Value} {ps : List Pl} (h : HasPs w lo v ps) (hk : ∀ k, lo ≤ k → k < w.heap.size → w1.heap[k]? = w.heap[k]?) : HasPs w1 lo v ps := by
  obtain ⟨es, h1, h2⟩ := h
  refine ⟨es, own_kept h1 (fun k e => (World.ownsRow.lt h1 k e).2) hk, fun j hj => ?_⟩
  obtain ⟨x0, x2, k0, k1, k2, k3, k4⟩ := h2 j hj
  exact ⟨x0, x2, k0, k1, k2, own_kept k3 (fun k e => (World.ownsRow.lt k3 k e).2) hk, own_kept k4 (fun k e => (World.ownsRow.lt k4 k e).2) hk⟩
theorem OwnI.keeps {w w1 : World} {lo : Nat} {v : Value} {xs : List Int} (h : OwnI w lo v xs) (hk : ∀ k, lo ≤ k → k < w.heap.size → w1.heap[k]? = w.heap[k]?) : OwnI w1 lo v xs := own_kept h (fun k e => (World.ownsRow.lt h k e).2) hk
theorem DkS.nil (w : World) (lo : Nat) : DkS w lo (.agg #[.slice none 0 0, .int .i64 0, .slice none 0 0, .slice none 0 0]) zd := fun W _ => DkI.nil W
end Go.Proofs.YtpfncjaclgcbnaaDoor.Ub
