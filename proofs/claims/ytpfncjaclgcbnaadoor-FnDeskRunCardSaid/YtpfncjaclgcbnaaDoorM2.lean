/- The plain law, second part: rules, words that can be drawn, places. -/
import Derived.Test.YtpfncjaclgcbnaaDoorM1
namespace Go.Proofs.YtpfncjaclgcbnaaDoor.Ub

theorem rowFrom_at (i : Int) : ∀ (k : Int) (r : List Int), rowFrom i k r = true → ∀ j, -1 ≤ r.getD j 0 ∧ r.getD j 0 ≤ 3
  | _, [], _ => by intro j; simp
  | k, x :: r, h => by
    simp only [rowFrom, Bool.and_eq_true] at h
    intro j
    cases j with
    | zero =>
      have h1 := h.1
      simp [cellOk] at h1
      simp; omega
    | succ j => simpa using rowFrom_at i (k + 1) r h.2 j
theorem rowsFrom_at (c : Int) : ∀ (i : Int) (rs : List (List Int)), rowsFrom c i rs = true → ∀ j, j < rs.length → ((rs.getD j []).length : Int) = c ∧ ∀ k, -1 ≤ (rs.getD j []).getD k 0 ∧ (rs.getD j []).getD k 0 ≤ 3
  | _, [], _ => by intro j hj; simp at hj
  | i, r :: rs, h => by
    simp only [rowsFrom, Bool.and_eq_true, decide_eq_true_eq] at h
    intro j hj
    cases j with
    | zero => exact ⟨by simpa using h.1.1, by simpa using rowFrom_at i 0 r h.1.2⟩
    | succ j => simpa using rowsFrom_at c (i + 1) rs h.2 j (by simpa using hj)
theorem fit_of_ruleOk {n : Nat} {rule : List (List Int)} (h : ruleOk n rule = true) : fit n rule := by
  simp only [ruleOk, Bool.and_eq_true, decide_eq_true_eq] at h
  have hl : rule.length = n := by omega
  refine ⟨hl, fun c h0 h1 => ?_⟩
  have := rowsFrom_at n 0 rule h.1 c.toNat (by omega)
  unfold ruleRow
  refine ⟨by omega, fun j => ?_⟩
  have := this.2 j
  omega
theorem start_within {u : List Int} (h : startOk u = true) : within 100 u ∧ within 10 u ∧ 1 ≤ u.length ∧ u.length ≤ 3 := by
  simp only [startOk, urnOk, Bool.and_eq_true, low, each, List.all_eq_true, decide_eq_true_eq] at h
  have hc : 1 ≤ (u.length : Int) ∧ (u.length : Int) ≤ 3 := by simpa [colOk, inR] using h.2.2
  have hw : within 10 u := by
    intro j
    by_cases hj : j < u.length
    · have h1 := h.1 u[j] (List.getElem_mem hj)
      have h2 := h.2.1 u[j] (List.getElem_mem hj)
      simp [inR] at h2
      have e : u.getD j 0 = u[j] := by simp [List.getD, hj]
      rw [e]; omega
    · rw [List.getD, List.getElem?_eq_none (by omega)]; simp
  refine ⟨fun j => by have := hw j; omega, hw, by omega, by omega⟩
theorem word_among {c : Int} {w : List Int} (h : wordOk c w = true) : among c w = true ∧ w.length ≤ 6 := by
  simp only [wordOk, Bool.and_eq_true, decide_eq_true_eq] at h
  exact ⟨h.1, by omega⟩
theorem sameRule_len (n : Nat) (s : Int) : (sameRule n s).length = n := by simp [sameRule]
theorem sameRule_ok {n : Nat} {s : Int} (h1 : 1 ≤ n) (h2 : n ≤ 3) (hs : stepOk s = true) : ruleOk n (sameRule n s) = true := by
  have h3 : -1 ≤ s ∧ s ≤ 3 := by simpa [stepOk, inR] using hs
  have hn : n = 1 ∨ n = 2 ∨ n = 3 := by omega
  rcases hn with rfl | rfl | rfl
  · simp [ruleOk, sameRule, sameRow, List.range, List.range.loop, rowsFrom, rowFrom, cellOk, colOk, inR]; omega
  · simp [ruleOk, sameRule, sameRow, List.range, List.range.loop, rowsFrom, rowFrom, cellOk, colOk, inR]; omega
  · simp [ruleOk, sameRule, sameRow, List.range, List.range.loop, rowsFrom, rowFrom, cellOk, colOk, inR]; omega
theorem sameRuleAll_eq {n : Nat} {s : Int} (h1 : 1 ≤ n) (h2 : n ≤ 3) (hs : stepOk s = true) : sameRuleAll n s = sameRule n s := by
  have : colOk n = true := by simp [colOk, inR]; omega
  simp [sameRuleAll, this, hs]

theorem draw_step (x m : Int) (h0 : 0 ≤ m) : (decide (1 ≤ x) && decide (0 < m)) = decide (0 < max 0 x * m) := by
  by_cases h1 : 1 ≤ x
  · have hx : max 0 x = x := by omega
    rw [hx]
    by_cases h2 : 0 < m
    · have := Int.mul_pos (show 0 < x by omega) h2
      simp [h1, h2, this]
    · have : m = 0 := by omega
      simp [this]
  · have hx : max 0 x = 0 := by omega
    rw [hx]; simp [h1]
theorem draw_ways (rule : List (List Int)) : ∀ (u w : List Int), canDraw rule u w = decide (0 < ways rule u w)
  | _, [] => by simp [canDraw, ways]
  | u, c :: w => by
    simp only [canDraw, ways, draw_ways rule (plus u (ruleRow rule c)) w]
    exact draw_step _ _ (ways_nonneg rule (plus u (ruleRow rule c)) w)
theorem canDraw_drop (rule : List (List Int)) (cur word : List Int) (k : Nat) (h : k < word.length) : canDraw rule cur (word.drop k) = (decide (1 ≤ cur.getD word[k].toNat 0) && canDraw rule (plus cur (ruleRow rule word[k])) (word.drop (k + 1))) := by
  rw [List.drop_eq_getElem_cons h]; rfl
theorem canDraw_end (rule : List (List Int)) (cur word : List Int) (k : Nat) (h : ¬ k < word.length) : canDraw rule cur (word.drop k) = true := by
  rw [List.drop_of_length_le (by omega)]; rfl

/-- What AfterWord asks. -/
def drawOk (u : List Int) (rule : List (List Int)) (word : List Int) : Bool := startOk u && (ruleOk u.length rule && (wordOk u.length word && canDraw rule u word))
theorem drawOk_same (p : Pl) (hs : startOk p.st = true) (hp : stepOk p.step = true) : drawOk p.st (sameRule p.st.length p.step) p.word = placeOk p := by
  obtain ⟨_, _, h1, h2⟩ := start_within hs
  simp [drawOk, placeOk, hs, hp, sameRule_ok h1 h2 hp]
theorem past_drop (ps : List Pl) (k : Nat) (h : k < ps.length) : (ps.drop k).all placeOk = (placeOk (ps.getD k z0) && (ps.drop (k + 1)).all placeOk) := by
  rw [all_drop placeOk ps k h]; simp [List.getD, h]
/-- Balls put in. -/
def putOk (u : List Int) (c m : Int) : Bool := urnOk u && (inR c 0 ((u.length : Int) - 1) && inR m (-40) 40)
def putRes (u : List Int) (c m : Int) : List Int := u.set c.toNat (u.getD c.toNat 0 + m)
def putFine (u : List Int) (c m : Int) : Bool := putOk u c m && urnOk (putRes u c m)
def putList (u : List Int) (c m : Int) : List Int := if putFine u c m = true then putRes u c m else []
theorem putList_yes {u : List Int} {c m : Int} (h : putFine u c m = true) : putList u c m = putRes u c m := if_pos h
theorem putList_no {u : List Int} {c m : Int} (h : putFine u c m = false) : putList u c m = [] := if_neg (by rw [h]; simp)
/-- What RuleWays answers. -/
def waysAsked (u : List Int) (rule : List (List Int)) (word : List Int) : Bool := (startOk u && ruleOk u.length rule) && wordOk u.length word
def waysVal (u : List Int) (rule : List (List Int)) (word : List Int) : Int := if waysAsked u rule word = true then ways rule u word else -1
theorem waysVal_yes {u : List Int} {rule : List (List Int)} {word : List Int} (h : waysAsked u rule word = true) : waysVal u rule word = ways rule u word := if_pos h
theorem waysVal_no {u : List Int} {rule : List (List Int)} {word : List Int} (h : waysAsked u rule word = false) : waysVal u rule word = -1 := if_neg (by rw [h]; simp)
theorem urn_len {u : List Int} (h : urnOk u = true) : 1 ≤ u.length ∧ u.length ≤ 3 := by
  simp only [urnOk, Bool.and_eq_true] at h
  have hc : 1 ≤ (u.length : Int) ∧ (u.length : Int) ≤ 3 := by simpa [colOk, inR] using h.2
  omega
theorem urn_at {u : List Int} (h : urnOk u = true) (j : Nat) (hj : j < u.length) : 0 ≤ u.getD j 0 ∧ u.getD j 0 ≤ 40 := by
  simp only [urnOk, Bool.and_eq_true, each, List.all_eq_true] at h
  have h1 := h.1 u[j] (List.getElem_mem hj)
  have e : u.getD j 0 = u[j] := by simp [List.getD, hj]
  rw [e]; simpa [inR] using h1

end Go.Proofs.YtpfncjaclgcbnaaDoor.Ub
