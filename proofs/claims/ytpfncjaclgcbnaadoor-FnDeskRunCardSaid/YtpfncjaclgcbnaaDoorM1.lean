/- The plain law of urns, places and desks: what the program computes, as functions on lists of numbers; no program in sight. -/
namespace Go.Proofs.YtpfncjaclgcbnaaDoor.Ub

structure Pl where
  st : List Int
  step : Int
  word : List Int
structure Dk where
  now : Pl
  past : List Pl
structure Dd where
  kind : Int
  a : Int
  b : Int
def z0 : Pl := ⟨[], 0, []⟩
def zd : Dk := ⟨z0, []⟩

theorem Pl.ext' {p q : Pl} (h1 : p.st = q.st) (h2 : p.step = q.step) (h3 : p.word = q.word) : p = q := by
  cases p; cases q; simp_all
theorem Dk.ext' {p q : Dk} (h1 : p.now = q.now) (h2 : p.past = q.past) : p = q := by
  cases p; cases q; simp_all

def inR (n lo hi : Int) : Bool := decide (lo ≤ n) && decide (n ≤ hi)
def each (u : List Int) : Bool := u.all fun n => inR n 0 40
def low (u : List Int) : Bool := u.all fun n => decide (n ≤ 10)
def colOk (n : Int) : Bool := inR n 1 3
def urnOk (u : List Int) : Bool := each u && colOk u.length
def startOk (u : List Int) : Bool := low u && urnOk u
def inC (c x : Int) : Bool := decide (0 ≤ x) && decide (x < c)
def among (c : Int) (w : List Int) : Bool := w.all fun x => inC c x
def wordOk (c : Int) (w : List Int) : Bool := among c w && (colOk c && decide ((w.length : Int) ≤ 6))
def stepOk (s : Int) : Bool := inR s (-1) 3

/-- One row of a rule: of colour i in c colours. -/
def cellOk (i k n : Int) : Bool := decide (n ≤ 3) && (decide (0 ≤ n) || (decide (n = -1) && decide (i = k)))
def rowFrom (i : Int) : Int → List Int → Bool
  | _, [] => true
  | k, n :: r => cellOk i k n && rowFrom i (k + 1) r
def rowsFrom (c : Int) : Int → List (List Int) → Bool
  | _, [] => true
  | i, r :: rs => (decide ((r.length : Int) = c) && rowFrom i 0 r) && rowsFrom c (i + 1) rs
def ruleOk (c : Int) (rule : List (List Int)) : Bool := rowsFrom c 0 rule && (colOk c && decide ((rule.length : Int) = c))

def sameRow (n : Nat) (s : Int) (i : Nat) : List Int := (List.replicate n 0).set i s
def sameRule (n : Nat) (s : Int) : List (List Int) := (List.range n).map (sameRow n s)
/-- As the program has it, whatever is asked. -/
def sameRuleAll (c s : Int) : List (List Int) := if colOk c && stepOk s then sameRule c.toNat s else []

def plus (u r : List Int) : List Int := List.zipWith (· + ·) u r
def ruleRow (rule : List (List Int)) (c : Int) : List Int := rule.getD c.toNat []
def after (rule : List (List Int)) : List Int → List Int → List Int
  | u, [] => u
  | u, c :: w => after rule (plus u (ruleRow rule c)) w
def canDraw (rule : List (List Int)) : List Int → List Int → Bool
  | _, [] => true
  | u, c :: w => decide (1 ≤ u.getD c.toNat 0) && canDraw rule (plus u (ruleRow rule c)) w
def ways (rule : List (List Int)) : List Int → List Int → Int
  | _, [] => 1
  | u, c :: w => max 0 (u.getD c.toNat 0) * ways rule (plus u (ruleRow rule c)) w

def placeOk (p : Pl) : Bool := startOk p.st && (stepOk p.step && (wordOk p.st.length p.word && canDraw (sameRule p.st.length p.step) p.st p.word))
def deskOk (d : Dk) : Bool := (d.past.all placeOk) && (placeOk d.now && decide ((d.past.length : Int) ≤ 8))

theorem all_drop {α : Type} (p : α → Bool) (xs : List α) (k : Nat) (h : k < xs.length) : (xs.drop k).all p = (p xs[k] && (xs.drop (k + 1)).all p) := by
  rw [List.drop_eq_getElem_cons h, List.all_cons]
theorem all_end {α : Type} (p : α → Bool) (xs : List α) (k : Nat) (h : ¬ k < xs.length) : (xs.drop k).all p = true := by
  rw [List.drop_of_length_le (by omega)]; rfl
theorem each_drop (xs : List Int) (k : Nat) (h : k < xs.length) : each (xs.drop k) = (inR xs[k] 0 40 && each (xs.drop (k + 1))) := all_drop _ xs k h
theorem each_end (xs : List Int) (k : Nat) (h : ¬ k < xs.length) : each (xs.drop k) = true := all_end _ xs k h
theorem low_drop (xs : List Int) (k : Nat) (h : k < xs.length) : low (xs.drop k) = (decide (xs[k] ≤ 10) && low (xs.drop (k + 1))) := all_drop _ xs k h
theorem low_end (xs : List Int) (k : Nat) (h : ¬ k < xs.length) : low (xs.drop k) = true := all_end _ xs k h
theorem among_drop (c : Int) (xs : List Int) (k : Nat) (h : k < xs.length) : among c (xs.drop k) = (inC c xs[k] && among c (xs.drop (k + 1))) := all_drop _ xs k h
theorem among_end (c : Int) (xs : List Int) (k : Nat) (h : ¬ k < xs.length) : among c (xs.drop k) = true := all_end _ xs k h
theorem plus_length (u r : List Int) (h : r.length = u.length) : (plus u r).length = u.length := by simp [plus, h]
theorem plus_getD (u r : List Int) (k : Nat) (h : k < u.length) (hr : r.length = u.length) : (plus u r).getD k 0 = u.getD k 0 + r.getD k 0 := by
  have h2 : k < r.length := by omega
  simp [plus, List.getD, List.getElem?_zipWith, h, h2]
theorem take_getD {α : Type} (xs : List α) (z : α) (k : Nat) (h : k < xs.length) : xs.take (k + 1) = xs.take k ++ [xs.getD k z] := by
  rw [List.take_add_one]; simp [List.getD, h]
theorem plus_take (u r : List Int) (k : Nat) (h : k < u.length) (hr : r.length = u.length) : (plus u r).take (k + 1) = (plus u r).take k ++ [u.getD k 0 + r.getD k 0] := by
  rw [take_getD _ 0 k (by rw [plus_length u r hr]; exact h), plus_getD u r k h hr]
theorem rowFrom_drop (i : Int) (r : List Int) (k : Nat) (h : k < r.length) : rowFrom i k (r.drop k) = (cellOk i k r[k] && rowFrom i (k + 1 : Nat) (r.drop (k + 1))) := by
  rw [List.drop_eq_getElem_cons h]; rfl
theorem rowFrom_end (i j : Int) (r : List Int) (k : Nat) (h : ¬ k < r.length) : rowFrom i j (r.drop k) = true := by
  rw [List.drop_of_length_le (by omega)]; rfl
theorem rowsFrom_drop (c : Int) (rs : List (List Int)) (k : Nat) (h : k < rs.length) : rowsFrom c k (rs.drop k) = ((decide ((rs[k].length : Int) = c) && rowFrom k 0 rs[k]) && rowsFrom c (k + 1 : Nat) (rs.drop (k + 1))) := by
  rw [List.drop_eq_getElem_cons h]; rfl
theorem rowsFrom_end (c j : Int) (rs : List (List Int)) (k : Nat) (h : ¬ k < rs.length) : rowsFrom c j (rs.drop k) = true := by
  rw [List.drop_of_length_le (by omega)]; rfl

/-- While the rows are being added: so many sums, then what was there. -/
def mixed (a b : List Int) (k : Nat) : List Int := (plus a b).take k ++ a.drop k
theorem mixed_zero (a b : List Int) : mixed a b 0 = a := by simp [mixed]
theorem mixed_length (a b : List Int) (k : Nat) (h : b.length = a.length) (hk : k ≤ a.length) : (mixed a b k).length = a.length := by
  simp [mixed, plus_length a b h]; omega
theorem mixed_end (a b : List Int) (k : Nat) (h : b.length = a.length) (hk : ¬ k < a.length) : mixed a b k = plus a b := by
  rw [mixed, List.take_of_length_le (by rw [plus_length a b h]; omega), List.drop_of_length_le (by omega), List.append_nil]
theorem mixed_getD (a b : List Int) (k : Nat) (h : b.length = a.length) (hk : k < a.length) : (mixed a b k).getD k 0 = a.getD k 0 := by
  have h1 : ((plus a b).take k).length = k := by rw [List.length_take, plus_length a b h]; omega
  rw [mixed, List.getD, List.getElem?_append_right (by omega), h1, Nat.sub_self, List.getElem?_drop, Nat.add_zero, List.getD]
theorem mixed_set (a b : List Int) (k : Nat) (h : b.length = a.length) (hk : k < a.length) : (mixed a b k).set k (a.getD k 0 + b.getD k 0) = mixed a b (k + 1) := by
  have h1 : ((plus a b).take k).length = k := by rw [List.length_take, plus_length a b h]; omega
  rw [mixed, mixed, List.set_append_right (h := by omega), h1, Nat.sub_self, plus_take a b k hk h, List.drop_eq_getElem_cons hk, List.set_cons_zero]
  simp

/-- A rule whose rows fit n colours and hold small numbers; an urn with small numbers. -/
def fit (n : Nat) (rule : List (List Int)) : Prop := rule.length = n ∧ ∀ c : Int, 0 ≤ c → c < n → (ruleRow rule c).length = n ∧ ∀ j, -10 ≤ (ruleRow rule c).getD j 0 ∧ (ruleRow rule c).getD j 0 ≤ 10
def within (B : Int) (u : List Int) : Prop := ∀ j, -B ≤ u.getD j 0 ∧ u.getD j 0 ≤ B
theorem within_plus {B : Int} {u r : List Int} (h : within B u) (hl : r.length = u.length) (hr : ∀ j, -10 ≤ r.getD j 0 ∧ r.getD j 0 ≤ 10) : within (B + 10) (plus u r) := by
  intro j
  by_cases hj : j < u.length
  · rw [plus_getD u r j hj hl]
    have := h j; have := hr j; omega
  · have e : (plus u r).getD j 0 = 0 := by rw [List.getD, List.getElem?_eq_none (by rw [plus_length u r hl]; omega)]; rfl
    have := h j; have := hr j
    rw [e]; omega
theorem after_drop (rule : List (List Int)) (cur word : List Int) (k : Nat) (h : k < word.length) : after rule cur (word.drop k) = after rule (plus cur (ruleRow rule word[k])) (word.drop (k + 1)) := by
  rw [List.drop_eq_getElem_cons h]; rfl
theorem after_end (rule : List (List Int)) (cur word : List Int) (k : Nat) (h : ¬ k < word.length) : after rule cur (word.drop k) = cur := by
  rw [List.drop_of_length_le (by omega)]; rfl
theorem among_at {c : Int} {word : List Int} (h : among c word = true) (k : Nat) (hk : k < word.length) : 0 ≤ word[k] ∧ word[k] < c := by
  have := List.all_eq_true.1 h word[k] (List.getElem_mem hk)
  simpa [inC] using this

theorem after_append (rule : List (List Int)) : ∀ (u a b : List Int), after rule u (a ++ b) = after rule (after rule u a) b
  | _, [], _ => rfl
  | u, c :: a, b => after_append rule (plus u (ruleRow rule c)) a b
theorem ways_append (rule : List (List Int)) : ∀ (u a b : List Int), ways rule u (a ++ b) = ways rule u a * ways rule (after rule u a) b
  | u, [], b => by simp [ways, after]
  | u, c :: a, b => by
    show max 0 _ * ways rule _ (a ++ b) = _
    rw [ways_append rule (plus u (ruleRow rule c)) a b, ← Int.mul_assoc]; rfl
theorem ways_nonneg (rule : List (List Int)) : ∀ (u w : List Int), 0 ≤ ways rule u w
  | _, [] => by simp [ways]
  | u, c :: w => Int.mul_nonneg (by omega) (ways_nonneg rule _ w)
theorem ways_take (rule : List (List Int)) (u word : List Int) (k : Nat) (h : k < word.length) : ways rule u (word.take (k + 1)) = ways rule u (word.take k) * max 0 ((after rule u (word.take k)).getD word[k].toNat 0) := by
  rw [take_getD word 0 k h, ways_append]
  simp [ways, List.getD, h]
theorem ways_zero (rule : List (List Int)) (u word : List Int) (k : Nat) (h : ways rule u (word.take k) = 0) : ways rule u word = 0 := by
  have e : ways rule u word = ways rule u (word.take k ++ word.drop k) := by rw [List.take_append_drop]
  rw [e, ways_append, h, Int.zero_mul]
theorem after_within (n : Nat) (rule : List (List Int)) (hf : fit n rule) : ∀ (B : Int) (u w : List Int), u.length = n → within B u → among n w = true → (after rule u w).length = n ∧ within (B + 10 * w.length) (after rule u w)
  | B, u, [], hl, hb, _ => ⟨hl, by simpa [after] using hb⟩
  | B, u, c :: w, hl, hb, hw => by
    have h1 : (inC n c && among n w) = true := hw
    simp only [Bool.and_eq_true] at h1
    have h2 : 0 ≤ c ∧ c < n := by simpa [inC] using h1.1
    obtain ⟨h3, h4⟩ := hf.2 c h2.1 h2.2
    have h5 := after_within n rule hf (B + 10) (plus u (ruleRow rule c)) w (by rw [plus_length _ _ (by omega)]; exact hl) (within_plus hb (by omega) h4) h1.2
    refine ⟨h5.1, ?_⟩
    have e : B + 10 * (((c :: w).length : Nat) : Int) = B + 10 + 10 * (w.length : Int) := by simp; omega
    rw [e]; exact h5.2
theorem among_take {c : Int} {word : List Int} (h : among c word = true) (k : Nat) : among c (word.take k) = true := by
  refine List.all_eq_true.2 fun x hx => List.all_eq_true.1 h x (List.mem_of_mem_take hx)
theorem pow200 (k : Nat) (h : k ≤ 5) : (200 : Int) ^ k ≤ 320000000000 := by
  have h6 : k = 0 ∨ k = 1 ∨ k = 2 ∨ k = 3 ∨ k = 4 ∨ k = 5 := by omega
  rcases h6 with rfl | rfl | rfl | rfl | rfl | rfl <;> decide
theorem mul_fits {n m N M : Int} (h1 : 0 ≤ n) (h2 : n ≤ N) (h3 : 0 ≤ m) (h4 : m ≤ M) : 0 ≤ n * m ∧ n * m ≤ N * M :=
  ⟨Int.mul_nonneg h1 h3, Int.mul_le_mul h2 h4 h3 (by omega)⟩

/-- Equality, as the laws ask it. -/
def sameI (a b : List Int) : Bool := decide (a = b)
def sameP (p q : Pl) : Bool := sameI p.st q.st && (decide (p.step = q.step) && sameI p.word q.word)
def sameD (d e : Dk) : Bool := (sameP d.now e.now && decide (d.past.length = e.past.length)) && (d.past.zip e.past).all fun x => sameP x.1 x.2
theorem sameI_iff {a b : List Int} : sameI a b = true ↔ a = b := by simp [sameI]
theorem sameP_iff {p q : Pl} : sameP p q = true ↔ p = q := by
  simp only [sameP, Bool.and_eq_true, sameI_iff, decide_eq_true_eq]
  exact ⟨fun h => Pl.ext' h.1 h.2.1 h.2.2, fun h => by rw [h]; exact ⟨rfl, rfl, rfl⟩⟩
theorem all_same : ∀ (a b : List Pl), a.length = b.length → ((a.zip b).all (fun x => sameP x.1 x.2) = true ↔ a = b)
  | [], [], _ => by simp
  | [], _ :: _, h => by simp at h
  | _ :: _, [], h => by simp at h
  | p :: a, q :: b, h => by
    have h' : a.length = b.length := by simpa using h
    simp only [List.zip_cons_cons, List.all_cons, Bool.and_eq_true, sameP_iff, all_same a b h', List.cons.injEq]
theorem sameD_iff {d e : Dk} : sameD d e = true ↔ d = e := by
  simp only [sameD, Bool.and_eq_true, sameP_iff, decide_eq_true_eq]
  constructor
  · rintro ⟨⟨h1, h2⟩, h3⟩
    exact Dk.ext' h1 ((all_same _ _ h2).1 h3)
  · rintro rfl
    exact ⟨⟨rfl, rfl⟩, (all_same _ _ rfl).2 rfl⟩

end Go.Proofs.YtpfncjaclgcbnaaDoor.Ub
