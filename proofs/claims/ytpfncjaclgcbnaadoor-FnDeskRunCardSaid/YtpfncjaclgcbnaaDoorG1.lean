/- The plain law of deeds: what a deed makes of a place and of a desk; no program in sight but the texts of places. -/
import Derived.Test.YtpfncjaclgcbnaaDoorF12
set_option linter.unusedVariables false
set_option linter.unusedSimpArgs false
namespace Go.Proofs.YtpfncjaclgcbnaaDoor.Ub

/-- What a deed makes of a place. -/
def madeOf (p : Pl) (a : Dd) : Pl :=
  if a.kind = 0 then (if p.word.length = 0 then ⟨putList p.st a.a a.b, p.step, []⟩ else z0)
  else if a.b = 0 then
    if a.kind = 1 then (if p.word.length = 0 then ⟨p.st, a.a, []⟩ else z0)
    else if a.kind = 2 then ⟨p.st, p.step, p.word ++ [a.a]⟩
    else if a.kind = 3 ∧ a.a = 0 then ⟨p.st, p.step, []⟩ else z0
  else z0
theorem z0_not : placeOk z0 = false := by decide
theorem made_put {p : Pl} {a : Dd} (h : a.kind = 0) (hw : p.word.length = 0) : madeOf p a = ⟨putList p.st a.a a.b, p.step, []⟩ := by simp [madeOf, h, hw]
theorem made_put0 {p : Pl} {a : Dd} (h : a.kind = 0) (hw : 0 < p.word.length) : madeOf p a = z0 := by
  have : p.word ≠ [] := by intro e; simp [e] at hw
  simp [madeOf, h, this]
theorem made_b {p : Pl} {a : Dd} (h : a.kind ≠ 0) (hb : a.b ≠ 0) : madeOf p a = z0 := by simp [madeOf, h, hb]
theorem made_step {p : Pl} {a : Dd} (h : a.kind = 1) (hb : a.b = 0) (hw : p.word.length = 0) : madeOf p a = ⟨p.st, a.a, []⟩ := by simp [madeOf, h, hw, hb]
theorem made_step0 {p : Pl} {a : Dd} (h : a.kind = 1) (hw : 0 < p.word.length) : madeOf p a = z0 := by
  have : p.word ≠ [] := by intro e; simp [e] at hw
  simp [madeOf, h, this]
theorem made_draw {p : Pl} {a : Dd} (h : a.kind = 2) (hb : a.b = 0) : madeOf p a = ⟨p.st, p.step, p.word ++ [a.a]⟩ := by simp [madeOf, h, hb]
theorem made_again {p : Pl} {a : Dd} (h : a.kind = 3) (hb : a.b = 0) (ha : a.a = 0) : madeOf p a = ⟨p.st, p.step, []⟩ := by simp [madeOf, h, hb, ha]
theorem made_none {p : Pl} {a : Dd} (h0 : a.kind ≠ 0) (h1 : a.kind ≠ 1) (h2 : a.kind ≠ 2) (h3 : ¬ (a.kind = 3 ∧ a.a = 0)) : madeOf p a = z0 := by simp [madeOf, h0, h1, h2, h3]

def isBack (a : Dd) : Bool := decide (a.kind = 4) && (decide (a.a = 0) && decide (a.b = 0))
def backOk (d : Dk) (a : Dd) : Bool := isBack a && decide (0 < d.past.length)
/-- May the place p be changed to q? -/
def took (p q : Pl) : Bool := placeOk q && !decide (placeT q = placeT p)
def pushPast (ps : List Pl) (p : Pl) : List Pl := match decide (8 < ps.length + 1) with
  | true => (ps ++ [p]).drop 1
  | false => ps ++ [p]
theorem pushPast_long {ps : List Pl} {p : Pl} (h : 8 < ps.length + 1) : pushPast ps p = (ps ++ [p]).drop 1 := by unfold pushPast; rw [decide_eq_true h]
theorem pushPast_short {ps : List Pl} {p : Pl} (h : ¬ 8 < ps.length + 1) : pushPast ps p = ps ++ [p] := by unfold pushPast; rw [decide_eq_false h]
def doOk (d : Dk) (a : Dd) : Bool := deskOk d && (backOk d a || took d.now (madeOf d.now a))
def doDesk (d : Dk) (a : Dd) : Dk := match deskOk d with
  | false => zd
  | true => match backOk d a with
    | true => ⟨d.past.getD (d.past.length - 1) z0, d.past.take (d.past.length - 1)⟩
    | false => match took d.now (madeOf d.now a) with
      | true => ⟨madeOf d.now a, pushPast d.past d.now⟩
      | false => d
theorem do_none {d : Dk} {a : Dd} (h : deskOk d = false) : doDesk d a = zd ∧ doOk d a = false := by simp [doDesk, doOk, h]
theorem do_back {d : Dk} {a : Dd} (h : deskOk d = true) (hb : backOk d a = true) : doDesk d a = ⟨d.past.getD (d.past.length - 1) z0, d.past.take (d.past.length - 1)⟩ ∧ doOk d a = true := by simp [doDesk, doOk, h, hb]
theorem do_took {d : Dk} {a : Dd} (h : deskOk d = true) (hb : backOk d a = false) (ht : took d.now (madeOf d.now a) = true) : doDesk d a = ⟨madeOf d.now a, pushPast d.past d.now⟩ ∧ doOk d a = true := by simp [doDesk, doOk, h, hb, ht]
theorem do_not {d : Dk} {a : Dd} (h : deskOk d = true) (hb : backOk d a = false) (ht : took d.now (madeOf d.now a) = false) : doDesk d a = d ∧ doOk d a = false := by simp [doDesk, doOk, h, hb, ht]
theorem made_back {p : Pl} {a : Dd} (h : isBack a = true) : madeOf p a = z0 := by
  simp [isBack] at h
  exact made_none (by omega) (by omega) (by omega) (by omega)
theorem took_z0 (p : Pl) : took p z0 = false := by simp [took, z0_not]
theorem put_no {p : Pl} {a b : Int} (h : putFine p.st a b = false) : took p (madeOf p ⟨0, a, b⟩) = false := by
  by_cases hw : p.word.length = 0
  · rw [made_put rfl hw]
    have : placeOk ⟨putList p.st a b, p.step, []⟩ = false := by rw [putList_no h]; simp [placeOk, startOk, urnOk, colOk, inR]
    simp [took, this]
  · rw [made_put0 rfl (by omega)]; exact took_z0 p
theorem back_kind {d : Dk} {a : Dd} (h : a.kind ≠ 4) : backOk d a = false := by simp [backOk, isBack, h]
theorem back_a {d : Dk} {a : Dd} (h : a.a ≠ 0) : backOk d a = false := by simp [backOk, isBack, h]
theorem back_b {d : Dk} {a : Dd} (h : a.b ≠ 0) : backOk d a = false := by simp [backOk, isBack, h]
theorem back_none {d : Dk} {a : Dd} (h : d.past.length = 0) : backOk d a = false := by simp [backOk, h]

theorem desk_parts {d : Dk} (h : deskOk d = true) : placeOk d.now = true ∧ d.past.length ≤ 8 ∧ ∀ j, j < d.past.length → placeOk (d.past.getD j z0) = true := by
  simp only [deskOk, Bool.and_eq_true, decide_eq_true_eq, List.all_eq_true] at h
  refine ⟨h.2.1, by omega, fun j hj => ?_⟩
  have e : d.past.getD j z0 = d.past[j] := by simp [List.getD, hj]
  rw [e]; exact h.1 _ (List.getElem_mem hj)
theorem place_small {p : Pl} (h : placeOk p = true) : p.st.length ≤ 3 ∧ p.word.length ≤ 6 := by
  obtain ⟨_, _, h1, _, _, h2, _⟩ := place_facts h
  exact ⟨h1.2, h2⟩
theorem desk_small {d : Dk} (h : deskOk d = true) : d.now.st.length ≤ 3 ∧ d.now.word.length ≤ 6 ∧ d.past.length ≤ 8 ∧ ∀ j, j < d.past.length → (d.past.getD j z0).st.length ≤ 3 ∧ (d.past.getD j z0).word.length ≤ 6 := by
  obtain ⟨h1, h2, h3⟩ := desk_parts h
  obtain ⟨a, b⟩ := place_small h1
  exact ⟨a, b, h2, fun j hj => place_small (h3 j hj)⟩
/-- What is done is a desk. -/
theorem do_desk {d : Dk} {a : Dd} (h : deskOk d = true) : deskOk (doDesk d a) = true := by
  cases hb : backOk d a with
  | true =>
    rw [(do_back h hb).1]
    obtain ⟨h1, h2, h3⟩ := desk_parts h
    have hp : 0 < d.past.length := by simp [backOk] at hb; exact hb.2
    simp only [deskOk, Bool.and_eq_true, decide_eq_true_eq, List.all_eq_true] at h ⊢
    exact ⟨fun x hx => h.1 x (List.mem_of_mem_take hx), h3 _ (by omega), by rw [List.length_take]; omega⟩
  | false =>
    cases ht : took d.now (madeOf d.now a) with
    | false => rw [(do_not h hb ht).1]; exact h
    | true =>
      rw [(do_took h hb ht).1]
      simp only [took, Bool.and_eq_true] at ht
      simp only [deskOk, Bool.and_eq_true, decide_eq_true_eq, List.all_eq_true] at h ⊢
      have hin : ∀ x ∈ d.past ++ [d.now], placeOk x = true := fun x hx => by
        simp only [List.mem_append, List.mem_singleton] at hx
        rcases hx with hx | rfl
        · exact h.1 x hx
        · exact h.2.1
      by_cases hl : 8 < d.past.length + 1
      · rw [pushPast_long hl]
        exact ⟨fun x hx => hin x (List.mem_of_mem_drop hx), ht.1, by simp; omega⟩
      · rw [pushPast_short hl]
        exact ⟨hin, ht.1, by simp; omega⟩
/-- What was done can be undone. -/
theorem do_undo {d : Dk} {a : Dd} (h : deskOk d = true) (hk : a.kind ≠ 4) (hd : doOk d a = true) (hl : d.past.length < 8) : doDesk (doDesk d a) ⟨4, 0, 0⟩ = d ∧ doOk (doDesk d a) ⟨4, 0, 0⟩ = true := by
  have hb : backOk d a = false := back_kind hk
  have ht : took d.now (madeOf d.now a) = true := by simpa [doOk, h, hb] using hd
  have hx := do_desk (a := a) h
  have e := (do_took h hb ht).1
  rw [pushPast_short (by omega)] at e
  rw [e] at hx ⊢
  have hb2 : backOk ⟨madeOf d.now a, d.past ++ [d.now]⟩ ⟨4, 0, 0⟩ = true := by simp [backOk, isBack]
  obtain ⟨h1, h2⟩ := do_back hx hb2
  refine ⟨?_, h2⟩
  rw [h1]
  exact Dk.ext' (by simp [List.getD]) (by simp)
/-- The ways of a word with one draw more. -/
theorem do_draw {d : Dk} {a : Dd} (h : deskOk d = true) (hk : a.kind = 2) (hd : doOk d a = true) : (doDesk d a).now = ⟨d.now.st, d.now.step, d.now.word ++ [a.a]⟩ ∧ placeOk ⟨d.now.st, d.now.step, d.now.word ++ [a.a]⟩ = true := by
  have hb : backOk d a = false := back_kind (by omega)
  have ht : took d.now (madeOf d.now a) = true := by simpa [doOk, h, hb] using hd
  have hbz : a.b = 0 := Classical.byContradiction fun e => by rw [made_b (by omega) e, took_z0] at ht; cases ht
  rw [(do_took h hb ht).1]
  rw [made_draw hk hbz] at ht ⊢
  simp only [took, Bool.and_eq_true] at ht
  exact ⟨rfl, ht.1⟩
/-- Deeds, one after the other. -/
def runDesk : Dk → List Dd → Dk
  | d, [] => d
  | d, a :: r => match doOk d a with
    | true => runDesk (doDesk d a) r
    | false => runDesk d r
def runMany : Dk → List Dd → Nat
  | _, [] => 0
  | d, a :: r => match doOk d a with
    | true => runMany (doDesk d a) r + 1
    | false => runMany d r
theorem run_append : ∀ (d : Dk) (a b : List Dd), runDesk d (a ++ b) = runDesk (runDesk d a) b ∧ runMany d (a ++ b) = runMany d a + runMany (runDesk d a) b
  | d, [], b => ⟨rfl, by simp [runMany, runDesk]⟩
  | d, x :: a, b => by
    rw [List.cons_append]
    simp only [runDesk, runMany]
    cases doOk d x with
    | true => have := run_append (doDesk d x) a b; exact ⟨this.1, by simp only [this.2]; omega⟩
    | false => exact run_append d a b
theorem run_desk : ∀ (d : Dk) (l : List Dd), deskOk d = true → deskOk (runDesk d l) = true
  | _, [], h => h
  | d, a :: l, h => by
    simp only [runDesk]
    cases doOk d a with
    | true => exact run_desk _ l (do_desk h)
    | false => exact run_desk d l h
theorem runMany_le : ∀ (d : Dk) (l : List Dd), runMany d l ≤ l.length
  | _, [] => Nat.le_refl _
  | d, a :: l => by
    simp only [runMany, List.length_cons]
    cases doOk d a with
    | true => have := runMany_le (doDesk d a) l; simp only; omega
    | false => have := runMany_le d l; simp only; omega
end Go.Proofs.YtpfncjaclgcbnaaDoor.Ub
