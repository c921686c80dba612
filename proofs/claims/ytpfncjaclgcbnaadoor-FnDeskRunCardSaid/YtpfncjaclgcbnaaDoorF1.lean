/- Contracts of the functions that only look at numbers: urns, words, rules. -/
import Derived.Test.YtpfncjaclgcbnaaDoorBase
set_option linter.unusedVariables false
set_option linter.unusedSimpArgs false
namespace Go.Proofs.YtpfncjaclgcbnaaDoor.Ub
open Go.RowKit

theorem s_l1In (a b c : Int) (w : World) : Calls Tryd.prog 76 #[.int .i64 a, .int .i64 b, .int .i64 c] w fun e w' => e = .returned (.bool (inR a b c)) ∧ w = w' := by
  go_enter Tryd.func76, Tryd.ntmps76
  go_wp2
  · go_ret; exact ⟨by simp [inR, *], rfl⟩
  · go_ret; exact ⟨by simp [inR, *]; omega, rfl⟩
theorem i_coloursOk (a : Int) (w : World) : Calls Tryd.prog 46 #[.int .i64 a] w fun e w' => e = .returned (.bool (colOk a)) ∧ w = w' := by
  go_enter Tryd.func46, Tryd.ntmps46
  go_wp2
  · go_ret; exact ⟨by simp [inR, colOk, *], rfl⟩
  · go_ret; exact ⟨by simp [inR, colOk, *]; omega, rfl⟩

theorem s_UrnOk (v : Value) (xs : List Int) (w : World) (h : Ints w v xs) :
    Calls Tryd.prog 92 #[v] w fun e w' => e = .returned (.bool (urnOk xs)) ∧ w = w' := by
  obtain ⟨A, c, rfl, hm, hl, hc⟩ := h.cells
  have HC := Lib.hid hc; clear hc h
  go_enter Tryd.func92, Tryd.ntmps92
  go_wp2
  go_loop [3] (fun i => ∃ k : Nat, k ≤ xs.length ∧ i = .int .i64 k ∧ Hid ((each (xs.drop k) && colOk xs.length) = urnOk xs)) (fun i => xs.length - (intOf i).toNat)
  case atStart => exact ⟨0, by omega, rfl, rfl⟩
  case round =>
    obtain ⟨k, hk, rfl, hr⟩ := hrel
    by_cases hlt : k < xs.length
    · obtain ⟨b, o, rfl, hx⟩ := HC.out k hlt
      have hd := Lib.hid (each_drop xs k hlt)
      go_wp2_with (go_at_call 76; refine (s_l1In _ _ _ _).mono ?_; rintro e w' ⟨rfl, rfl⟩)
      · have h1 : (!inR xs[k] 0 40) = true := by assumption
        go_ret; exact ⟨by rw [← hr.out, hd.out]; simp_all, rfl⟩
      · have h1 : (!inR xs[k] 0 40) = false := by assumption
        exact ⟨⟨k + 1, by omega, by go_num, by rw [← hr.out, hd.out]; simp_all [Hid]⟩, by simp [intOf]; omega⟩
    · have hd := Lib.hid (each_end xs k hlt)
      go_wp2_with (go_at_call 76; refine (s_l1In _ _ _ _).mono ?_; rintro e w' ⟨rfl, rfl⟩)
      go_ret
      exact ⟨by rw [← hr.out, hd.out]; rfl, rfl⟩
theorem i_UrnOk (v : Value) (xs : List Int) (w : World) (h : Ints w v xs) :
    Calls Tryd.prog 45 #[v] w fun e w' => e = .returned (.bool (urnOk xs)) ∧ w = w' := by
  obtain ⟨A, c, rfl, hm, hl, hc⟩ := h.cells
  have HC := Lib.hid hc; clear hc h
  go_enter Tryd.func45, Tryd.ntmps45
  go_wp2
  go_loop [7] (fun i => ∃ k : Nat, k ≤ xs.length ∧ i = .int .i64 k ∧ Hid ((each (xs.drop k) && colOk xs.length) = urnOk xs)) (fun i => xs.length - (intOf i).toNat)
  case atStart => exact ⟨0, by omega, rfl, rfl⟩
  case round =>
    obtain ⟨k, hk, rfl, hr⟩ := hrel
    by_cases hlt : k < xs.length
    · obtain ⟨b, o, rfl, hx⟩ := HC.out k hlt
      have hd := Lib.hid (each_drop xs k hlt)
      by_cases hq : inR xs[k] 0 40 = true
      · have h1 : 0 ≤ xs[k] ∧ xs[k] ≤ 40 := by simpa [inR] using hq
        have HQ := Lib.hid hq; clear hq
        obtain ⟨h2, h3⟩ := h1
        go_wp2
        exact ⟨⟨k + 1, by omega, by go_num, by rw [← hr.out, hd.out, HQ.out]; rfl⟩, by simp [intOf]; omega⟩
      · have h1 : xs[k] < 0 ∨ 40 < xs[k] := by simp [inR] at hq; omega
        have HQ := Lib.hid hq; clear hq
        go_wp2
        all_goals (first | (go_ret; exact ⟨by rw [← hr.out, hd.out, eq_false_of_ne_true HQ.out]; rfl, rfl⟩) | omega)
    · have hd := Lib.hid (each_end xs k hlt)
      go_wp2_with (go_at_call 46; refine (i_coloursOk _ _).mono ?_; rintro e w' ⟨rfl, rfl⟩)
      go_ret
      exact ⟨by rw [← hr.out, hd.out]; rfl, rfl⟩

theorem s_StartOk (v : Value) (xs : List Int) (w : World) (h : Ints w v xs) :
    Calls Tryd.prog 75 #[v] w fun e w' => e = .returned (.bool (startOk xs)) ∧ w = w' := by
  obtain ⟨A, c, rfl, hm, hl, hc⟩ := h.cells
  have HC := Lib.hid hc; clear hc
  go_enter Tryd.func75, Tryd.ntmps75
  go_wp2
  go_loop [3] (fun i => ∃ k : Nat, k ≤ xs.length ∧ i = .int .i64 k ∧ Hid ((low (xs.drop k) && urnOk xs) = startOk xs)) (fun i => xs.length - (intOf i).toNat)
  case atStart => exact ⟨0, by omega, rfl, rfl⟩
  case round =>
    obtain ⟨k, hk, rfl, hr⟩ := hrel
    by_cases hlt : k < xs.length
    · obtain ⟨b, o, rfl, hx⟩ := HC.out k hlt
      have hd := Lib.hid (low_drop xs k hlt)
      by_cases hq : xs[k] ≤ 10
      · go_wp2
        exact ⟨⟨k + 1, by omega, by go_num, by rw [← hr.out, hd.out, decide_eq_true hq]; rfl⟩, by simp [intOf]; omega⟩
      · go_wp2
        go_ret
        exact ⟨by rw [← hr.out, hd.out, decide_eq_false (by omega)]; rfl, rfl⟩
    · have hd := Lib.hid (low_end xs k hlt)
      go_wp2_with (go_at_call 92; refine (s_UrnOk _ _ _ h).mono ?_; rintro e w' ⟨rfl, rfl⟩)
      go_ret
      exact ⟨by rw [← hr.out, hd.out]; rfl, rfl⟩
theorem i_StartOk (v : Value) (xs : List Int) (w : World) (h : Ints w v xs) :
    Calls Tryd.prog 70 #[v] w fun e w' => e = .returned (.bool (startOk xs)) ∧ w = w' := by
  obtain ⟨A, c, rfl, hm, hl, hc⟩ := h.cells
  have HC := Lib.hid hc; clear hc
  go_enter Tryd.func70, Tryd.ntmps70
  go_wp2
  go_loop [7] (fun i => ∃ k : Nat, k ≤ xs.length ∧ i = .int .i64 k ∧ Hid ((low (xs.drop k) && urnOk xs) = startOk xs)) (fun i => xs.length - (intOf i).toNat)
  case atStart => exact ⟨0, by omega, rfl, rfl⟩
  case round =>
    obtain ⟨k, hk, rfl, hr⟩ := hrel
    by_cases hlt : k < xs.length
    · obtain ⟨b, o, rfl, hx⟩ := HC.out k hlt
      have hd := Lib.hid (low_drop xs k hlt)
      by_cases hq : xs[k] ≤ 10
      · go_wp2
        exact ⟨⟨k + 1, by omega, by go_num, by rw [← hr.out, hd.out, decide_eq_true hq]; rfl⟩, by simp [intOf]; omega⟩
      · go_wp2
        go_ret
        exact ⟨by rw [← hr.out, hd.out, decide_eq_false (by omega)]; rfl, rfl⟩
    · have hd := Lib.hid (low_end xs k hlt)
      go_wp2_with (go_at_call 45; refine (i_UrnOk _ _ _ h).mono ?_; rintro e w' ⟨rfl, rfl⟩)
      go_ret
      exact ⟨by rw [← hr.out, hd.out]; rfl, rfl⟩

theorem s_WordOk (n : Int) (v : Value) (xs : List Int) (w : World) (h : Ints w v xs) :
    Calls Tryd.prog 94 #[.int .i64 n, v] w fun e w' => e = .returned (.bool (wordOk n xs)) ∧ w = w' := by
  obtain ⟨A, c, rfl, hm, hl, hc⟩ := h.cells
  have HC := Lib.hid hc; clear hc h
  go_enter Tryd.func94, Tryd.ntmps94
  go_wp2
  go_loop [5] (fun i => ∃ k : Nat, k ≤ xs.length ∧ i = .int .i64 k ∧ Hid ((among n (xs.drop k) && (colOk n && decide ((xs.length : Int) ≤ 6))) = wordOk n xs)) (fun i => xs.length - (intOf i).toNat)
  case atStart => exact ⟨0, by omega, rfl, rfl⟩
  case round =>
    obtain ⟨k, hk, rfl, hr⟩ := hrel
    by_cases hlt : k < xs.length
    · obtain ⟨b, o, rfl, hx⟩ := HC.out k hlt
      have hd := Lib.hid (among_drop n xs k hlt)
      by_cases h1 : 0 ≤ xs[k]
      · by_cases h2 : xs[k] < n
        · go_wp2
          exact ⟨⟨k + 1, by omega, by go_num, by rw [← hr.out, hd.out, (by simp [inC]; omega : inC n xs[k] = true)]; rfl⟩, by simp [intOf]; omega⟩
        · go_wp2
          go_ret
          exact ⟨by rw [← hr.out, hd.out, (by simp [inC]; omega : inC n xs[k] = false)]; rfl, rfl⟩
      · go_wp2
        go_ret
        exact ⟨by rw [← hr.out, hd.out, (by simp [inC]; omega : inC n xs[k] = false)]; rfl, rfl⟩
    · have hd := Lib.hid (among_end n xs k hlt)
      go_wp2_with (go_at_call 76; refine (s_l1In _ _ _ _).mono ?_; rintro e w' ⟨rfl, rfl⟩)
      · have h1 : inR n 1 3 = true := by assumption
        go_ret; exact ⟨by rw [← hr.out, hd.out, show colOk n = true from h1]; rfl, rfl⟩
      · have h1 : ¬ inR n 1 3 = true := by assumption
        go_ret; exact ⟨by rw [← hr.out, hd.out, show colOk n = false from eq_false_of_ne_true h1]; rfl, rfl⟩
theorem i_WordOk (n : Int) (v : Value) (xs : List Int) (w : World) (h : Ints w v xs) :
    Calls Tryd.prog 48 #[.int .i64 n, v] w fun e w' => e = .returned (.bool (wordOk n xs)) ∧ w = w' := by
  obtain ⟨A, c, rfl, hm, hl, hc⟩ := h.cells
  have HC := Lib.hid hc; clear hc h
  go_enter Tryd.func48, Tryd.ntmps48
  go_wp2
  go_loop [9] (fun i => ∃ k : Nat, k ≤ xs.length ∧ i = .int .i64 k ∧ Hid ((among n (xs.drop k) && (colOk n && decide ((xs.length : Int) ≤ 6))) = wordOk n xs)) (fun i => xs.length - (intOf i).toNat)
  case atStart => exact ⟨0, by omega, rfl, rfl⟩
  case round =>
    obtain ⟨k, hk, rfl, hr⟩ := hrel
    by_cases hlt : k < xs.length
    · obtain ⟨b, o, rfl, hx⟩ := HC.out k hlt
      have hd := Lib.hid (among_drop n xs k hlt)
      by_cases h1 : 0 ≤ xs[k]
      · by_cases h2 : xs[k] < n
        · go_wp2
          exact ⟨⟨k + 1, by omega, by go_num, by rw [← hr.out, hd.out, (by simp [inC]; omega : inC n xs[k] = true)]; rfl⟩, by simp [intOf]; omega⟩
        · go_wp2
          go_ret
          exact ⟨by rw [← hr.out, hd.out, (by simp [inC]; omega : inC n xs[k] = false)]; rfl, rfl⟩
      · go_wp2
        go_ret
        exact ⟨by rw [← hr.out, hd.out, (by simp [inC]; omega : inC n xs[k] = false)]; rfl, rfl⟩
    · have hd := Lib.hid (among_end n xs k hlt)
      go_wp2_with (go_at_call 46; refine (i_coloursOk _ _).mono ?_; rintro e w' ⟨rfl, rfl⟩)
      · have h1 : colOk n = true := by assumption
        go_ret; exact ⟨by rw [← hr.out, hd.out, h1]; rfl, rfl⟩
      · have h1 : ¬ colOk n = true := by assumption
        go_ret; exact ⟨by rw [← hr.out, hd.out, eq_false_of_ne_true h1]; rfl, rfl⟩

theorem i_RuleOk (n : Int) (v : Value) (rs : List (List Int)) (w : World) (h : Rows w v rs) :
    Calls Tryd.prog 82 #[.int .i64 n, v] w fun e w' => e = .returned (.bool (ruleOk n rs)) ∧ w = w' := by
  obtain ⟨A, c, rfl, hm, hl, hc⟩ := h.cells
  have HC := Lib.hid hc; clear hc h
  go_enter Tryd.func82, Tryd.ntmps82
  go_wp2
  go_loop [11] (fun i => ∃ k : Nat, k ≤ rs.length ∧ i = .int .i64 k ∧ Hid ((rowsFrom n k (rs.drop k) && (colOk n && decide ((rs.length : Int) = n))) = ruleOk n rs)) (fun i => rs.length - (intOf i).toNat)
  case atStart => exact ⟨0, by omega, rfl, rfl⟩
  case round =>
    obtain ⟨k, hk, rfl, hr⟩ := hrel
    by_cases hlt : k < rs.length
    · obtain ⟨b, o, A1, c1, rfl, hx, hi⟩ := HC.out k hlt
      have hd := Lib.hid (rowsFrom_drop n rs k hlt)
      obtain ⟨A2, c2, e2, hm2, hl2, hc2⟩ := hi.cells
      cases e2
      have HC2 := Lib.hid hc2; clear hc2
      have eg : rs.getD k [] = rs[k] := by simp [List.getD, hlt]
      rw [eg] at hx hi hm2 hl2 HC2
      clear eg
      generalize rs[k] = row at *
      by_cases hn : (row.length : Int) = n
      · have HN := Lib.hid hn
        have hne : ((row.length : Int) != n) = false := by simp [hn]
        clear hn
        go_wp2
        go_loop [22] (fun i => ∃ j : Nat, j ≤ row.length ∧ i = .int .i64 j ∧ Hid (((true && rowFrom k j (row.drop j)) && rowsFrom n (k + 1 : Nat) (rs.drop (k + 1)) && (colOk n && decide ((rs.length : Int) = n))) = ruleOk n rs)) (fun i => row.length - (intOf i).toNat)
        case atStart => exact ⟨0, by omega, rfl, by rw [← hr.out, hd.out, decide_eq_true HN.out]; rfl⟩
        case round =>
          obtain ⟨j, hj, rfl, hr2⟩ := hrel
          by_cases hlt2 : j < row.length
          · obtain ⟨b2, o2, rfl, hx2⟩ := HC2.out j hlt2
            have hd2 := Lib.hid (rowFrom_drop k row j hlt2)
            have ex : row.getD j 0 = row[j] := by simp [List.getD, hlt2]
            rw [ex] at hx2; clear ex
            generalize row[j] = x at *
            by_cases hq : cellOk k j x = true
            · have h1 : x ≤ 3 ∧ -1 ≤ x ∧ (x = -1 → (k : Int) = j) := by simp [cellOk] at hq; omega
              have HQ := Lib.hid hq; clear hq
              obtain ⟨h2, h3, h4⟩ := h1
              by_cases h5 : (k : Int) = j
              · have h6 : ((k : Int) != j) = false := by simp [h5]
                have H5 := Lib.hid h5; clear h4 h5
                go_wp2
                all_goals exact ⟨⟨j + 1, by omega, by go_num, by rw [← hr2.out, hd2.out, HQ.out]; rfl⟩, by simp [intOf]; omega⟩
              · have h6 : (x == -1) = false := by simp; omega
                have H5 := Lib.hid h5; clear h4 h5
                go_wp2
                all_goals exact ⟨⟨j + 1, by omega, by go_num, by rw [← hr2.out, hd2.out, HQ.out]; rfl⟩, by simp [intOf]; omega⟩
            · have h1 : 3 < x ∨ x < -1 ∨ (x = -1 ∧ (k : Int) ≠ j) := by simp [cellOk] at hq; omega
              have HQ := Lib.hid (eq_false_of_ne_true hq); clear hq
              rcases h1 with h1 | h1 | ⟨h1, h2⟩
              · go_wp2
                go_ret
                exact ⟨by rw [← hr2.out, hd2.out, HQ.out]; rfl, rfl⟩
              · go_wp2
                go_ret
                exact ⟨by rw [← hr2.out, hd2.out, HQ.out]; rfl, rfl⟩
              · have h6 : ((k : Int) != j) = true := by simp; omega
                clear h2
                subst h1
                go_wp2
                go_ret
                exact ⟨by rw [← hr2.out, hd2.out, HQ.out]; rfl, rfl⟩
          · have hd2 := Lib.hid (rowFrom_end k j row j hlt2)
            go_wp2
            exact ⟨⟨k + 1, by omega, by go_num, by rw [← hr2.out, hd2.out]; rfl⟩, by simp [intOf]; omega⟩
      · have hne : ((row.length : Int) != n) = true := by simp [hn]
        have HN := Lib.hid hn; clear hn
        go_wp2
        go_ret
        exact ⟨by rw [← hr.out, hd.out, decide_eq_false HN.out]; rfl, rfl⟩
    · have hd := Lib.hid (rowsFrom_end n k rs k hlt)
      go_wp2_with (go_at_call 46; refine (i_coloursOk _ _).mono ?_; rintro e w' ⟨rfl, rfl⟩)
      · have h1 : colOk n = true := by assumption
        go_ret; exact ⟨by rw [← hr.out, hd.out, h1]; rfl, rfl⟩
      · have h1 : ¬ colOk n = true := by assumption
        go_ret; exact ⟨by rw [← hr.out, hd.out, eq_false_of_ne_true h1]; rfl, rfl⟩

theorem s_RuleOk (n : Int) (v : Value) (rs : List (List Int)) (w : World) (h : Rows w v rs) :
    Calls Tryd.prog 93 #[.int .i64 n, v] w fun e w' => e = .returned (.bool (ruleOk n rs)) ∧ w = w' := by
  obtain ⟨A, c, rfl, hm, hl, hc⟩ := h.cells
  have HC := Lib.hid hc; clear hc h
  go_enter Tryd.func93, Tryd.ntmps93
  go_wp2
  go_loop [5] (fun i => ∃ k : Nat, k ≤ rs.length ∧ i = .int .i64 k ∧ Hid ((rowsFrom n k (rs.drop k) && (colOk n && decide ((rs.length : Int) = n))) = ruleOk n rs)) (fun i => rs.length - (intOf i).toNat)
  case atStart => exact ⟨0, by omega, rfl, rfl⟩
  case round =>
    obtain ⟨k, hk, rfl, hr⟩ := hrel
    by_cases hlt : k < rs.length
    · obtain ⟨b, o, A1, c1, rfl, hx, hi⟩ := HC.out k hlt
      have hd := Lib.hid (rowsFrom_drop n rs k hlt)
      obtain ⟨A2, c2, e2, hm2, hl2, hc2⟩ := hi.cells
      cases e2
      have HC2 := Lib.hid hc2; clear hc2
      have eg : rs.getD k [] = rs[k] := by simp [List.getD, hlt]
      rw [eg] at hx hi hm2 hl2 HC2
      clear eg
      generalize rs[k] = row at *
      by_cases hn : (row.length : Int) = n
      · have hne : ((row.length : Int) != n) = false := by simp [hn]
        have hn1 : (row.length : Int) ≤ n := by omega
        have hn2 : n ≤ row.length := by omega
        have HN := Lib.hid hn; clear hn
        go_wp2
        go_loop [6] (fun i => ∃ j : Nat, j ≤ row.length ∧ i = .int .i64 j ∧ Hid (((true && rowFrom k j (row.drop j)) && rowsFrom n (k + 1 : Nat) (rs.drop (k + 1)) && (colOk n && decide ((rs.length : Int) = n))) = ruleOk n rs)) (fun i => row.length - (intOf i).toNat)
        case atStart => exact ⟨0, by omega, rfl, by rw [← hr.out, hd.out, decide_eq_true HN.out]; rfl⟩
        case round =>
          obtain ⟨j, hj, rfl, hr2⟩ := hrel
          by_cases hlt2 : j < row.length
          · obtain ⟨b2, o2, rfl, hx2⟩ := HC2.out j hlt2
            have hd2 := Lib.hid (rowFrom_drop k row j hlt2)
            have ex : row.getD j 0 = row[j] := by simp [List.getD, hlt2]
            rw [ex] at hx2; clear ex
            generalize row[j] = x at *
            by_cases h5 : inR x 0 3 = true
            · have h5' := Lib.hid h5
              have h6 : (!inR x 0 3) = false := by rw [h5]; rfl
              clear h5
              go_wp2_with (go_at_call 76; refine (s_l1In _ _ _ _).mono ?_; rintro e w' ⟨rfl, rfl⟩)
              have HQ : cellOk k j x = true := by have h := h5'.out; simp [inR] at h; simp [cellOk]; omega
              exact ⟨⟨j + 1, by omega, by go_num, by rw [← hr2.out, hd2.out, HQ]; rfl⟩, by simp [intOf]; omega⟩
            · have h5' := Lib.hid h5
              have h6 : (!inR x 0 3) = true := by rw [eq_false_of_ne_true h5]; rfl
              clear h5
              by_cases h7 : x = -1
              · subst h7
                by_cases h8 : (j : Int) = k
                · have h9 : ((j : Int) == k) = true := by simp [h8]
                  have H8 := Lib.hid h8; clear h8
                  go_wp2_with (go_at_call 76; refine (s_l1In _ _ _ _).mono ?_; rintro e w' ⟨rfl, rfl⟩)
                  have HQ : cellOk k j (-1) = true := by simp [cellOk]; have := H8.out; omega
                  exact ⟨⟨j + 1, by omega, by go_num, by rw [← hr2.out, hd2.out, HQ]; rfl⟩, by simp [intOf]; omega⟩
                · have h9 : ((j : Int) == k) = false := by simp [h8]
                  have H8 := Lib.hid h8; clear h8
                  go_wp2_with (go_at_call 76; refine (s_l1In _ _ _ _).mono ?_; rintro e w' ⟨rfl, rfl⟩)
                  have HQ : cellOk k j (-1) = false := by simp [cellOk]; have := H8.out; omega
                  go_ret
                  exact ⟨by rw [← hr2.out, hd2.out, HQ]; rfl, rfl⟩
              · have h9 : (x == -1) = false := by simp [h7]
                have H7 := Lib.hid h7; clear h7
                go_wp2_with (go_at_call 76; refine (s_l1In _ _ _ _).mono ?_; rintro e w' ⟨rfl, rfl⟩)
                have HQ : cellOk k j x = false := by have h := h5'.out; have := H7.out; simp [inR] at h; simp [cellOk]; omega
                go_ret
                exact ⟨by rw [← hr2.out, hd2.out, HQ]; rfl, rfl⟩
          · have hd2 := Lib.hid (rowFrom_end k j row j hlt2)
            go_wp2
            exact ⟨⟨k + 1, by omega, by go_num, by rw [← hr2.out, hd2.out]; rfl⟩, by simp [intOf]; omega⟩
      · have hne : ((row.length : Int) != n) = true := by simp [hn]
        have HN := Lib.hid hn; clear hn
        go_wp2
        go_ret
        exact ⟨by rw [← hr.out, hd.out, decide_eq_false HN.out]; rfl, rfl⟩
    · have hd := Lib.hid (rowsFrom_end n k rs k hlt)
      go_wp2_with (go_at_call 76; refine (s_l1In _ _ _ _).mono ?_; rintro e w' ⟨rfl, rfl⟩)
      · have h1 : inR n 1 3 = true := by assumption
        go_ret; exact ⟨by rw [← hr.out, hd.out, show colOk n = true from h1]; rfl, rfl⟩
      · have h1 : ¬ inR n 1 3 = true := by assumption
        go_ret; exact ⟨by rw [← hr.out, hd.out, show colOk n = false from eq_false_of_ne_true h1]; rfl, rfl⟩

theorem i_ruleAsked (v0 v1 : Value) (u : List Int) (rs : List (List Int)) (w : World) (h0 : Ints w v0 u) (h1 : Rows w v1 rs) :
    Calls Tryd.prog 47 #[v0, v1] w fun e w' => e = .returned (.bool (startOk u && ruleOk u.length rs)) ∧ w = w' := by
  obtain ⟨A, c, rfl⟩ := h0.form
  go_enter Tryd.func47, Tryd.ntmps47
  go_wp2_with (first
    | (go_at_call 70; refine (i_StartOk _ _ _ h0).mono ?_; rintro e w' ⟨rfl, rfl⟩)
    | (go_at_call 82; refine (i_RuleOk _ _ _ _ h1).mono ?_; rintro e w' ⟨rfl, rfl⟩))
  · have h2 : startOk u = true := by assumption
    go_ret; exact ⟨by rw [h2]; rfl, rfl⟩
  · have h2 : ¬ startOk u = true := by assumption
    go_ret; exact ⟨by rw [eq_false_of_ne_true h2]; rfl, rfl⟩

end Go.Proofs.YtpfncjaclgcbnaaDoor.Ub
