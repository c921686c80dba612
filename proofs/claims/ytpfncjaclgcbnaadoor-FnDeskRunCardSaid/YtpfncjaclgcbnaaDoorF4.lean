/- Contracts of words that are drawn, and of places and desks that are valid. -/
import Derived.Test.YtpfncjaclgcbnaaDoorF3
import Derived.Test.YtpfncjaclgcbnaaDoorM2
set_option linter.unusedVariables false
set_option linter.unusedSimpArgs false
namespace Go.Proofs.YtpfncjaclgcbnaaDoor.Ub
open Go.RowKit

set_option maxHeartbeats 1000000 in
set_option maxRecDepth 100000 in
theorem s_AfterWord (v0 v1 v2 : Value) (u : List Int) (rule : List (List Int)) (word : List Int) (w : World) (h0 : Ints w v0 u) (h1 : Rows w v1 rule) (h2 : Ints w v2 word) :
    Calls Tryd.prog 77 #[v0, v1, v2] w fun e w' => ∃ v, e = .returned (.tuple #[v, .bool (drawOk u rule word)]) ∧ (drawOk u rule word = true → OwnI w' w.heap.size v (after rule u word)) ∧ Below w.heap.size w w' := by
  obtain ⟨A0, c0, rfl⟩ := h0.form
  obtain ⟨A2, c2, rfl, hm2, hl2, hc2⟩ := h2.cells
  have HC2 := Lib.hid hc2; clear hc2
  by_cases hs : startOk u = true
  · by_cases hr : ruleOk u.length rule = true
    · by_cases hw : wordOk u.length word = true
      · have hs' : (!startOk u) = false := by simp [hs]
        have hr' : (!ruleOk u.length rule) = false := by simp [hr]
        have hw' : (!wordOk u.length word) = false := by simp [hw]
        obtain ⟨hb, _, hu1, hu3⟩ := start_within hs
        have HF := Lib.hid (fit_of_ruleOk hr)
        obtain ⟨ha, hl6⟩ := word_among hw
        have HA := Lib.hid ha; have HBD := Lib.hid hb
        have HE : Hid (drawOk u rule word = canDraw rule u word) := by show _ = _; simp [drawOk, hs, hr, hw]
        clear ha hb hs hr hw
        go_enter Tryd.func77, Tryd.ntmps77
        go_wp2_with (first
          | (go_at_call 75; refine (s_StartOk _ _ _ h0).mono ?_; rintro e w' ⟨rfl, rfl⟩)
          | (go_at_call 93; refine (s_RuleOk _ _ _ _ h1).mono ?_; rintro e w' ⟨rfl, rfl⟩)
          | (go_at_call 94; refine (s_WordOk _ _ _ _ h2).mono ?_; rintro e w' ⟨rfl, rfl⟩)
          | (at_builtin; refine stop ?_))
        refine go_on ?_
        refine app_all rfl _ _ rfl w.heap.size (.slice (some ⟨w.heap.size, 0, none⟩) 0 0) [] rfl (World.ownsRow_made w #[] 0 (Nat.le_refl _) (by decide) rfl) _ u rfl h0.at (by simp; omega) (by simp) ?_
        intro v' w1 hO hg hat
        have HO := Lib.hid hO; have HG := Lib.hid hg; clear hO hg hat
        have hB1 : Bel w w1 := ⟨Below.app (w := w) (Bel.out) (World.ownsRow_made w #[] 0 (Nat.le_refl _) (by decide) rfl : World.ownsRow _ w.heap.size 3 1 _ 0 []) HG.out (by simp)⟩
        go_wp2
        go_loopw [8, 9] (fun v i wr => ∃ k : Nat, k ≤ word.length ∧ i = .int .i64 k ∧ ∃ cur, Hid (OwnI wr w.heap.size v cur ∧ cur.length = u.length ∧ within (100 + 10 * k) cur ∧ after rule cur (word.drop k) = after rule u word ∧ canDraw rule cur (word.drop k) = canDraw rule u word) ∧ Hid (Below w.heap.size w wr)) (fun _ i _ => word.length - (intOf i).toNat)
        case atStart => exact ⟨0, by omega, rfl, u, ⟨by simpa using HO.out, rfl, by simpa using HBD.out, rfl, rfl⟩, Bel.out⟩
        case round =>
          obtain ⟨k, hk, rfl, cur, hR, hB⟩ := hrel
          haveI : Bel w wr := ⟨hB.out⟩
          by_cases hlt : k < word.length
          · obtain ⟨b2, o2, rfl, hx⟩ := HC2.out k hlt
            have hq := among_at HA.out k hlt
            have eg : word.getD k 0 = word[k] := by simp [List.getD, hlt]
            rw [eg] at hx
            have HD := Lib.hid (after_drop rule cur word k hlt)
            have HCD := Lib.hid (canDraw_drop rule cur word k hlt)
            generalize word[k] = c at hx hq HD HCD
            obtain ⟨q1, q2⟩ := hq
            obtain ⟨ci, rfl⟩ := Int.eq_ofNat_of_zero_le q1
            rw [Int.toNat_natCast] at HCD
            replace hx := cell_at hx (W := wr)
            have hk0 : (0 : Int) ≤ k := by omega
            have hk1 : (k : Int) < word.length := by omega
            have hrr := HF.out.2 ci q1 q2
            obtain ⟨g, cap, e, hg1, hg2⟩ := World.ownsRow.form hR.out.1 (by rw [hR.out.2.1]; omega)
            rw [hR.out.2.1] at e
            subst e
            have hy := OwnI.cell hR.out.1 ci (by rw [hR.out.2.1]; omega)
            have hcr : (ci : Int) < rule.length := by rw [HF.out.1]; omega
            have HRR := Lib.hid hrr
            clear eg hrr
            by_cases hz : 1 ≤ cur.getD ci 0
            · have hd1 : decide (1 ≤ cur.getD ci 0) = true := decide_eq_true hz
              have HD1 := Lib.hid hd1; clear hd1
              generalize hX : cur.getD ci 0 = x at hy hz
              clear hX
              go_wp2_with fail
              refine (s_l4After _ _ cur rule ci _ hR.out.1.ints h1.at (by rw [hR.out.2.1]; exact hu3) q1 hcr (by rw [hR.out.2.1]; exact HRR.out.1) (fun j _ => by have h3 := hR.out.2.2.1 j; have h4 := HRR.out.2 j; omega)).mono ?_
              rintro e w2 ⟨v2, rfl, hO2, hb2⟩
              haveI := Bel.step (w := w) hb2
              have HO2 := Lib.hid hO2; have HB2 := Lib.hid hb2; clear hO2 hb2
              go_wp2
              refine ⟨⟨k + 1, by omega, by go_num, plus cur (ruleRow rule ci), ⟨HO2.out.mono hB.out.size, ?_, ?_, ?_, ?_⟩, (Bel.out : Below w.heap.size w _)⟩, by simp [intOf]; omega⟩
              · rw [plus_length _ _ (by rw [hR.out.2.1]; exact HRR.out.1)]; exact hR.out.2.1
              · have := within_plus hR.out.2.2.1 (by rw [hR.out.2.1]; exact HRR.out.1) HRR.out.2
                have e : (100 + 10 * ((k + 1 : Nat) : Int)) = 100 + 10 * (k : Int) + 10 := by omega
                rw [e]; exact this
              · rw [← HD.out]; exact hR.out.2.2.2.1
              · have h := hR.out.2.2.2.2
                rw [HCD.out, HD1.out] at h
                exact h
            · have hd1 : decide (1 ≤ cur.getD ci 0) = false := decide_eq_false hz
              have HD1 := Lib.hid hd1; clear hd1
              generalize hX : cur.getD ci 0 = x at hy hz
              clear hX
              have hno : drawOk u rule word = false := by rw [HE.out, ← hR.out.2.2.2.2, HCD.out, HD1.out]; rfl
              have HNO := Lib.hid hno; clear hno
              go_wp2
              go_ret2
              exact ⟨_, by rw [HNO.out]; rfl, fun h => (by rw [HNO.out] at h; cases h), (Bel.out : Below w.heap.size w _)⟩
          · have e := hR.out.2.2.2.1
            rw [after_end _ _ _ _ hlt] at e
            have e2 := hR.out.2.2.2.2
            rw [canDraw_end _ _ _ _ hlt] at e2
            have HE1 := Lib.hid e; have HE2 := Lib.hid e2; clear e e2
            go_wp2
            go_ret2
            exact ⟨_, by rw [HE.out, ← HE2.out]; rfl, fun _ => by rw [← HE1.out]; exact hR.out.1, hB.out⟩
      · have hno : drawOk u rule word = false := by simp [drawOk, hw]
        have hs' : (!startOk u) = false := by simp [hs]
        have hr' : (!ruleOk u.length rule) = false := by simp [hr]
        have hw' : (!wordOk u.length word) = true := by simp [hw]
        have HNO := Lib.hid hno; clear hno hs hr hw
        go_enter Tryd.func77, Tryd.ntmps77
        go_wp2_with (first
          | (go_at_call 75; refine (s_StartOk _ _ _ h0).mono ?_; rintro e w' ⟨rfl, rfl⟩)
          | (go_at_call 93; refine (s_RuleOk _ _ _ _ h1).mono ?_; rintro e w' ⟨rfl, rfl⟩)
          | (go_at_call 94; refine (s_WordOk _ _ _ _ h2).mono ?_; rintro e w' ⟨rfl, rfl⟩))
        go_ret2
        exact ⟨_, by rw [HNO.out]; rfl, fun h => (by rw [HNO.out] at h; cases h), (Bel.out : Below w.heap.size w _)⟩
    · have hno : drawOk u rule word = false := by simp [drawOk, hr]
      have hs' : (!startOk u) = false := by simp [hs]
      have hr' : (!ruleOk u.length rule) = true := by simp [hr]
      have HNO := Lib.hid hno; clear hno hs hr
      go_enter Tryd.func77, Tryd.ntmps77
      go_wp2_with (first
        | (go_at_call 75; refine (s_StartOk _ _ _ h0).mono ?_; rintro e w' ⟨rfl, rfl⟩)
        | (go_at_call 93; refine (s_RuleOk _ _ _ _ h1).mono ?_; rintro e w' ⟨rfl, rfl⟩))
      go_ret2
      exact ⟨_, by rw [HNO.out]; rfl, fun h => (by rw [HNO.out] at h; cases h), (Bel.out : Below w.heap.size w _)⟩
  · have hno : drawOk u rule word = false := by simp [drawOk, hs]
    have hs' : (!startOk u) = true := by simp [hs]
    have HNO := Lib.hid hno; clear hno hs
    go_enter Tryd.func77, Tryd.ntmps77
    go_wp2_with (go_at_call 75; refine (s_StartOk _ _ _ h0).mono ?_; rintro e w' ⟨rfl, rfl⟩)
    go_ret2
    exact ⟨_, by rw [HNO.out]; rfl, fun h => (by rw [HNO.out] at h; cases h), (Bel.out : Below w.heap.size w _)⟩

theorem i_AfterWord (v0 v1 v2 : Value) (u : List Int) (rule : List (List Int)) (word : List Int) (w : World) (h0 : Ints w v0 u) (h1 : Rows w v1 rule) (h2 : Ints w v2 word) :
    Calls Tryd.prog 14 #[v0, v1, v2] w fun e w' => ∃ v, e = .returned (.tuple #[v, .bool (drawOk u rule word)]) ∧ (drawOk u rule word = true → OwnI w' w.heap.size v (after rule u word) ∧ (after rule u word).length = u.length) ∧ Below w.heap.size w w' := by
  obtain ⟨A0, c0, rfl⟩ := h0.form
  by_cases hq : (startOk u && ruleOk u.length rule) = true
  · by_cases hw : wordOk u.length word = true
    · have hq' : (!(startOk u && ruleOk u.length rule)) = false := by rw [hq]; rfl
      have hw' : (!wordOk u.length word) = false := by rw [hw]; rfl
      obtain ⟨hs, hr⟩ := (Bool.and_eq_true _ _).mp hq
      obtain ⟨hb, _, hu1, hu3⟩ := start_within hs
      have hf := fit_of_ruleOk hr
      obtain ⟨ha, hl6⟩ := word_among hw
      have hE : drawOk u rule word = decide (0 < ways rule u word) := by simp [drawOk, hs, hr, hw, draw_ways]
      have hnn := ways_nonneg rule u word
      have HE := Lib.hid hE; have HF := Lib.hid hf; have HA := Lib.hid ha; have HBD := Lib.hid hb
      clear hE hf ha hb hq hs hr hw
      by_cases hz : ways rule u word = 0
      · have hz' : (ways rule u word == 0) = true := by simp [hz]
        have hno : drawOk u rule word = false := by rw [HE.out, hz]; rfl
        have HNO := Lib.hid hno; clear hno hz hnn
        go_enter Tryd.func14, Tryd.ntmps14
        go_wp2_with (first
          | (go_at_call 47; refine (i_ruleAsked _ _ _ _ _ h0 h1).mono ?_; rintro e w' ⟨rfl, rfl⟩)
          | (go_at_call 48; refine (i_WordOk _ _ _ _ h2).mono ?_; rintro e w' ⟨rfl, rfl⟩)
          | (go_at_call 49; refine (i_ruleWays _ _ _ u rule word _ h0 h1 h2 hu3 HF.out HA.out hl6 HBD.out).mono ?_; rintro e w1 ⟨rfl, hb1⟩))
        haveI := Bel.step (w := w) hb1
        go_ret2
        exact ⟨_, by rw [HNO.out]; rfl, fun h => (by rw [HNO.out] at h; cases h), (Bel.out : Below w.heap.size w _)⟩
      · have hz' : (ways rule u word == 0) = false := by simp [hz]
        have hyes : drawOk u rule word = true := by rw [HE.out]; simp; omega
        have HY := Lib.hid hyes; clear hyes hz hnn
        go_enter Tryd.func14, Tryd.ntmps14
        go_wp2_with (first
          | (go_at_call 47; refine (i_ruleAsked _ _ _ _ _ h0 h1).mono ?_; rintro e w' ⟨rfl, rfl⟩)
          | (go_at_call 48; refine (i_WordOk _ _ _ _ h2).mono ?_; rintro e w' ⟨rfl, rfl⟩)
          | (go_at_call 49; refine (i_ruleWays _ _ _ u rule word _ h0 h1 h2 hu3 HF.out HA.out hl6 HBD.out).mono ?_; rintro e w1 ⟨rfl, hb1⟩; haveI := Bel.step (w := w) hb1)
          | (go_at_call 50; refine (i_after _ _ _ u rule word _ h0.at h1.at h2.at hu3 HF.out HA.out hl6 HBD.out).mono ?_; rintro e w2 ⟨v2, rfl, hO2, hlen, hb2⟩; haveI := Bel.step (w := w) hb2))
        go_ret2
        exact ⟨_, by rw [HY.out]; rfl, fun _ => ⟨hO2.mono hb1.size, hlen⟩, (Bel.out : Below w.heap.size w _)⟩
    · have hq' : (!(startOk u && ruleOk u.length rule)) = false := by rw [hq]; rfl
      have hw' : (!wordOk u.length word) = true := by simp [hw]
      have hno : drawOk u rule word = false := by simp [drawOk, hw]
      have HNO := Lib.hid hno; clear hno hq hw
      go_enter Tryd.func14, Tryd.ntmps14
      go_wp2_with (first
        | (go_at_call 47; refine (i_ruleAsked _ _ _ _ _ h0 h1).mono ?_; rintro e w' ⟨rfl, rfl⟩)
        | (go_at_call 48; refine (i_WordOk _ _ _ _ h2).mono ?_; rintro e w' ⟨rfl, rfl⟩))
      go_ret2
      exact ⟨_, by rw [HNO.out]; rfl, fun h => (by rw [HNO.out] at h; cases h), (Bel.out : Below w.heap.size w _)⟩
  · have hq' : (!(startOk u && ruleOk u.length rule)) = true := by rw [eq_false_of_ne_true hq]; rfl
    have hno : drawOk u rule word = false := by rw [drawOk, ← Bool.and_assoc, eq_false_of_ne_true hq]; rfl
    have HNO := Lib.hid hno; clear hno hq
    go_enter Tryd.func14, Tryd.ntmps14
    go_wp2_with (go_at_call 47; refine (i_ruleAsked _ _ _ _ _ h0 h1).mono ?_; rintro e w' ⟨rfl, rfl⟩)
    go_ret2
    exact ⟨_, by rw [HNO.out]; rfl, fun h => (by rw [HNO.out] at h; cases h), (Bel.out : Below w.heap.size w _)⟩

theorem i_RuleWays (v0 v1 v2 : Value) (u : List Int) (rule : List (List Int)) (word : List Int) (w : World) (h0 : Ints w v0 u) (h1 : Rows w v1 rule) (h2 : Ints w v2 word) :
    Calls Tryd.prog 15 #[v0, v1, v2] w fun e w' => e = .returned (.int .i64 (waysVal u rule word)) ∧ Below w.heap.size w w' := by
  obtain ⟨A0, c0, rfl⟩ := h0.form
  by_cases hq : (startOk u && ruleOk u.length rule) = true
  · by_cases hw : wordOk u.length word = true
    · have hq' : (!(startOk u && ruleOk u.length rule)) = false := by rw [hq]; rfl
      have hw' : (!wordOk u.length word) = false := by rw [hw]; rfl
      obtain ⟨hs, hr⟩ := (Bool.and_eq_true _ _).mp hq
      obtain ⟨hb, _, hu1, hu3⟩ := start_within hs
      have HF := Lib.hid (fit_of_ruleOk hr)
      obtain ⟨ha, hl6⟩ := word_among hw
      have HA := Lib.hid ha; have HBD := Lib.hid hb
      rw [waysVal_yes (by rw [waysAsked, hq, hw]; rfl)]
      clear ha hb hq hs hr hw
      go_enter Tryd.func15, Tryd.ntmps15
      go_wp2_with (first
        | (go_at_call 47; refine (i_ruleAsked _ _ _ _ _ h0 h1).mono ?_; rintro e w' ⟨rfl, rfl⟩)
        | (go_at_call 48; refine (i_WordOk _ _ _ _ h2).mono ?_; rintro e w' ⟨rfl, rfl⟩)
        | (go_at_call 49; refine (i_ruleWays _ _ _ u rule word _ h0 h1 h2 hu3 HF.out HA.out hl6 HBD.out).mono ?_; rintro e w1 ⟨rfl, hb1⟩))
      go_ret
      exact ⟨rfl, hb1⟩
    · have hq' : (!(startOk u && ruleOk u.length rule)) = false := by rw [hq]; rfl
      have hw' : (!wordOk u.length word) = true := by simp [hw]
      rw [waysVal_no (by rw [waysAsked, hq, eq_false_of_ne_true hw]; rfl)]
      clear hq hw
      go_enter Tryd.func15, Tryd.ntmps15
      go_wp2_with (first
        | (go_at_call 47; refine (i_ruleAsked _ _ _ _ _ h0 h1).mono ?_; rintro e w' ⟨rfl, rfl⟩)
        | (go_at_call 48; refine (i_WordOk _ _ _ _ h2).mono ?_; rintro e w' ⟨rfl, rfl⟩))
      go_ret
      exact ⟨rfl, Below.refl _ _⟩
  · have hq' : (!(startOk u && ruleOk u.length rule)) = true := by rw [eq_false_of_ne_true hq]; rfl
    rw [waysVal_no (by rw [waysAsked, eq_false_of_ne_true hq]; rfl)]
    clear hq
    go_enter Tryd.func15, Tryd.ntmps15
    go_wp2_with (go_at_call 47; refine (i_ruleAsked _ _ _ _ _ h0 h1).mono ?_; rintro e w' ⟨rfl, rfl⟩)
    go_ret
    exact ⟨rfl, Below.refl _ _⟩
end Go.Proofs.YtpfncjaclgcbnaaDoor.Ub
