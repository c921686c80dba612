/- The law of deeds: whatever is drawn, it answers true. -/
import Derived.Test.YtpfncjaclgcbnaaDoorD8
import Derived.Test.YtpfncjaclgcbnaaDoorF21
import Derived.Test.YtpfncjaclgcbnaaDoorF4
import Derived.Test.YtpfncjaclgcbnaaDoorF2
set_option linter.unusedVariables false
set_option linter.unusedSimpArgs false
namespace Go.Proofs.YtpfncjaclgcbnaaDoor.Ub
open Go.RowKit Go.Proofs.YtpfncjaclgcbnaaDoorW

theorem same_is {d e : Dk} {b : Bool} (h : sameD d e = b) (v0 v1 : Value) (w : World) (h0 : DkI w v0 d) (h1 : DkI w v1 e) :
    Calls Tryd.prog 10 #[v0, v1] w fun x w' => x = .returned (.bool b) ∧ Below w.heap.size w w' := by
  have := l_sameDesk v0 v1 d e w h0 h1
  rw [h] at this; exact this
theorem iDo_is {d : Dk} {a : Dd} {b : Bool} (h : doOk d a = b) (v : Value) (w : World) (h0 : DkI w v d) (he : Env w) :
    Calls Tryd.prog 8 #[v, ddV a] w fun e w' => ∃ v', e = .returned (.tuple #[v', .bool b]) ∧ (∃ f, DkW w' w.heap.size w'.heap.size f v' (doDesk d a)) ∧ Below w.heap.size w w' := by
  have := i_DeskDo v d a w h0 he
  rw [h] at this; exact this
theorem sDo_is {d : Dk} {a : Dd} {b : Bool} (h : doOk d a = b) (v : Value) (w : World) (h0 : DkI w v d) :
    Calls Tryd.prog 9 #[v, ddV a] w fun e w' => ∃ v', e = .returned (.tuple #[v', .bool b]) ∧ DkP w' w.heap.size v' (doDesk d a) d.past.length ∧ Below w.heap.size w w' := by
  have := s_DeskDo v d a w h0
  rw [h] at this; exact this
theorem okD_is {d : Dk} {b : Bool} (h : deskOk d = b) (v : Value) (w : World) (h0 : DkI w v d) :
    Calls Tryd.prog 11 #[v] w fun e w' => e = .returned (.bool b) ∧ Below w.heap.size w w' := by
  have := i_DeskOk v d w h0
  rw [h] at this; exact this
theorem dk_form {w : World} {v : Value} {d : Dk} (h : DkI w v d) : ∃ X0 x0 X2 x2 X3 x3, v = .agg #[.slice X0 d.now.st.length x0, .int .i64 d.now.step, .slice X2 d.now.word.length x2, .slice X3 d.past.length x3] := by
  obtain ⟨A0, c0, A2, c2, A3, c3, e, _⟩ := h.open
  exact ⟨_, _, _, _, _, _, e⟩

theorem ways_bound (n : Nat) (rule : List (List Int)) (hf : fit n rule) : ∀ (B : Int) (u w : List Int), u.length = n → within B u → among n w = true → B + 10 * w.length ≤ 200 → ways rule u w ≤ 200 ^ w.length
  | B, u, [], _, _, _, _ => by simp [ways]
  | B, u, c :: w, hl, hb, hw, hB => by
    have h1 : (inC n c && among n w) = true := hw
    simp only [Bool.and_eq_true] at h1
    have h2 : 0 ≤ c ∧ c < n := by simpa [inC] using h1.1
    obtain ⟨h3, h4⟩ := hf.2 c h2.1 h2.2
    have hlen : (((c :: w).length : Nat) : Int) = (w.length : Int) + 1 := by simp
    have ih := ways_bound n rule hf (B + 10) (plus u (ruleRow rule c)) w (by rw [plus_length _ _ (by omega)]; exact hl) (within_plus hb (by omega) h4) h1.2 (by omega)
    have h5 := (hb c.toNat).2
    have h6 := ways_nonneg rule (plus u (ruleRow rule c)) w
    have h7 := (mul_fits (n := max 0 (u.getD c.toNat 0)) (N := 200) (by omega) (by omega) h6 ih).2
    have h8 : (200 : Int) ^ (c :: w).length = 200 * 200 ^ w.length := by rw [List.length_cons, Int.pow_succ, Int.mul_comm]
    rw [h8]; exact h7
/-- A draw more: the ways of before, times the balls of the colour. -/
theorem draw_more {d : Dk} {aa bb : Int} (h : deskOk d = true) (hd : doOk d ⟨2, aa, bb⟩ = true) :
    drawOk d.now.st (sameRule d.now.st.length d.now.step) d.now.word = true ∧ 0 ≤ aa ∧ aa < d.now.st.length ∧ sameRuleAll d.now.st.length d.now.step = sameRule d.now.st.length d.now.step ∧
    ∃ x : Int, (after (sameRule d.now.st.length d.now.step) d.now.st d.now.word).getD aa.toNat 0 = x ∧
      waysVal (doDesk d ⟨2, aa, bb⟩).now.st (sameRule d.now.st.length d.now.step) (doDesk d ⟨2, aa, bb⟩).now.word = waysVal d.now.st (sameRule d.now.st.length d.now.step) d.now.word * x ∧
      -9223372036854775808 ≤ waysVal d.now.st (sameRule d.now.st.length d.now.step) d.now.word * x ∧ waysVal d.now.st (sameRule d.now.st.length d.now.step) d.now.word * x ≤ 9223372036854775807 := by
  obtain ⟨h1, h2⟩ := do_draw h rfl hd
  have hp := (desk_parts h).1
  have p1 := hp
  simp only [placeOk, Bool.and_eq_true] at p1 h2
  obtain ⟨s1, s2, s3, s4⟩ := p1
  obtain ⟨_, _, t3, t4⟩ := h2
  obtain ⟨_, hw, l1, l3⟩ := start_within s1
  have hall := sameRuleAll_eq l1 l3 s2
  have hro := sameRule_ok l1 l3 s2
  have hfit := fit_of_ruleOk hro
  have haa : 0 ≤ aa ∧ aa < d.now.st.length := by
    simp only [wordOk, Bool.and_eq_true, among, List.all_eq_true] at t3
    have := t3.1 aa (by simp)
    simpa [inC] using this
  have e1 : waysVal d.now.st (sameRule d.now.st.length d.now.step) d.now.word = ways (sameRule d.now.st.length d.now.step) d.now.st d.now.word := waysVal_yes (by simp [waysAsked, s1, s3, hro])
  have e2 : waysVal d.now.st (sameRule d.now.st.length d.now.step) (d.now.word ++ [aa]) = ways (sameRule d.now.st.length d.now.step) d.now.st (d.now.word ++ [aa]) := waysVal_yes (by simp [waysAsked, s1, t3, hro])
  have e3 := ways_append (sameRule d.now.st.length d.now.step) d.now.st d.now.word [aa]
  have e4 : ways (sameRule d.now.st.length d.now.step) (after (sameRule d.now.st.length d.now.step) d.now.st d.now.word) [aa] = max 0 ((after (sameRule d.now.st.length d.now.step) d.now.st d.now.word).getD aa.toNat 0) := by simp [ways]
  have hpos : 0 < ways (sameRule d.now.st.length d.now.step) d.now.st (d.now.word ++ [aa]) := by
    rw [draw_ways] at t4; simpa using t4
  have hwa := word_among t3
  have hbd := ways_bound _ _ hfit 10 d.now.st (d.now.word ++ [aa]) rfl hw hwa.1 (by have := hwa.2; omega)
  have hpw : (200 : Int) ^ (d.now.word ++ [aa]).length ≤ 64000000000000 := by
    have h6 := hwa.2
    have h7 : (d.now.word ++ [aa]).length = 0 ∨ (d.now.word ++ [aa]).length = 1 ∨ (d.now.word ++ [aa]).length = 2 ∨ (d.now.word ++ [aa]).length = 3 ∨ (d.now.word ++ [aa]).length = 4 ∨ (d.now.word ++ [aa]).length = 5 ∨ (d.now.word ++ [aa]).length = 6 := by omega
    rcases h7 with e | e | e | e | e | e | e <;> rw [e] <;> decide
  rw [e4] at e3
  generalize hx : (after (sameRule d.now.st.length d.now.step) d.now.st d.now.word).getD aa.toNat 0 = x at *
  have hx1 : 1 ≤ x := by
    rcases Int.lt_or_le 0 x with h | h
    · omega
    · have : max 0 x = 0 := by omega
      rw [this, Int.mul_zero] at e3; omega
  have hmx : max 0 x = x := by omega
  rw [hmx] at e3
  refine ⟨by rw [drawOk_same d.now s1 s2]; exact hp, haa.1, haa.2, hall, x, rfl, ?_, ?_, ?_⟩
  · rw [h1]; show waysVal d.now.st _ (d.now.word ++ [aa]) = _; rw [e2, e1, e3]
  · rw [e1, ← e3]; omega
  · rw [e1, ← e3]; omega

theorem DkI.parts {w : World} {x0 u x2 x3 : Value} {d : Dk} (h : DkI w (.agg #[x0, u, x2, x3]) d) : Ints w x0 d.now.st ∧ Ints w x2 d.now.word ∧ Pls w x3 d.past := by
  obtain ⟨_, _, _, e, h⟩ := h
  injection e with e
  simp only [Array.mk.injEq, List.cons.injEq, and_true] at e
  obtain ⟨rfl, _, rfl, rfl⟩ := e
  exact h
theorem afterW_is {u : List Int} {rule : List (List Int)} {word : List Int} (h : drawOk u rule word = true) (v0 v1 v2 : Value) (w : World) (h0 : Ints w v0 u) (h1 : Rows w v1 rule) (h2 : Ints w v2 word) :
    Calls Tryd.prog 14 #[v0, v1, v2] w fun e w' => ∃ v, e = .returned (.tuple #[v, .bool true]) ∧ (OwnI w' w.heap.size v (after rule u word) ∧ (after rule u word).length = u.length) ∧ Below w.heap.size w w' := by
  have := i_AfterWord v0 v1 v2 u rule word w h0 h1 h2
  rw [h] at this
  refine this.mono ?_
  rintro e w' ⟨v, rfl, h3, h4⟩
  exact ⟨v, rfl, h3 rfl, h4⟩
theorem ways_is {u : List Int} {rule : List (List Int)} {word : List Int} {n : Int} (h : waysVal u rule word = n) (v0 v1 v2 : Value) (w : World) (h0 : Ints w v0 u) (h1 : Rows w v1 rule) (h2 : Ints w v2 word) :
    Calls Tryd.prog 15 #[v0, v1, v2] w fun e w' => e = .returned (.int .i64 n) ∧ Below w.heap.size w w' := by
  have := i_RuleWays v0 v1 v2 u rule word w h0 h1 h2
  rw [h] at this; exact this


set_option maxHeartbeats 4000000 in
set_option maxRecDepth 100000 in
theorem l_FnDeskDo (v : Value) (w : World) (h : Bys w v) (he : Env w) : Calls Tryd.prog 3 #[v] w fun e w' => e = .returned (.bool true) ∧ Below w.heap.size w w' := by
  have HBY := Lib.hid h
  have HEN := Lib.hid he
  obtain ⟨A, n, c, rfl, hn, hc, _⟩ := h
  clear he
  by_cases hl : 1048576 < n
  · go_enter Tryd.func3, Tryd.ntmps3
    go_wp2
    go_ret
    exact ⟨rfl, Below.refl _ _⟩
  · skip
    go_enter Tryd.func3, Tryd.ntmps3
    go_wp2_with fail
    refine (s_DrawDeskDo _ _ HBY.out).mono ?_
    rintro e w1 ⟨v1, d, ⟨kd, aa, bb⟩, rfl, hD1, hds, hdp, hb1⟩
    obtain ⟨D0, e0, D2, e2, D3, e3, rfl⟩ := hD1.form
    haveI b1 : Bel w w1 := ⟨hb1⟩
    have HDI := Lib.hid hD1.dk
    clear hD1 hb1
    unfold ddV
    go_upto_region 4 with (fail)
    obtain ⟨W3, hW3⟩ : ∃ W3, W3 = (w1.alloc (.cells #[.slice D0 d.now.st.length e0, .int .i64 d.now.step, .slice D2 d.now.word.length e2, .slice D3 d.past.length e3] 28)).alloc (.cells #[.int .i64 kd, .int .i64 aa, .int .i64 bb] 30) := ⟨_, rfl⟩
    rw [← hW3]
    haveI b3 : Bel w1 W3 := by rw [hW3]; exact Bel.alloc
    haveI bw3 : Bel w W3 := Bel.step (w := w) b3.out
    have BD : Hid (W3.heap[w1.heap.size]? = some (.cells #[.slice D0 d.now.st.length e0, .int .i64 d.now.step, .slice D2 d.now.word.length e2, .slice D3 d.past.length e3] 28 (0, 0))) := by show _ = _; rw [hW3]; exact (heap_alloc_old _ _ (by simp)).trans (heap_alloc_new w1 _)
    have BA : Hid (W3.heap[w1.heap.size + 1]? = some (.cells #[.int .i64 kd, .int .i64 aa, .int .i64 bb] 30 (0, 0))) := by show _ = _; rw [hW3]; simpa using heap_alloc_new (w1.alloc (.cells #[.slice D0 d.now.st.length e0, .int .i64 d.now.step, .slice D2 d.now.word.length e2, .slice D3 d.past.length e3] 28)) _
    have HD := Lib.hid (HDI.out.at (W := W3))
    clear hW3 HDI
    cases hok : doOk d ⟨kd, aa, bb⟩ with
    | false =>
      have HOK := Lib.hid hok; clear hok
      have d0 := block_cell (block_at (W := W3) BD.out) 0 rfl
      have d1 := block_cell (block_at (W := W3) BD.out) 1 rfl
      have d2 := block_cell (block_at (W := W3) BD.out) 2 rfl
      have d3 := block_cell (block_at (W := W3) BD.out) 3 rfl
      have a0 := block_cell (block_at (W := W3) BA.out) 0 rfl
      have a1 := block_cell (block_at (W := W3) BA.out) 1 rfl
      have a2 := block_cell (block_at (W := W3) BA.out) 2 rfl
      go_wp2_with fail
      clear d0 d1 d2 d3 a0 a1 a2
      refine (iDo_is (a := ⟨kd, aa, bb⟩) HOK.out _ _ HD.out (HEN.out.at)).mono ?_
      rintro e w4 ⟨vx, rfl, ⟨f, hX⟩, hb4⟩
      obtain ⟨X0, x0, X2, x2, X3, x3, rfl⟩ := dk_form hX.dk
      haveI b4 : Bel W3 w4 := Bel.step (w := W3) hb4
      have HX4 := Lib.hid hX.dk
      clear hX hb4
      go_upto_region 5 with (fail)
      obtain ⟨W5, hW5⟩ : ∃ W5, W5 = w4.alloc (.cells #[.slice X0 (doDesk d ⟨kd, aa, bb⟩).now.st.length x0, .int .i64 (doDesk d ⟨kd, aa, bb⟩).now.step, .slice X2 (doDesk d ⟨kd, aa, bb⟩).now.word.length x2, .slice X3 (doDesk d ⟨kd, aa, bb⟩).past.length x3] 28) := ⟨_, rfl⟩
      rw [← hW5]
      haveI b5 : Bel w4 W5 := by rw [hW5]; exact Bel.alloc
      haveI b35 : Bel W3 W5 := Bel.step (w := W3) b5.out
      haveI bw5 : Bel w W5 := Bel.step (w := w) b35.out
      have BX : Hid (W5.heap[w4.heap.size]? = some (.cells #[.slice X0 (doDesk d ⟨kd, aa, bb⟩).now.st.length x0, .int .i64 (doDesk d ⟨kd, aa, bb⟩).now.step, .slice X2 (doDesk d ⟨kd, aa, bb⟩).now.word.length x2, .slice X3 (doDesk d ⟨kd, aa, bb⟩).past.length x3] 28 (0, 0))) := by show _ = _; rw [hW5]; exact heap_alloc_new _ _
      have HX := Lib.hid (HX4.out.at (W := W5))
      clear hW5 HX4
      have d0 := block_cell (block_at (W := W5) BD.out) 0 rfl
      have d1 := block_cell (block_at (W := W5) BD.out) 1 rfl
      have d2 := block_cell (block_at (W := W5) BD.out) 2 rfl
      have d3 := block_cell (block_at (W := W5) BD.out) 3 rfl
      have a0 := block_cell (block_at (W := W5) BA.out) 0 rfl
      have a1 := block_cell (block_at (W := W5) BA.out) 1 rfl
      have a2 := block_cell (block_at (W := W5) BA.out) 2 rfl
      go_wp2_with fail
      clear d0 d1 d2 d3 a0 a1 a2
      refine (sDo_is (a := ⟨kd, aa, bb⟩) HOK.out _ _ HD.out.at).mono ?_
      rintro e w6 ⟨vy, rfl, hY, hb6⟩
      obtain ⟨Y0, y0, Y2, y2, Y3, y3, rfl⟩ := dk_form hY.1.dk
      haveI b6 : Bel W5 w6 := Bel.step (w := W5) hb6
      have HY6 := Lib.hid hY.1.dk
      clear hY hb6
      go_upto_region 6 with (fail)
      obtain ⟨W7, hW7⟩ : ∃ W7, W7 = w6.alloc (.cells #[.slice Y0 (doDesk d ⟨kd, aa, bb⟩).now.st.length y0, .int .i64 (doDesk d ⟨kd, aa, bb⟩).now.step, .slice Y2 (doDesk d ⟨kd, aa, bb⟩).now.word.length y2, .slice Y3 (doDesk d ⟨kd, aa, bb⟩).past.length y3] 28) := ⟨_, rfl⟩
      rw [← hW7]
      haveI b7 : Bel w6 W7 := by rw [hW7]; exact Bel.alloc
      haveI b57 : Bel W5 W7 := Bel.step (w := W5) b7.out
      haveI b37 : Bel W3 W7 := Bel.step (w := W3) b57.out
      haveI bw7 : Bel w W7 := Bel.step (w := w) b37.out
      have BY : Hid (W7.heap[w6.heap.size]? = some (.cells #[.slice Y0 (doDesk d ⟨kd, aa, bb⟩).now.st.length y0, .int .i64 (doDesk d ⟨kd, aa, bb⟩).now.step, .slice Y2 (doDesk d ⟨kd, aa, bb⟩).now.word.length y2, .slice Y3 (doDesk d ⟨kd, aa, bb⟩).past.length y3] 28 (0, 0))) := by show _ = _; rw [hW7]; exact heap_alloc_new _ _
      have HY := Lib.hid (HY6.out.at (W := W7))
      clear hW7 HY6
      have p0 := block_cell (block_at (W := W7) BX.out) 0 rfl
      have p1 := block_cell (block_at (W := W7) BX.out) 1 rfl
      have p2 := block_cell (block_at (W := W7) BX.out) 2 rfl
      have p3 := block_cell (block_at (W := W7) BX.out) 3 rfl
      have q0 := block_cell BY.out 0 rfl
      have q1 := block_cell BY.out 1 rfl
      have q2 := block_cell BY.out 2 rfl
      have q3 := block_cell BY.out 3 rfl
      go_wp2_with fail
      refine (same_is (sameD_iff.2 rfl) _ _ _ HX.out.at HY.out).mono ?_
      rintro e w8 ⟨rfl, hb8⟩
      haveI b8 : Bel W7 w8 := Bel.step (w := W7) hb8
      haveI b58 : Bel W5 w8 := Bel.step (w := W5) b8.out
      haveI b38 : Bel W3 w8 := Bel.step (w := W3) b58.out
      haveI bw8 : Bel w w8 := Bel.step (w := w) b38.out
      clear hb8 p0 p1 p2 p3 q0 q1 q2 q3
      have p0 := block_cell (block_at (W := w8) BX.out) 0 rfl
      have p1 := block_cell (block_at (W := w8) BX.out) 1 rfl
      have p2 := block_cell (block_at (W := w8) BX.out) 2 rfl
      have p3 := block_cell (block_at (W := w8) BX.out) 3 rfl
      have d0 := block_cell (block_at (W := w8) BD.out) 0 rfl
      have d1 := block_cell (block_at (W := w8) BD.out) 1 rfl
      have d2 := block_cell (block_at (W := w8) BD.out) 2 rfl
      have d3 := block_cell (block_at (W := w8) BD.out) 3 rfl
      have a0 := block_cell (block_at (W := w8) BA.out) 0 rfl
      have a1 := block_cell (block_at (W := w8) BA.out) 1 rfl
      have a2 := block_cell (block_at (W := w8) BA.out) 2 rfl
      cases hs : sameD (doDesk d ⟨kd, aa, bb⟩) d with
      | true =>
        have HS := Lib.hid (same_is hs); clear hs
        go_wp2_with fail
        refine (HS.out _ _ _ HX.out.at HD.out.at).mono ?_
        rintro e w9 ⟨rfl, hb9⟩
        haveI b9 : Bel w8 w9 := Bel.step (w := w8) hb9
        haveI bw9 : Bel w w9 := Bel.step (w := w) hb9
        clear hb9 d0 d1 d2 d3 a0 a1 a2 p0 p1 p2 p3
        go_wp2_with fail
        refine (l_alive _).mono ?_
        rintro e w10 ⟨rfl, hb10⟩
        have HB := Lib.hid (Bel.step (w := w) hb10).out
        clear hb10
        go_wp2
        go_ret
        exact ⟨rfl, HB.out⟩
      | false =>
        have hdo : deskOk d = false := by
          cases h : deskOk d with
          | false => rfl
          | true =>
            exfalso
            have h2 : doOk d ⟨kd, aa, bb⟩ = false := HOK.out
            have h3 : backOk d ⟨kd, aa, bb⟩ = false := by
              cases hb : backOk d ⟨kd, aa, bb⟩ with
              | false => rfl
              | true => rw [(do_back h hb).2] at h2; cases h2
            have h4 : took d.now (madeOf d.now ⟨kd, aa, bb⟩) = false := by
              cases ht : took d.now (madeOf d.now ⟨kd, aa, bb⟩) with
              | false => rfl
              | true => rw [(do_took h h3 ht).2] at h2; cases h2
            rw [(do_not h h3 h4).1, sameD_iff.2 rfl] at hs
            cases hs
        have HDO := Lib.hid (okD_is hdo); clear hdo
        have HS := Lib.hid (same_is hs); clear hs
        go_wp2_with fail
        refine (HS.out _ _ _ HX.out.at HD.out.at).mono ?_
        rintro e w9 ⟨rfl, hb9⟩
        haveI b9 : Bel w8 w9 := Bel.step (w := w8) hb9
        haveI b39 : Bel W3 w9 := Bel.step (w := W3) hb9
        haveI bw9 : Bel w w9 := Bel.step (w := w) hb9
        clear hb9 d0 d1 d2 d3 a0 a1 a2 p0 p1 p2 p3
        have d0 := block_cell (block_at (W := w9) BD.out) 0 rfl
        have d1 := block_cell (block_at (W := w9) BD.out) 1 rfl
        have d2 := block_cell (block_at (W := w9) BD.out) 2 rfl
        have d3 := block_cell (block_at (W := w9) BD.out) 3 rfl
        have a0 := block_cell (block_at (W := w9) BA.out) 0 rfl
        have a1 := block_cell (block_at (W := w9) BA.out) 1 rfl
        have a2 := block_cell (block_at (W := w9) BA.out) 2 rfl
        go_wp2_with fail
        refine (HDO.out _ _ HD.out.at).mono ?_
        rintro e w10 ⟨rfl, hb10⟩
        haveI bw10 : Bel w w10 := Bel.step (w := w) hb10
        clear hb10 d0 d1 d2 d3 a0 a1 a2
        go_wp2_with fail
        refine (l_alive _).mono ?_
        rintro e w11 ⟨rfl, hb11⟩
        have HB := Lib.hid (Bel.step (w := w) hb11).out
        clear hb11
        go_wp2
        go_ret
        exact ⟨rfl, HB.out⟩
    | true =>
      have HOK := Lib.hid hok; clear hok
      have d0 := block_cell (block_at (W := W3) BD.out) 0 rfl
      have d1 := block_cell (block_at (W := W3) BD.out) 1 rfl
      have d2 := block_cell (block_at (W := W3) BD.out) 2 rfl
      have d3 := block_cell (block_at (W := W3) BD.out) 3 rfl
      have a0 := block_cell (block_at (W := W3) BA.out) 0 rfl
      have a1 := block_cell (block_at (W := W3) BA.out) 1 rfl
      have a2 := block_cell (block_at (W := W3) BA.out) 2 rfl
      go_wp2_with fail
      clear d0 d1 d2 d3 a0 a1 a2
      refine (iDo_is (a := ⟨kd, aa, bb⟩) HOK.out _ _ HD.out (HEN.out.at)).mono ?_
      rintro e w4 ⟨vx, rfl, ⟨f, hX⟩, hb4⟩
      obtain ⟨X0, x0, X2, x2, X3, x3, rfl⟩ := dk_form hX.dk
      haveI b4 : Bel W3 w4 := Bel.step (w := W3) hb4
      have HX4 := Lib.hid hX.dk
      clear hX hb4
      go_upto_region 5 with (fail)
      obtain ⟨W5, hW5⟩ : ∃ W5, W5 = w4.alloc (.cells #[.slice X0 (doDesk d ⟨kd, aa, bb⟩).now.st.length x0, .int .i64 (doDesk d ⟨kd, aa, bb⟩).now.step, .slice X2 (doDesk d ⟨kd, aa, bb⟩).now.word.length x2, .slice X3 (doDesk d ⟨kd, aa, bb⟩).past.length x3] 28) := ⟨_, rfl⟩
      rw [← hW5]
      haveI b5 : Bel w4 W5 := by rw [hW5]; exact Bel.alloc
      haveI b35 : Bel W3 W5 := Bel.step (w := W3) b5.out
      haveI bw5 : Bel w W5 := Bel.step (w := w) b35.out
      have BX : Hid (W5.heap[w4.heap.size]? = some (.cells #[.slice X0 (doDesk d ⟨kd, aa, bb⟩).now.st.length x0, .int .i64 (doDesk d ⟨kd, aa, bb⟩).now.step, .slice X2 (doDesk d ⟨kd, aa, bb⟩).now.word.length x2, .slice X3 (doDesk d ⟨kd, aa, bb⟩).past.length x3] 28 (0, 0))) := by show _ = _; rw [hW5]; exact heap_alloc_new _ _
      have HX := Lib.hid (HX4.out.at (W := W5))
      clear hW5 HX4
      have d0 := block_cell (block_at (W := W5) BD.out) 0 rfl
      have d1 := block_cell (block_at (W := W5) BD.out) 1 rfl
      have d2 := block_cell (block_at (W := W5) BD.out) 2 rfl
      have d3 := block_cell (block_at (W := W5) BD.out) 3 rfl
      have a0 := block_cell (block_at (W := W5) BA.out) 0 rfl
      have a1 := block_cell (block_at (W := W5) BA.out) 1 rfl
      have a2 := block_cell (block_at (W := W5) BA.out) 2 rfl
      go_wp2_with fail
      clear d0 d1 d2 d3 a0 a1 a2
      refine (sDo_is (a := ⟨kd, aa, bb⟩) HOK.out _ _ HD.out.at).mono ?_
      rintro e w6 ⟨vy, rfl, hY, hb6⟩
      obtain ⟨Y0, y0, Y2, y2, Y3, y3, rfl⟩ := dk_form hY.1.dk
      haveI b6 : Bel W5 w6 := Bel.step (w := W5) hb6
      have HY6 := Lib.hid hY.1.dk
      clear hY hb6
      go_upto_region 6 with (fail)
      obtain ⟨W7, hW7⟩ : ∃ W7, W7 = w6.alloc (.cells #[.slice Y0 (doDesk d ⟨kd, aa, bb⟩).now.st.length y0, .int .i64 (doDesk d ⟨kd, aa, bb⟩).now.step, .slice Y2 (doDesk d ⟨kd, aa, bb⟩).now.word.length y2, .slice Y3 (doDesk d ⟨kd, aa, bb⟩).past.length y3] 28) := ⟨_, rfl⟩
      rw [← hW7]
      haveI b7 : Bel w6 W7 := by rw [hW7]; exact Bel.alloc
      haveI b57 : Bel W5 W7 := Bel.step (w := W5) b7.out
      haveI b37 : Bel W3 W7 := Bel.step (w := W3) b57.out
      haveI bw7 : Bel w W7 := Bel.step (w := w) b37.out
      have BY : Hid (W7.heap[w6.heap.size]? = some (.cells #[.slice Y0 (doDesk d ⟨kd, aa, bb⟩).now.st.length y0, .int .i64 (doDesk d ⟨kd, aa, bb⟩).now.step, .slice Y2 (doDesk d ⟨kd, aa, bb⟩).now.word.length y2, .slice Y3 (doDesk d ⟨kd, aa, bb⟩).past.length y3] 28 (0, 0))) := by show _ = _; rw [hW7]; exact heap_alloc_new _ _
      have HY := Lib.hid (HY6.out.at (W := W7))
      clear hW7 HY6
      have p0 := block_cell (block_at (W := W7) BX.out) 0 rfl
      have p1 := block_cell (block_at (W := W7) BX.out) 1 rfl
      have p2 := block_cell (block_at (W := W7) BX.out) 2 rfl
      have p3 := block_cell (block_at (W := W7) BX.out) 3 rfl
      have q0 := block_cell BY.out 0 rfl
      have q1 := block_cell BY.out 1 rfl
      have q2 := block_cell BY.out 2 rfl
      have q3 := block_cell BY.out 3 rfl
      go_wp2_with fail
      refine (same_is (sameD_iff.2 rfl) _ _ _ HX.out.at HY.out).mono ?_
      rintro e w8 ⟨rfl, hb8⟩
      haveI b8 : Bel W7 w8 := Bel.step (w := W7) hb8
      haveI b58 : Bel W5 w8 := Bel.step (w := W5) b8.out
      haveI b38 : Bel W3 w8 := Bel.step (w := W3) b58.out
      haveI bw8 : Bel w w8 := Bel.step (w := w) b38.out
      clear hb8 p0 p1 p2 p3 q0 q1 q2 q3
      have hdo : deskOk d = true := by have h2 : doOk d ⟨kd, aa, bb⟩ = true := HOK.out; simp only [doOk, Bool.and_eq_true] at h2; exact h2.1
      have HDO := Lib.hid hdo; clear hdo
      have p0 := block_cell (block_at (W := w8) BX.out) 0 rfl
      have p1 := block_cell (block_at (W := w8) BX.out) 1 rfl
      have p2 := block_cell (block_at (W := w8) BX.out) 2 rfl
      have p3 := block_cell (block_at (W := w8) BX.out) 3 rfl
      obtain ⟨can, hcan⟩ : ∃ can, doOk (doDesk d ⟨kd, aa, bb⟩) ⟨4, 0, 0⟩ = can := ⟨_, rfl⟩
      have HCAN := Lib.hid (iDo_is hcan)
      have HCE := Lib.hid hcan; clear hcan
      go_wp2_with fail
      refine (HCAN.out _ _ HX.out.at HEN.out.at).mono ?_
      rintro e w9 ⟨vz, rfl, ⟨f2, hZ⟩, hb9⟩
      clear HCAN p0 p1 p2 p3
      obtain ⟨Z0, z0', Z2, z2', Z3, z3', rfl⟩ := dk_form hZ.dk
      haveI b9 : Bel w8 w9 := Bel.step (w := w8) hb9
      have HZ9 := Lib.hid hZ.dk
      clear hZ hb9
      go_upto_region 11 with (fail)
      obtain ⟨WA, hWA⟩ : ∃ WA, WA = w9.alloc (.cells #[.slice Z0 (doDesk (doDesk d ⟨kd, aa, bb⟩) ⟨4, 0, 0⟩).now.st.length z0', .int .i64 (doDesk (doDesk d ⟨kd, aa, bb⟩) ⟨4, 0, 0⟩).now.step, .slice Z2 (doDesk (doDesk d ⟨kd, aa, bb⟩) ⟨4, 0, 0⟩).now.word.length z2', .slice Z3 (doDesk (doDesk d ⟨kd, aa, bb⟩) ⟨4, 0, 0⟩).past.length z3'] 28) := ⟨_, rfl⟩
      rw [← hWA]
      haveI bA : Bel w9 WA := by rw [hWA]; exact Bel.alloc
      haveI b8A : Bel w8 WA := Bel.step (w := w8) bA.out
      haveI b7A : Bel W7 WA := Bel.step (w := W7) b8A.out
      haveI b5A : Bel W5 WA := Bel.step (w := W5) b7A.out
      haveI b3A : Bel W3 WA := Bel.step (w := W3) b5A.out
      haveI bwA : Bel w WA := Bel.step (w := w) b3A.out
      have BZ : Hid (WA.heap[w9.heap.size]? = some (.cells #[.slice Z0 (doDesk (doDesk d ⟨kd, aa, bb⟩) ⟨4, 0, 0⟩).now.st.length z0', .int .i64 (doDesk (doDesk d ⟨kd, aa, bb⟩) ⟨4, 0, 0⟩).now.step, .slice Z2 (doDesk (doDesk d ⟨kd, aa, bb⟩) ⟨4, 0, 0⟩).now.word.length z2', .slice Z3 (doDesk (doDesk d ⟨kd, aa, bb⟩) ⟨4, 0, 0⟩).past.length z3'] 28 (0, 0))) := by show _ = _; rw [hWA]; exact heap_alloc_new _ _
      have HZ := Lib.hid (HZ9.out.at (W := WA))
      clear hWA HZ9
      by_cases k2 : kd = 2
      · subst k2
        obtain ⟨m1, m2, m3, m4, x, hx, m5, m6, m7⟩ := draw_more HDO.out HOK.out
        obtain ⟨k, rfl⟩ := Int.eq_ofNat_of_zero_le m2
        rw [Int.toNat_natCast] at hx
        have HM1 := Lib.hid (afterW_is m1)
        have HM4 := Lib.hid m4
        have HWY := Lib.hid (ways_is m5)
        have HWD := Lib.hid (ways_is (u := d.now.st) (rule := sameRule d.now.st.length d.now.step) (word := d.now.word) rfl)
        have HXE := Lib.hid hx
        generalize waysVal d.now.st (sameRule d.now.st.length d.now.step) d.now.word = W1 at *
        have hmul : IntKind.i64.wrap (W1 * x) = W1 * x := i64_wrap m6 m7
        have HMUL := Lib.hid hmul
        obtain ⟨jd0, jd2, _⟩ := HD.out.parts
        obtain ⟨jy0, jy2, _⟩ := HY.out.parts
        have HJ := Lib.hid (And.intro jd0 jd2); have HJY := Lib.hid (And.intro jy0 jy2)
        clear m1 m2 m4 m5 m6 m7 hx hmul jd0 jd2 jy0 jy2
        have d0 := block_cell (block_at (W := WA) BD.out) 0 rfl
        have d1 := block_cell (block_at (W := WA) BD.out) 1 rfl
        have d2 := block_cell (block_at (W := WA) BD.out) 2 rfl
        have d3 := block_cell (block_at (W := WA) BD.out) 3 rfl
        have a0 := block_cell (block_at (W := WA) BA.out) 0 rfl
        have a1 := block_cell (block_at (W := WA) BA.out) 1 rfl
        have a2 := block_cell (block_at (W := WA) BA.out) 2 rfl
        go_wp2_with fail
        refine (i_SameRule d.now.st.length d.now.step _).mono ?_
        rintro e w10 ⟨vr, rfl, hRr, _, hb10⟩
        rw [HM4.out] at hRr
        have HRR := Lib.hid hRr.rows
        haveI c10 : Bel WA w10 := Bel.step (w := WA) hb10
        haveI : Bel W7 w10 := Bel.step (w := W7) hb10
        haveI : Bel W5 w10 := Bel.step (w := W5) hb10
        haveI : Bel W3 w10 := Bel.step (w := W3) hb10
        haveI : Bel w w10 := Bel.step (w := w) hb10
        clear hb10 hRr d0 d1 d2 d3 a0 a1 a2
        have d0 := block_cell (block_at (W := w10) BD.out) 0 rfl
        have d1 := block_cell (block_at (W := w10) BD.out) 1 rfl
        have d2 := block_cell (block_at (W := w10) BD.out) 2 rfl
        have d3 := block_cell (block_at (W := w10) BD.out) 3 rfl
        have a0 := block_cell (block_at (W := w10) BA.out) 0 rfl
        have a1 := block_cell (block_at (W := w10) BA.out) 1 rfl
        have a2 := block_cell (block_at (W := w10) BA.out) 2 rfl
        go_wp2_with fail
        refine (HM1.out _ _ _ _ HJ.out.1.at HRR.out HJ.out.2.at).mono ?_
        rintro e w11 ⟨vu, rfl, ⟨hU, hUL⟩, hb11⟩
        obtain ⟨U0, u0, eU⟩ := hU.ints.form
        rw [hUL] at eU
        subst eU
        haveI c11 : Bel w10 w11 := Bel.step (w := w10) hb11
        haveI : Bel WA w11 := Bel.step (w := WA) hb11
        haveI : Bel W7 w11 := Bel.step (w := W7) hb11
        haveI : Bel W5 w11 := Bel.step (w := W5) hb11
        haveI : Bel W3 w11 := Bel.step (w := W3) hb11
        haveI : Bel w w11 := Bel.step (w := w) hb11
        obtain ⟨_, _, eU, _, _, hcU⟩ := hU.ints.cells
        rw [hUL] at eU hcU
        cases eU
        obtain ⟨ub, uo, rfl, huc⟩ := hcU k (by omega)
        rw [HXE.out] at huc
        clear hb11 hU hUL hcU d0 d1 d2 d3 a0 a1 a2
        have k3 : k < d.now.st.length := by omega
        go_upto_region 15 with (fail)
        have a1 := block_cell (block_at (W := w11) BA.out) 1 rfl
        have d0 := block_cell (block_at (W := w11) BD.out) 0 rfl
        have d2 := block_cell (block_at (W := w11) BD.out) 2 rfl
        have t0 := block_cell (block_at (W := w11) BY.out) 0 rfl
        have t2 := block_cell (block_at (W := w11) BY.out) 2 rfl
        have hmul := HMUL.out
        go_region_held3 (fun w' => w'.cell? ⟨w1.heap.size + 1, 1, none⟩ = some (.int .i64 k) ∧ w'.cell? ⟨w1.heap.size, 0, none⟩ = some (.slice D0 d.now.st.length e0) ∧ w'.cell? ⟨w1.heap.size, 2, none⟩ = some (.slice D2 d.now.word.length e2) ∧ w'.cell? ⟨w6.heap.size, 0, none⟩ = some (.slice Y0 (doDesk d ⟨2, k, bb⟩).now.st.length y0) ∧ w'.cell? ⟨w6.heap.size, 2, none⟩ = some (.slice Y2 (doDesk d ⟨2, k, bb⟩).now.word.length y2) ∧ w'.cell? ⟨ub, uo + k, none⟩ = some (.int .i64 x))
          (exact ⟨cell_at a1, cell_at d0, cell_at d2, cell_at t0, cell_at t2, cell_at huc⟩)
          (first
            | (go_at_call_of 15 (Value.slice Y0 (doDesk d ⟨2, k, bb⟩).now.st.length y0); refine (HWY.out _ _ _ _ HJY.out.1.at HRR.out.at HJY.out.2.at).mono ?_; rintro e w12 ⟨rfl, hb12⟩; haveI : Bel w10 w12 := Bel.step (w := w10) hb12; haveI : Bel w11 w12 := Bel.step (w := w11) hb12; haveI : Bel WA w12 := Bel.step (w := WA) hb12; haveI : Bel W7 w12 := Bel.step (w := W7) hb12; haveI : Bel W5 w12 := Bel.step (w := W5) hb12; haveI : Bel W3 w12 := Bel.step (w := W3) hb12; haveI : Bel w w12 := Bel.step (w := w) hb12)
            | (go_at_call_of 15 (Value.slice D0 d.now.st.length e0); refine (HWD.out _ _ _ _ HJ.out.1.at HRR.out.at HJ.out.2.at).mono ?_; rintro e w13 ⟨rfl, hb13⟩; haveI : Bel w10 w13 := Bel.step (w := w10) hb13; haveI : Bel w11 w13 := Bel.step (w := w11) hb13; haveI : Bel WA w13 := Bel.step (w := WA) hb13; haveI : Bel W7 w13 := Bel.step (w := W7) hb13; haveI : Bel W5 w13 := Bel.step (w := W5) hb13; haveI : Bel W3 w13 := Bel.step (w := W3) hb13; haveI : Bel w w13 := Bel.step (w := w) hb13))
        have hxo : deskOk (doDesk d ⟨2, k, bb⟩) = true := do_desk HDO.out
        have HXO := Lib.hid (okD_is hxo); clear hxo
        clear a1 d0 d2 t0 t2 hmul huc
        have p0 := block_cell (block_at (W := w13) BX.out) 0 rfl
        have p1 := block_cell (block_at (W := w13) BX.out) 1 rfl
        have p2 := block_cell (block_at (W := w13) BX.out) 2 rfl
        have p3 := block_cell (block_at (W := w13) BX.out) 3 rfl
        have d0 := block_cell (block_at (W := w13) BD.out) 0 rfl
        have d1 := block_cell (block_at (W := w13) BD.out) 1 rfl
        have d2 := block_cell (block_at (W := w13) BD.out) 2 rfl
        have d3 := block_cell (block_at (W := w13) BD.out) 3 rfl
        have a0 := block_cell (block_at (W := w13) BA.out) 0 rfl
        have a1 := block_cell (block_at (W := w13) BA.out) 1 rfl
        have a2 := block_cell (block_at (W := w13) BA.out) 2 rfl
        have k4 : (2 : Int) ≠ 4 := by decide
        go_wp2_with fail
        refine (HXO.out _ _ HX.out.at).mono ?_
        rintro e w14 ⟨rfl, hb14⟩
        haveI : Bel WA w14 := Bel.step (w := WA) hb14
        haveI : Bel W7 w14 := Bel.step (w := W7) hb14
        haveI : Bel W5 w14 := Bel.step (w := W5) hb14
        haveI : Bel W3 w14 := Bel.step (w := W3) hb14
        haveI : Bel w w14 := Bel.step (w := w) hb14
        clear hb14 d0 d1 d2 d3 a0 a1 a2 p0 p1 p2 p3
        have d0 := block_cell (block_at (W := w14) BD.out) 0 rfl
        have d1 := block_cell (block_at (W := w14) BD.out) 1 rfl
        have d2 := block_cell (block_at (W := w14) BD.out) 2 rfl
        have d3 := block_cell (block_at (W := w14) BD.out) 3 rfl
        have a0 := block_cell (block_at (W := w14) BA.out) 0 rfl
        have a1 := block_cell (block_at (W := w14) BA.out) 1 rfl
        have a2 := block_cell (block_at (W := w14) BA.out) 2 rfl
        have hun := do_undo HDO.out (a := ⟨2, (k : Int), bb⟩) k4 HOK.out (by omega)
        obtain rfl : can = true := by rw [← HCE.out]; exact hun.2
        have hsz : sameD (doDesk (doDesk d ⟨2, (k : Int), bb⟩) ⟨4, 0, 0⟩) d = true := by rw [hun.1]; exact sameD_iff.2 rfl
        have HSZ := Lib.hid (same_is hsz); clear hsz hun
        have y0' := block_cell (block_at (W := w14) BZ.out) 0 rfl
        have y1' := block_cell (block_at (W := w14) BZ.out) 1 rfl
        have y2' := block_cell (block_at (W := w14) BZ.out) 2 rfl
        have y3' := block_cell (block_at (W := w14) BZ.out) 3 rfl
        have hd8 : ¬ 8 ≤ d.past.length := by omega
        clear k4
        go_wp2_with fail
        refine (HSZ.out _ _ _ HZ.out.at HD.out.at).mono ?_
        rintro e w11 ⟨rfl, hb11⟩
        have HB := Lib.hid (Bel.step (w := w) hb11).out
        clear hb11
        go_wp2
        go_ret
        exact ⟨rfl, HB.out⟩
      · have e2 : (kd == 2) = false := by simp [k2]
        have hxo : deskOk (doDesk d ⟨kd, aa, bb⟩) = true := do_desk HDO.out
        have HXO := Lib.hid (okD_is hxo); clear hxo
        have p0 := block_cell (block_at (W := WA) BX.out) 0 rfl
        have p1 := block_cell (block_at (W := WA) BX.out) 1 rfl
        have p2 := block_cell (block_at (W := WA) BX.out) 2 rfl
        have p3 := block_cell (block_at (W := WA) BX.out) 3 rfl
        have d0 := block_cell (block_at (W := WA) BD.out) 0 rfl
        have d1 := block_cell (block_at (W := WA) BD.out) 1 rfl
        have d2 := block_cell (block_at (W := WA) BD.out) 2 rfl
        have d3 := block_cell (block_at (W := WA) BD.out) 3 rfl
        have a0 := block_cell (block_at (W := WA) BA.out) 0 rfl
        have a1 := block_cell (block_at (W := WA) BA.out) 1 rfl
        have a2 := block_cell (block_at (W := WA) BA.out) 2 rfl
        go_wp2_with fail
        refine (HXO.out _ _ HX.out.at).mono ?_
        rintro e w10 ⟨rfl, hb10⟩
        haveI b10 : Bel WA w10 := Bel.step (w := WA) hb10
        haveI b710 : Bel W7 w10 := Bel.step (w := W7) hb10
        haveI b510 : Bel W5 w10 := Bel.step (w := W5) hb10
        haveI b310 : Bel W3 w10 := Bel.step (w := W3) hb10
        haveI bw10 : Bel w w10 := Bel.step (w := w) hb10
        clear hb10 d0 d1 d2 d3 a0 a1 a2 p0 p1 p2 p3
        have d0 := block_cell (block_at (W := w10) BD.out) 0 rfl
        have d1 := block_cell (block_at (W := w10) BD.out) 1 rfl
        have d2 := block_cell (block_at (W := w10) BD.out) 2 rfl
        have d3 := block_cell (block_at (W := w10) BD.out) 3 rfl
        have a0 := block_cell (block_at (W := w10) BA.out) 0 rfl
        have a1 := block_cell (block_at (W := w10) BA.out) 1 rfl
        have a2 := block_cell (block_at (W := w10) BA.out) 2 rfl
        by_cases k4 : kd = 4
        · have e4 : (kd == 4) = true := by simp [k4]
          have HB := Lib.hid bw10.out
          clear k4 k2
          go_wp2
          go_ret
          exact ⟨rfl, HB.out⟩
        · have e4 : (kd == 4) = false := by simp [k4]
          have hun := do_undo HDO.out (a := ⟨kd, aa, bb⟩) k4 HOK.out (by omega)
          obtain rfl : can = true := by rw [← HCE.out]; exact hun.2
          have hsz : sameD (doDesk (doDesk d ⟨kd, aa, bb⟩) ⟨4, 0, 0⟩) d = true := by rw [hun.1]; exact sameD_iff.2 rfl
          have HSZ := Lib.hid (same_is hsz); clear hsz hun
          have y0' := block_cell (block_at (W := w10) BZ.out) 0 rfl
          have y1' := block_cell (block_at (W := w10) BZ.out) 1 rfl
          have y2' := block_cell (block_at (W := w10) BZ.out) 2 rfl
          have y3' := block_cell (block_at (W := w10) BZ.out) 3 rfl
          have hd8 : ¬ 8 ≤ d.past.length := by omega
          clear k4
          go_wp2_with fail
          refine (HSZ.out _ _ _ HZ.out.at HD.out.at).mono ?_
          rintro e w11 ⟨rfl, hb11⟩
          have HB := Lib.hid (Bel.step (w := w) hb11).out
          clear hb11
          go_wp2
          go_ret
          exact ⟨rfl, HB.out⟩
end Go.Proofs.YtpfncjaclgcbnaaDoor.Ub
