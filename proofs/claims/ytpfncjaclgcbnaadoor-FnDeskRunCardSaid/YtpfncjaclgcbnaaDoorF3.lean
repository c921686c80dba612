/- Contracts of what makes rows and rules: a clone, a rule of one step, an urn after draws. -/
import Derived.Test.YtpfncjaclgcbnaaDoorF1
import Derived.Test.YtpfncjaclgcbnaaDoorShelf
set_option linter.unusedVariables false
set_option linter.unusedSimpArgs false
namespace Go.Proofs.YtpfncjaclgcbnaaDoor.Ub
open Go.RowKit

theorem i_Clone (v : Value) (xs : List Int) (w : World) (h : Ints w v xs) (hl : xs.length ≤ 1000000) :
    Calls Tryd.prog 69 #[v] w fun e w' => ∃ v', e = .returned v' ∧ OwnI w' w.heap.size v' xs ∧ Below w.heap.size w w' := by
  rcases h.open with ⟨A, c, rfl, rfl⟩ | ⟨b, o, c, rfl, h0, h1, h2⟩
  · cases A with
    | none => exact (Tryd.slices_Clone_int_nil 0 c w).mono fun e w' ⟨h1, h2⟩ => ⟨_, h1, OwnI.nil _ _, by rw [h2]; exact Below.refl _ _⟩
    | some a => exact (Tryd.slices_Clone_int_zero a c w).mono fun e w' ⟨v', h1, h2, _, h3⟩ => ⟨v', h1, h2, h3⟩
  · exact (Tryd.slices_Clone_int b o xs.length c xs w (Nat.le_refl _) (by omega) h2).mono fun e w' ⟨v', k1, k2, _, k3⟩ => ⟨v', k1, by rw [List.take_length] at k2; exact k2, k3⟩

set_option maxHeartbeats 1000000 in
set_option maxRecDepth 100000 in
theorem s_l4After (v0 v1 : Value) (u : List Int) (rule : List (List Int)) (c : Int) (w : World) (h0 : Ints w v0 u) (h1 : Rows w v1 rule) (hu : u.length ≤ 3)
    (c0 : 0 ≤ c) (c1 : c < rule.length) (hr : (ruleRow rule c).length = u.length) (hs : ∀ j, j < u.length → -1000 ≤ u.getD j 0 ∧ u.getD j 0 ≤ 1000 ∧ -10 ≤ (ruleRow rule c).getD j 0 ∧ (ruleRow rule c).getD j 0 ≤ 10) :
    Calls Tryd.prog 95 #[v0, v1, .int .i64 c] w fun e w' => ∃ v, e = .returned v ∧ OwnI w' w.heap.size v (plus u (ruleRow rule c)) ∧ Below w.heap.size w w' := by
  obtain ⟨A, c0', rfl, hm, hl, hc⟩ := h0.cells
  obtain ⟨k, rfl⟩ := Int.eq_ofNat_of_zero_le c0
  have c1' : k < rule.length := by omega
  obtain ⟨A1, c1'', rfl, hm1, hl1, hc1⟩ := h1.cells
  obtain ⟨b1, o1, A2, c2, rfl, hx1, hi1⟩ := hc1 k c1'
  obtain ⟨A3, c3, e3, hm3, hl3, hc3⟩ := hi1.cells
  cases e3
  have er : ruleRow rule k = rule.getD k [] := by simp [ruleRow]
  rw [er] at hr hs ⊢
  generalize rule.getD k [] = row at *
  have hpl : (plus u row).length = u.length := by simp [plus, hr]
  have HX := Lib.hid hx1; clear hx1
  have HC := Lib.hid hc; have HC3 := Lib.hid hc3; have HS := Lib.hid hs; have HPL := Lib.hid hpl
  clear hc hc3 hs hc1 er hpl
  have HR := Lib.hid hr; clear hr
  go_enter Tryd.func95, Tryd.ntmps95
  go_wp2
  go_loopw [7, 8] (fun v i wr => ∃ k : Nat, k ≤ u.length ∧ i = .int .i64 k ∧ Hid (OwnI wr w.heap.size v ((plus u row).take k)) ∧ Hid (Below w.heap.size w wr)) (fun _ i _ => u.length - (intOf i).toNat)
  case atStart => exact ⟨0, by omega, rfl, World.ownsRow_made w #[] 0 (Nat.le_refl _) (by decide) rfl, (Below.refl _ _).alloc (Nat.le_refl _) _⟩
  case round =>
    obtain ⟨j, hj, rfl, hO, hB⟩ := hrel
    by_cases hlt : j < u.length
    · obtain ⟨b, o, rfl, hx⟩ := HC.out j hlt
      obtain ⟨b', o', e', hx'⟩ := HC3.out j (by rw [HR.out]; exact hlt)
      cases e'
      have HE := Lib.hid (Ext.of_below hB.out)
      have g1 := HE.out _ _ HX.out
      have g2 := HE.out _ _ hx
      have g3 := HE.out _ _ hx'
      have hlr : (j : Int) < (row.length : Int) := by rw [HR.out]; omega
      have hli : (j : Int) < (u.length : Int) := by omega
      have hkr : (k : Int) < (rule.length : Int) := by omega
      have hj0 : (0 : Int) ≤ (j : Int) := by omega
      have hk0 : (0 : Int) ≤ (k : Int) := by omega
      obtain ⟨q1, q2, q3, q4⟩ := HS.out j hlt
      have HT := Lib.hid (plus_take u row j hlt HR.out)
      have HO : Hid (wr.ownsRow w.heap.size 3 1 u7 j (nums ((plus u row).take j))) := by have h := hO.out; unfold OwnI at h; rwa [List.length_take, HPL.out, Nat.min_eq_left hj] at h
      generalize u.getD j 0 = x at hx g2 q1 q2 HT
      generalize row.getD j 0 = y at hx' g3 q3 q4 HT
      have hw : IntKind.i64.wrap (x + y) = x + y := i64_wrap (by omega) (by omega)
      go_wp2
      go_region_held3 (fun w' => w'.cell? ⟨b1, o1 + k, none⟩ = some (.slice (some ⟨b', o', none⟩) row.length c2) ∧ w'.cell? ⟨b, o + j, none⟩ = some (.int .i64 x) ∧ w'.cell? ⟨b', o' + j, none⟩ = some (.int .i64 y)) (go_keep)
        ((refine app_step eI (by rfl) _ _ (by rfl) w.heap.size u7 j (nums ((plus u row).take j)) (by rfl) ((HO.out.alloc _).drew) wr.heap.size 1 1 #[.int .i64 (x + y)] (by rfl) (heap_alloc_new wr _) (by rfl) (by simp [Value.oneCell']) (by omega) (by omega) (by omega) (by have := hB.out.size; simp; omega) ?_; intro g cap w1 hown hgrow hat; have HB1 := Lib.hid (Below.app ((hB.out.alloc hB.out.size _).drew) ((HO.out.alloc _).drew) hgrow (by have := hB.out.size; simp; omega)); have g1 := (Ext.of_below HB1.out) _ _ HX.out; have g2 := (Ext.of_below HB1.out) _ _ hx; have g3 := (Ext.of_below HB1.out) _ _ hx'))
      clear hw
      go_wp2
      refine ⟨⟨j + 1, by omega, by go_num, ?_, HB1⟩, by simp [intOf]; omega⟩
      show Hid (w1.ownsRow _ _ _ _ _ _)
      rw [HT.out, List.length_append, List.length_take, HPL.out, Nat.min_eq_left hj]
      simpa [Hid, nums] using hown
    · go_wp2
      go_ret
      exact ⟨_, rfl, by rw [List.take_of_length_le (by rw [HPL.out]; omega)] at hO; exact hO.out, hB.out⟩

set_option maxHeartbeats 1000000 in
set_option maxRecDepth 100000 in
theorem i_SameRule (n : Int) (s : Int) (w : World) :
    Calls Tryd.prog 13 #[.int .i64 n, .int .i64 s] w fun e w' => ∃ v, e = .returned v ∧ OwnR w' w.heap.size v (sameRuleAll n s) ∧ (sameRuleAll n s = [] → v = .slice none 0 0) ∧ Below w.heap.size w w' := by
  by_cases hc : colOk n = true
  · by_cases hs : stepOk s = true
    · have h1 : -1 ≤ s ∧ s ≤ 3 := by simpa [stepOk, inR] using hs
      have h2 : 1 ≤ n ∧ n ≤ 3 := by simpa [colOk, inR] using hc
      obtain ⟨h3, h4⟩ := h1
      obtain ⟨h5, h6⟩ := h2
      have e0 : sameRuleAll n s = (List.range n.toNat).map (sameRow n.toNat s) := by simp [sameRuleAll, hc, hs, sameRule]
      rw [e0]
      obtain ⟨m, rfl⟩ := Int.eq_ofNat_of_zero_le (show 0 ≤ n by omega)
      rw [Int.toNat_natCast]
      have hcn : (!colOk (m : Int)) = false := by simp [hc]
      clear hc hs e0
      go_enter Tryd.func13, Tryd.ntmps13
      go_wp2_with (go_at_call 46; refine (i_coloursOk _ _).mono ?_; rintro e w' ⟨rfl, rfl⟩)
      go_loopw [5, 21] (fun v i wr => ∃ k : Nat, k ≤ m ∧ i = .int .i64 k ∧ Hid (OwnR wr w.heap.size v (((List.range m).map (sameRow m s)).take k)) ∧ Hid (Below w.heap.size w wr)) (fun _ i _ => m - (intOf i).toNat)
      case atStart => exact ⟨0, by omega, rfl, ⟨[], World.ownsRow_made w #[] 0 (Nat.le_refl _) (by decide) rfl, fun j hj => by simp at hj⟩, (Bel.out : Below w.heap.size w _)⟩
      case round =>
        obtain ⟨k, hk, rfl, hO, hB⟩ := hrel
        by_cases hlt : k < m
        · obtain ⟨es, hes⟩ := hO.out
          have HES := Lib.hid hes; clear hes
          have hkl : Hid ((((List.range m).map (sameRow m s)).take k).length = k) := by show _ = _; simp; omega
          have hlw := hB.out.size
          go_wp2_with (first
            | (at_make; refine make_ints rfl _ _ rfl w.heap.size m rfl rfl (by omega) hB.out.size ?_; intro w1 hm1 hg1; have HM := Lib.hid hm1; have HG := Lib.hid hg1; clear hm1 hg1; have g1 : w1.cell? ⟨wr.heap.size, k, none⟩ = some (.int .i64 0) := (by have h := OwnI.cell HM.out k (by simpa using hlt); simpa [List.getD, hlt] using h); have g2 := OwnI.frozen HM.out k)
            | (at_builtin; refine stop ?_))
          refine go_on ?_
          haveI := bel_grown HG.out
          haveI : Bel wr (w1.setCell ⟨wr.heap.size, k, none⟩ (.int .i64 s)) := bel_set (Nat.le_refl _) _
          have hown := HES.out.1
          rw [hkl.out] at hown
          refine app_list eR rfl _ _ rfl w.heap.size u5 k es rfl (own_below hown Bel.out) w1.heap.size 1 1 #[.slice (some ⟨wr.heap.size, 0, none⟩) m m] rfl (by simpa using heap_alloc_new (w1.setCell ⟨wr.heap.size, k, none⟩ (.int .i64 s)) _) rfl (by simp [Value.oneCell']) (by omega) (by omega) (by omega) (by have := HG.out.size; simp; omega) ?_
          intro g cap w3 hown3 hgr hat
          have ht : Hid (((List.range m).map (sameRow m s)).take (k + 1) = ((List.range m).map (sameRow m s)).take k ++ [sameRow m s k]) := by
            show _ = _
            rw [take_getD _ [] k (by simpa using hlt)]; simp [List.getD, hlt]
          have HR := Lib.hid (OwnR.push (x := sameRow m s k) ((OwnI.store HM.out k s).bel (Bel.alloc (W := w1.setCell ⟨wr.heap.size, k, none⟩ (.int .i64 s))).out) ⟨by rw [hkl.out]; exact own_below hown Bel.out, fun j hj => by obtain ⟨e, k1, k2⟩ := HES.out.2 j hj; exact ⟨e, k1, k2.bel Bel.out⟩⟩ hgr (by rw [hkl.out]; exact hown3))
          have HB3 := Lib.hid (Below.app (hB.out.trans ((Bel.out : Below wr.heap.size wr _).mono hB.out.size)) (own_below hown Bel.out) hgr (by have := HG.out.size; simp; omega))
          go_wp2
          exact ⟨⟨k + 1, by omega, by go_num, by rw [ht.out]; exact HR.out, HB3⟩, by simp [intOf]; omega⟩
        · go_wp2
          go_ret
          exact ⟨_, rfl, by have h := hO.out; rwa [List.take_of_length_le (by simp; omega)] at h, fun h => by simp at h; omega, hB.out⟩
    · have h1 : s < -1 ∨ 3 < s := by simp [stepOk, inR] at hs; omega
      have e0 : sameRuleAll n s = [] := by simp [sameRuleAll, hs]
      rw [e0]
      have hcn : (!colOk n) = false := by simp [hc]
      clear hc hs e0
      go_enter Tryd.func13, Tryd.ntmps13
      rcases h1 with h1 | h1
      · go_wp2_with (go_at_call 46; refine (i_coloursOk _ _).mono ?_; rintro e w' ⟨rfl, rfl⟩)
        go_ret
        exact ⟨_, rfl, OwnR.nil _ _, fun _ => rfl, Below.refl _ _⟩
      · go_wp2_with (go_at_call 46; refine (i_coloursOk _ _).mono ?_; rintro e w' ⟨rfl, rfl⟩)
        go_ret
        exact ⟨_, rfl, OwnR.nil _ _, fun _ => rfl, Below.refl _ _⟩
  · have e0 : sameRuleAll n s = [] := by simp [sameRuleAll, hc]
    rw [e0]
    have hcn : (!colOk n) = true := by simp [hc]
    clear hc e0
    go_enter Tryd.func13, Tryd.ntmps13
    go_wp2_with (go_at_call 46; refine (i_coloursOk _ _).mono ?_; rintro e w' ⟨rfl, rfl⟩)
    go_ret
    exact ⟨_, rfl, OwnR.nil _ _, fun _ => rfl, Below.refl _ _⟩

set_option maxHeartbeats 1000000 in
set_option maxRecDepth 100000 in
theorem s_SameRule (n : Int) (s : Int) (w : World) :
    Calls Tryd.prog 78 #[.int .i64 n, .int .i64 s] w fun e w' => ∃ v, e = .returned v ∧ OwnR w' w.heap.size v (sameRuleAll n s) ∧ Below w.heap.size w w' := by
  by_cases hc : colOk n = true
  · by_cases hs : stepOk s = true
    · have h1 : -1 ≤ s ∧ s ≤ 3 := by simpa [stepOk, inR] using hs
      have h2 : 1 ≤ n ∧ n ≤ 3 := by simpa [colOk, inR] using hc
      obtain ⟨h3, h4⟩ := h1
      obtain ⟨h5, h6⟩ := h2
      have e0 : sameRuleAll n s = (List.range n.toNat).map (sameRow n.toNat s) := by simp [sameRuleAll, hc, hs, sameRule]
      rw [e0]
      obtain ⟨m, rfl⟩ := Int.eq_ofNat_of_zero_le (show 0 ≤ n by omega)
      rw [Int.toNat_natCast]
      have hcn : inR (m : Int) 1 3 = true := hc
      have hsn : inR s (-1) 3 = true := hs
      clear hc hs e0
      go_enter Tryd.func78, Tryd.ntmps78
      go_wp2
      go_loopw [5, 6] (fun v i wr => ∃ k : Nat, k ≤ m ∧ i = .int .i64 k ∧ Hid (OwnR wr w.heap.size v (((List.range m).map (sameRow m s)).take k)) ∧ Hid (Below w.heap.size w wr)) (fun _ i _ => m - (intOf i).toNat)
      case atStart => exact ⟨0, by omega, rfl, ⟨[], World.ownsRow_made w #[] 0 (Nat.le_refl _) (by decide) rfl, fun j hj => by simp at hj⟩, (Bel.out : Below w.heap.size w _)⟩
      case round =>
        obtain ⟨k, hk, rfl, hO, hB⟩ := hrel
        by_cases hlt : k < m
        · obtain ⟨es, hes⟩ := hO.out
          have HES := Lib.hid hes; clear hes
          have hkl : Hid ((((List.range m).map (sameRow m s)).take k).length = k) := by show _ = _; simp; omega
          have hlw := hB.out.size
          go_wp2_with (first
            | (go_at_call 76; refine (s_l1In _ _ _ _).mono ?_; rintro e w' ⟨rfl, rfl⟩)
            | (at_make; refine make_ints rfl _ _ rfl w.heap.size m rfl rfl (by omega) hB.out.size ?_; intro w1 hm1 hg1; have HM := Lib.hid hm1; have HG := Lib.hid hg1; clear hm1 hg1; have g1 : w1.cell? ⟨wr.heap.size, k, none⟩ = some (.int .i64 0) := (by have h := OwnI.cell HM.out k (by simpa using hlt); simpa [List.getD, hlt] using h); have g2 := OwnI.frozen HM.out k)
            | (at_builtin; refine stop ?_))
          refine go_on ?_
          haveI := bel_grown HG.out
          haveI : Bel wr (w1.setCell ⟨wr.heap.size, k, none⟩ (.int .i64 s)) := bel_set (Nat.le_refl _) _
          have hown := HES.out.1
          rw [hkl.out] at hown
          refine app_list eR rfl _ _ rfl w.heap.size u5 k es rfl (own_below hown Bel.out) w1.heap.size 1 1 #[.slice (some ⟨wr.heap.size, 0, none⟩) m m] rfl (by simpa using heap_alloc_new (w1.setCell ⟨wr.heap.size, k, none⟩ (.int .i64 s)) _) rfl (by simp [Value.oneCell']) (by omega) (by omega) (by omega) (by have := HG.out.size; simp; omega) ?_
          intro g cap w3 hown3 hgr hat
          have ht : Hid (((List.range m).map (sameRow m s)).take (k + 1) = ((List.range m).map (sameRow m s)).take k ++ [sameRow m s k]) := by
            show _ = _
            rw [take_getD _ [] k (by simpa using hlt)]; simp [List.getD, hlt]
          have HR := Lib.hid (OwnR.push (x := sameRow m s k) ((OwnI.store HM.out k s).bel (Bel.alloc (W := w1.setCell ⟨wr.heap.size, k, none⟩ (.int .i64 s))).out) ⟨by rw [hkl.out]; exact own_below hown Bel.out, fun j hj => by obtain ⟨e, k1, k2⟩ := HES.out.2 j hj; exact ⟨e, k1, k2.bel Bel.out⟩⟩ hgr (by rw [hkl.out]; exact hown3))
          have HB3 := Lib.hid (Below.app (hB.out.trans ((Bel.out : Below wr.heap.size wr _).mono hB.out.size)) (own_below hown Bel.out) hgr (by have := HG.out.size; simp; omega))
          go_wp2
          exact ⟨⟨k + 1, by omega, by go_num, by rw [ht.out]; exact HR.out, HB3⟩, by simp [intOf]; omega⟩
        · go_wp2
          go_ret
          exact ⟨_, rfl, by have h := hO.out; rwa [List.take_of_length_le (by simp; omega)] at h, hB.out⟩
    · have e0 : sameRuleAll n s = [] := by simp [sameRuleAll, hs]
      rw [e0]
      have hsn : inR s (-1) 3 = false := eq_false_of_ne_true hs
      have h2 : 1 ≤ n ∧ n ≤ 3 := by simpa [colOk, inR] using hc
      obtain ⟨h5, h6⟩ := h2
      have hcn : inR n 1 3 = true := hc
      clear hc hs e0
      go_enter Tryd.func78, Tryd.ntmps78
      go_wp2
      go_loopw [5, 6] (fun v i wr => i = .int .i64 0 ∧ Hid (OwnR wr w.heap.size v []) ∧ Hid (Below w.heap.size w wr)) (fun _ i _ => 0)
      case atStart => exact ⟨rfl, ⟨[], World.ownsRow_made w #[] 0 (Nat.le_refl _) (by decide) rfl, fun j hj => by simp at hj⟩, (Bel.out : Below w.heap.size w _)⟩
      case round =>
        obtain ⟨rfl, hO, hB⟩ := hrel
        go_wp2_with (go_at_call 76; refine (s_l1In _ _ _ _).mono ?_; rintro e w' ⟨rfl, rfl⟩)
        go_ret
        exact ⟨_, rfl, hO.out, hB.out⟩
  · have e0 : sameRuleAll n s = [] := by simp [sameRuleAll, hc]
    rw [e0]
    have hcn : inR n 1 3 = false := eq_false_of_ne_true hc
    clear hc e0
    go_enter Tryd.func78, Tryd.ntmps78
    go_wp2
    go_loopw [5, 6] (fun v i wr => i = .int .i64 0 ∧ Hid (OwnR wr w.heap.size v []) ∧ Hid (Below w.heap.size w wr)) (fun _ i _ => 0)
    case atStart => exact ⟨rfl, ⟨[], World.ownsRow_made w #[] 0 (Nat.le_refl _) (by decide) rfl, fun j hj => by simp at hj⟩, (Bel.out : Below w.heap.size w _)⟩
    case round =>
      obtain ⟨rfl, hO, hB⟩ := hrel
      by_cases h0 : 0 < n
      · go_wp2_with (go_at_call 76; refine (s_l1In _ _ _ _).mono ?_; rintro e w' ⟨rfl, rfl⟩)
        go_ret
        exact ⟨_, rfl, hO.out, hB.out⟩
      · go_wp2_with (go_at_call 76; refine (s_l1In _ _ _ _).mono ?_; rintro e w' ⟨rfl, rfl⟩)
        go_ret
        exact ⟨_, rfl, hO.out, hB.out⟩

set_option maxHeartbeats 1000000 in
theorem i_added (v0 v1 : Value) (a b : List Int) (w : World) (h0 : Ints w v0 a) (h1 : Ints w v1 b) (hl : b.length = a.length) (hn : a.length ≤ 3) (hs : ∀ j, j < a.length → -1000 ≤ a.getD j 0 ∧ a.getD j 0 ≤ 1000 ∧ -10 ≤ b.getD j 0 ∧ b.getD j 0 ≤ 10) :
    Calls Tryd.prog 83 #[v0, v1] w fun e w' => ∃ v, e = .returned v ∧ OwnI w' w.heap.size v (plus a b) ∧ Below w.heap.size w w' := by
  obtain ⟨A1, c1, rfl, hm1, hl1, hc1⟩ := h1.cells
  have HC := Lib.hid hc1; have HS := Lib.hid hs; clear hc1 hs
  have HL := Lib.hid hl; clear hl
  go_enter Tryd.func83, Tryd.ntmps83
  go_wp2_with fail
  refine (i_Clone _ a _ h0.at (by omega)).mono ?_
  rintro e w1 ⟨v, rfl, hO, hb⟩
  obtain ⟨A2, c2, rfl⟩ := hO.ints.form
  haveI := Bel.step (w := w) hb
  have HO := Lib.hid hO; clear hO
  have HB := Lib.hid hb; clear hb
  go_wp2
  go_loopw [12] (fun i wr => ∃ k : Nat, k ≤ a.length ∧ i = .int .i64 k ∧ Hid (OwnI wr w.heap.size (.slice A2 a.length c2) (mixed a b k)) ∧ Hid (Below w.heap.size w wr)) (fun i _ => a.length - (intOf i).toNat)
  case atStart => exact ⟨0, by omega, rfl, by rw [mixed_zero]; exact HO.out, (Bel.out : Below w.heap.size w _)⟩
  case round =>
    obtain ⟨k, hk, rfl, hR, hB⟩ := hrel
    have hba : (b.length : Int) ≤ a.length := by rw [HL.out]; omega
    have hab : (a.length : Int) ≤ b.length := by rw [HL.out]; omega
    by_cases hlt : k < a.length
    · obtain ⟨b1, o1, rfl, hx⟩ := HC.out k (by rw [HL.out]; exact hlt)
      obtain ⟨g, cap, e, hg1, hg2⟩ := World.ownsRow.form hR.out (by rw [mixed_length a b k HL.out hk]; omega)
      rw [mixed_length a b k HL.out hk] at e
      cases e
      haveI : Bel w wr := ⟨hB.out⟩
      replace hx := cell_at hx (W := wr)
      have hy := OwnI.cell hR.out k (by rw [mixed_length a b k HL.out hk]; exact hlt)
      rw [mixed_getD a b k HL.out hlt] at hy
      have hf := OwnI.frozen hR.out k
      obtain ⟨q1, q2, q3, q4⟩ := HS.out k hlt
      have HM := Lib.hid (mixed_set a b k HL.out hlt)
      generalize a.getD k 0 = x at hy q1 q2 HM
      generalize b.getD k 0 = y at hx q3 q4 HM
      have hk0 : (0 : Int) ≤ k := by omega
      have hk1 : (k : Int) < a.length := by omega
      have hk2 : (k : Int) < b.length := by omega
      go_wp2
      exact ⟨⟨k + 1, by omega, by go_num, by rw [← HM.out]; exact OwnI.store hR.out k (x + y), hB.out.setCell hg1 _⟩, by simp [intOf]; omega⟩
    · go_wp2
      go_ret
      exact ⟨_, rfl, by rw [← mixed_end a b k HL.out hlt]; exact hR.out, hB.out⟩

set_option maxHeartbeats 1000000 in
set_option maxRecDepth 100000 in
theorem i_after (v0 v1 v2 : Value) (u : List Int) (rule : List (List Int)) (word : List Int) (w : World) (h0 : Ints w v0 u) (h1 : Rows w v1 rule) (h2 : Ints w v2 word) (hn : u.length ≤ 3) (hf : fit u.length rule) (hw : among u.length word = true) (hl : word.length ≤ 6) (hb : within 100 u) :
    Calls Tryd.prog 50 #[v0, v1, v2] w fun e w' => ∃ v, e = .returned v ∧ OwnI w' w.heap.size v (after rule u word) ∧ (after rule u word).length = u.length ∧ Below w.heap.size w w' := by
  obtain ⟨A1, c1, rfl, hm1, hl1, hc1⟩ := h1.cells
  obtain ⟨A2, c2, rfl, hm2, hl2, hc2⟩ := h2.cells
  have HC1 := Lib.hid hc1; have HC2 := Lib.hid hc2; have HF := Lib.hid hf; have HW := Lib.hid hw; have HBD := Lib.hid hb; clear hc1 hc2 hf hw hb
  go_enter Tryd.func50, Tryd.ntmps50
  go_wp2_with fail
  refine (i_Clone _ u _ h0.at (by omega)).mono ?_
  rintro e w1 ⟨v, rfl, hO, hb⟩
  haveI := Bel.step (w := w) hb
  have HO := Lib.hid hO; have HB := Lib.hid hb; clear hO hb
  go_wp2
  go_loopw [7, 14] (fun v i wr => ∃ k : Nat, k ≤ word.length ∧ i = .int .i64 k ∧ ∃ cur, Hid (OwnI wr w.heap.size v cur ∧ cur.length = u.length ∧ within (100 + 10 * k) cur ∧ after rule cur (word.drop k) = after rule u word) ∧ Hid (Below w.heap.size w wr)) (fun _ i _ => word.length - (intOf i).toNat)
  case atStart => exact ⟨0, by omega, rfl, u, ⟨HO.out, rfl, by simpa using HBD.out, rfl⟩, (Bel.out : Below w.heap.size w _)⟩
  case round =>
    obtain ⟨k, hk, rfl, cur, hR, hB⟩ := hrel
    haveI : Bel w wr := ⟨hB.out⟩
    by_cases hlt : k < word.length
    · obtain ⟨b2, o2, rfl, hx⟩ := HC2.out k hlt
      have hq := among_at HW.out k hlt
      have eg : word.getD k 0 = word[k] := by simp [List.getD, hlt]
      rw [eg] at hx
      have HD := Lib.hid (after_drop rule cur word k hlt)
      generalize word[k] = c at hx hq HD
      obtain ⟨q1, q2⟩ := hq
      obtain ⟨ci, rfl⟩ := Int.eq_ofNat_of_zero_le q1
      have hcr : ci < rule.length := by rw [HF.out.1]; omega
      obtain ⟨b1, o1, A', c', rfl, hy, hi⟩ := HC1.out ci hcr
      have hrr := HF.out.2 ci q1 q2
      have er : ruleRow rule ci = rule.getD ci [] := by simp [ruleRow]
      rw [er] at hrr HD
      generalize rule.getD ci [] = row at hy hi hrr HD
      replace hx := cell_at hx (W := wr)
      replace hy := cell_at hy (W := wr)
      have hcr' : (ci : Int) < rule.length := by omega
      clear er eg
      have HRR := Lib.hid hrr; clear hrr
      go_wp2_with fail
      refine (i_added _ _ cur row _ hR.out.1.ints hi.at (by rw [hR.out.2.1]; exact HRR.out.1) (by rw [hR.out.2.1]; exact hn) (fun j _ => by have h3 := hR.out.2.2.1 j; have h4 := HRR.out.2 j; omega)).mono ?_
      rintro e w2 ⟨v2, rfl, hO2, hb2⟩
      haveI := Bel.step (w := w) hb2
      have HO2 := Lib.hid hO2; have HB2 := Lib.hid hb2; clear hO2 hb2
      go_wp2
      refine ⟨⟨k + 1, by omega, by go_num, plus cur row, ⟨HO2.out.mono hB.out.size, ?_, ?_, ?_⟩, (Bel.out : Below w.heap.size w _)⟩, by simp [intOf]; omega⟩
      · rw [plus_length _ _ (by rw [hR.out.2.1]; exact HRR.out.1)]; exact hR.out.2.1
      · have := within_plus hR.out.2.2.1 (by rw [hR.out.2.1]; exact HRR.out.1) HRR.out.2
        have e : (100 + 10 * ((k + 1 : Nat) : Int)) = 100 + 10 * (k : Int) + 10 := by omega
        rw [e]; exact this
      · rw [← HD.out]; exact hR.out.2.2.2
    · go_wp2
      go_ret
      have e := hR.out.2.2.2
      rw [after_end _ _ _ _ hlt] at e
      exact ⟨_, rfl, by rw [← e]; exact hR.out.1, by rw [← e]; exact hR.out.2.1, hB.out⟩

theorem Ints.take {w : World} {A : Option Addr} {n c : Nat} {xs : List Int} (h : Ints w (.slice A n c) xs) (k : Nat) (hk : k ≤ xs.length) : Ints w (.slice A k c) (xs.take k) := by
  obtain ⟨hm, A', c', e, hl, hz, hc⟩ := h
  cases e
  refine ⟨by rw [List.length_take]; omega, A, c, by rw [List.length_take, Nat.min_eq_left hk], by rw [List.length_take]; omega, hz, fun j hj => ?_⟩
  rw [List.length_take] at hj
  obtain ⟨b, o, e, hx⟩ := hc j (by omega)
  refine ⟨b, o, e, ?_⟩
  have : (xs.take k).getD j 0 = xs.getD j 0 := by simp [List.getD, List.getElem?_take, show j < k by omega]
  rw [this]; exact hx

set_option maxHeartbeats 1000000 in
set_option maxRecDepth 100000 in
theorem i_ruleWays (v0 v1 v2 : Value) (u : List Int) (rule : List (List Int)) (word : List Int) (w : World) (h0 : Ints w v0 u) (h1 : Rows w v1 rule) (h2 : Ints w v2 word) (hn : u.length ≤ 3) (hf : fit u.length rule) (hw : among u.length word = true) (hl : word.length ≤ 6) (hb : within 100 u) :
    Calls Tryd.prog 49 #[v0, v1, v2] w fun e w' => e = .returned (.int .i64 (ways rule u word)) ∧ Below w.heap.size w w' := by
  obtain ⟨A2, c2, rfl, hm2, hl2, hc2⟩ := h2.cells
  have HC2 := Lib.hid hc2; have HF := Lib.hid hf; have HW := Lib.hid hw; have HBD := Lib.hid hb; clear hc2 hf hw hb
  go_enter Tryd.func49, Tryd.ntmps49
  go_wp2
  go_loopw [7, 12] (fun v i wr => ∃ k : Nat, k ≤ word.length ∧ i = .int .i64 k ∧ ∃ n : Int, v = .int .i64 n ∧ Hid (n = ways rule u (word.take k) ∧ n ≤ 200 ^ k) ∧ 0 < n ∧ Hid (Below w.heap.size w wr)) (fun _ i _ => word.length - (intOf i).toNat)
  case atStart => exact ⟨0, by omega, rfl, 1, rfl, ⟨rfl, by decide⟩, by decide, Below.refl _ _⟩
  case round =>
    obtain ⟨k, hk, rfl, n, rfl, hR, hpos, hB⟩ := hrel
    haveI : Bel w wr := ⟨hB.out⟩
    by_cases hlt : k < word.length
    · obtain ⟨b2, o2, rfl, hx⟩ := HC2.out k hlt
      have hq := among_at HW.out k hlt
      have eg : word.getD k 0 = word[k] := by simp [List.getD, hlt]
      rw [eg] at hx
      have HD := Lib.hid (ways_take rule u word k hlt)
      generalize word[k] = c at hx hq HD
      obtain ⟨q1, q2⟩ := hq
      obtain ⟨ci, rfl⟩ := Int.eq_ofNat_of_zero_le q1
      replace hx := cell_at hx (W := wr)
      have hk0 : (0 : Int) ≤ k := by omega
      have hk1 : (k : Int) ≤ c2 := by omega
      clear eg
      go_wp2_with fail
      have h2k : Ints w (.slice (some ⟨b2, o2, none⟩) k c2) (word.take k) := h2.take k hk
      refine (i_after _ _ _ u rule (word.take k) _ h0.at h1.at h2k.at hn HF.out (among_take HW.out k) (by rw [List.length_take]; omega) HBD.out).mono ?_
      rintro e w2 ⟨v2, rfl, hO2, hlen, hb2⟩
      have hin := (after_within u.length rule HF.out 100 u (word.take k) rfl HBD.out (among_take HW.out k)).2 ci
      rw [List.length_take, Nat.min_eq_left hk] at hin
      rw [Int.toNat_natCast] at HD
      obtain ⟨g, cap, e, hg1, hg2⟩ := World.ownsRow.form hO2 (by omega)
      subst e
      haveI := Bel.step (w := w) hb2
      have hy := OwnI.cell hO2 ci (by omega)
      generalize (after rule u (word.take k)).getD ci 0 = x at hy hin HD
      rw [hlen] at hO2 ⊢
      have hR2 := hR.out.2
      have hp := pow200 k (by omega)
      have hx1 : x ≤ 200 := by omega
      have hfit := mul_fits (n := n) (m := max 0 x) (N := 200 ^ k) (M := 200) (by omega) hR2 (by omega) (by omega)
      have hfit2 : n * max 0 x ≤ 320000000000 * 200 := Int.le_trans hfit.2 (Int.mul_le_mul_of_nonneg_right hp (by decide))
      have hfit3 : n * max 0 x ≤ 64000000000000 := by simpa using hfit2
      obtain ⟨hfit1, hfit4⟩ := hfit
      have HFIT4 := Lib.hid hfit4
      have HO2 := Lib.hid hO2; have HB2 := Lib.hid hb2; have HLEN := Lib.hid hlen
      clear hO2 hb2 hlen hp hfit2 hR2 hin hfit4
      have hci : (ci : Int) < u.length := q2
      go_wp2
      · have hz : (n * max 0 x == 0) = true := by assumption
        have hz2 : ways rule u (word.take (k + 1)) = 0 := by rw [HD.out, ← hR.out.1]; simpa using hz
        go_ret
        exact ⟨by rw [ways_zero rule u word (k + 1) hz2]; rfl, (Bel.out : Below w.heap.size w _)⟩
      · have hz : (n * max 0 x == 0) = false := by assumption
        have hz2 : n * max 0 x ≠ 0 := by simpa using hz
        refine ⟨⟨k + 1, by omega, by go_num, n * max 0 x, rfl, ⟨by rw [HD.out, ← hR.out.1], by rw [Int.pow_succ]; exact HFIT4.out⟩, by omega, (Bel.out : Below w.heap.size w _)⟩, by simp [intOf]; omega⟩
    · go_wp2
      go_ret
      exact ⟨by rw [hR.out.1, List.take_of_length_le (by omega)]; rfl, hB.out⟩
end Go.Proofs.YtpfncjaclgcbnaaDoor.Ub
