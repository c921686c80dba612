/- Contracts of the texts of places. -/
import Derived.Test.YtpfncjaclgcbnaaDoorF10
set_option linter.unusedVariables false
set_option linter.unusedSimpArgs false
namespace Go.Proofs.YtpfncjaclgcbnaaDoor.Ub
open Go.RowKit Go.Proofs.YtpfncjaclgcbnaaDoorW

/-- The library's table of powers of ten lies in the memory. -/
def Env (w : World) : Prop := Lib.TabIs Tryd.prog w "internal/strconv.uint64pow10" .u64 Lib.pow10Tab
theorem Env.ext {w W : World} (h : Env w) (hb : Below w.heap.size w W) : Env W := by
  unfold Env Lib.TabIs World.var? at *
  cases hg : Tryd.prog.globalNamed "internal/strconv.uint64pow10" with
  | none => rw [hg] at h; cases h
  | some g =>
    rw [hg] at h
    simp only [Option.bind_some] at h ⊢
    cases ho : w.heap[g]? with
    | none => rw [ho] at h; cases h
    | some o => rw [(hb.block g (Array.getElem?_eq_some_iff.1 ho).1).trans ho]; rw [ho] at h; exact h
theorem Env.at {w W : World} (h : Env w) [b : Bel w W] : Env W := h.ext b.out
theorem below_grow (w : World) (os : Array Obj) : Below w.heap.size w (Go.Sort.grow w os) :=
  ⟨rfl, rfl, rfl, by simp [Go.Sort.grow], fun k hk => by simp only [Go.Sort.grow]; rw [Array.getElem?_append_left hk]⟩
theorem i_Itoa (n : Int) (h0 : -1000000 ≤ n) (h1 : n ≤ 1000000) (w : World) (he : Env w) : Calls Tryd.prog 72 #[.int .i64 n] w fun e w' => e = .returned (.string ⟨(Lib.itoa n).toArray⟩) ∧ Below w.heap.size w w' := by
  refine (Tryd.strconv_Itoa n (by omega) (by omega) w he).mono ?_
  rintro e w' ⟨rfl, k, os, rfl⟩
  have h := below_drewN w k
  exact ⟨rfl, h.trans ((below_grow (w.drewN k) os).mono h.size)⟩

/-- The letters of a word, or a dot. -/
def letters (xs : List Int) : List UInt8 := xs.map fun c => UInt8.ofNat (97 + c.toNat)
def wordT : List Int → List UInt8
  | [] => [46]
  | x :: r => letters (x :: r)
/-- The text of a place. -/
def placeT (p : Pl) : List UInt8 := match placeOk p with
  | true => rowT p.st ++ ([32] ++ (Lib.itoa p.step ++ ([32] ++ wordT p.word)))
  | false => []
theorem placeT_ok {p : Pl} (h : placeOk p = true) : placeT p = rowT p.st ++ ([32] ++ (Lib.itoa p.step ++ ([32] ++ wordT p.word))) := by unfold placeT; rw [h]
theorem placeT_not {p : Pl} (h : placeOk p = false) : placeT p = [] := by unfold placeT; rw [h]
theorem wordT_ne : ∀ {xs : List Int}, xs ≠ [] → wordT xs = letters xs
  | [], h => absurd rfl h
  | _ :: _, _ => rfl
theorem letters_len (xs : List Int) : (letters xs).length = xs.length := by simp [letters]
theorem wordT_len : ∀ xs : List Int, (wordT xs).length ≤ xs.length + 1
  | [] => by simp [wordT]
  | x :: r => by rw [wordT_ne (by simp), letters_len]; omega
theorem letters_push (xs : List Int) (x : Int) : letters (xs ++ [x]) = letters xs ++ by1 (97 + x.toNat) := by simp [letters, by1]

theorem place_facts {p : Pl} (h : placeOk p = true) : startOk p.st = true ∧ stepOk p.step = true ∧ (1 ≤ p.st.length ∧ p.st.length ≤ 3) ∧ (∀ j, j < p.st.length → 0 ≤ p.st.getD j 0 ∧ p.st.getD j 0 ≤ 10) ∧ (-1 ≤ p.step ∧ p.step ≤ 3) ∧ p.word.length ≤ 6 ∧ ∀ j, j < p.word.length → 0 ≤ p.word.getD j 0 ∧ p.word.getD j 0 < 3 := by
  simp only [placeOk, Bool.and_eq_true] at h
  obtain ⟨h1, h2, h3, _⟩ := h
  obtain ⟨_, hw, k1, k2⟩ := start_within h1
  refine ⟨h1, h2, ⟨k1, k2⟩, fun j hj => ⟨?_, (hw j).2⟩, ?_, ?_, fun j hj => ?_⟩
  · simp only [startOk, urnOk, Bool.and_eq_true, each, List.all_eq_true] at h1
    have := h1.2.1 p.st[j] (List.getElem_mem hj)
    rw [show p.st.getD j 0 = p.st[j] from by simp [List.getD, hj]]
    simp [inR] at this; omega
  · simpa [stepOk, inR] using h2
  · simp only [wordOk, Bool.and_eq_true, decide_eq_true_eq] at h3; omega
  · simp only [wordOk, among, Bool.and_eq_true, List.all_eq_true] at h3
    have := h3.1 p.word[j] (List.getElem_mem hj)
    rw [show p.word.getD j 0 = p.word[j] from by simp [List.getD, hj]]
    simp [inC] at this; omega

set_option maxHeartbeats 1000000 in
set_option maxRecDepth 100000 in
theorem s_PlaceText (v : Value) (p : Pl) (w : World) (h : PlI w v p) :
    Calls Tryd.prog 43 #[v] w fun e w' => e = .returned (.string ⟨(placeT p).toArray⟩) ∧ Below w.heap.size w w' := by
  obtain ⟨A0, c0, A2, c2, rfl, i0, i2⟩ := h.open
  by_cases hok : placeOk p = true
  · have hn : (!placeOk p) = false := by simp [hok]
    have HT := Lib.hid (placeT_ok hok)
    obtain ⟨_, _, hl, hst, hsp, hwl, hwd⟩ := place_facts hok
    have HW := Lib.hid hwd; have HS := Lib.hid hst; clear hwd hst
    go_enter Tryd.func43, Tryd.ntmps43
    go_wp2_with fail
    refine (s_PlaceOk _ p _ (PlI.mk i0.at i2.at)).mono ?_
    rintro e w1 ⟨rfl, hb1⟩
    have t0 : w1.cell? ⟨w.heap.size, 0, none⟩ = some (.slice A0 p.st.length c0) := (bcell hb1).1 _ _ (by simp) |>.trans (by simp)
    have t1 : w1.cell? ⟨w.heap.size, 1, none⟩ = some (.int .i64 p.step) := (bcell hb1).1 _ _ (by simp) |>.trans (by simp)
    have t2 : w1.cell? ⟨w.heap.size, 2, none⟩ = some (.slice A2 p.word.length c2) := (bcell hb1).1 _ _ (by simp) |>.trans (by simp)
    haveI b1 : Bel w w1 := Bel.step (w := w) hb1
    clear hb1
    go_wp2_with fail
    go_loopw [3, 4] (fun v i wr => ∃ k : Nat, k ≤ p.word.length ∧ i = .int .i64 k ∧ v = .string ⟨(wordT (p.word.take k)).toArray⟩ ∧ Hid (Below w1.heap.size w1 wr)) (fun _ i _ => p.word.length - (intOf i).toNat)
    case atStart => exact ⟨0, by omega, rfl, rfl, Below.refl _ _⟩
    case round =>
      obtain ⟨k, hk, rfl, rfl, hB⟩ := hrel
      haveI : Bel w1 wr := ⟨hB.out⟩
      haveI : Bel w wr := Bel.step (w := w) hB.out
      replace t0 := cell_at t0 (W := wr)
      replace t1 := cell_at t1 (W := wr)
      replace t2 := cell_at t2 (W := wr)
      by_cases hlt : k < p.word.length
      · obtain ⟨x, hxk⟩ : ∃ x : Nat, p.word.getD k 0 = x := ⟨(p.word.getD k 0).toNat, by have := HW.out k hlt; omega⟩
        have hb := HW.out k hlt
        rw [hxk] at hb
        have HTK := Lib.hid (take_getD p.word 0 k hlt); rw [hxk] at HTK
        obtain ⟨_, _, e, _, _, hc⟩ := i2.cells
        cases e
        obtain ⟨b, o, rfl, hq⟩ := hc k hlt
        rw [hxk] at hq
        replace hq := cell_at hq (W := wr)
        clear hc
        by_cases h0 : k = 0
        · subst h0
          rw [Nat.add_zero] at hq
          go_wp2_with fail
          obtain rfl | rfl | rfl : x = 0 ∨ x = 1 ∨ x = 2 := by omega
          all_goals
            go_quiet (fail)
            go_wp2
            exact ⟨⟨1, by omega, by go_num, by rw [HTK.out, List.take_zero, List.nil_append]; exact congrArg Value.string (by decide), (Bel.out : Below w1.heap.size w1 _)⟩, by simp [intOf]; omega⟩
        · have hkp : 0 < (k : Int) := by omega
          have hkz : ((k : Int) == 0) = false := by simp; omega
          have hwk : wordT (p.word.take k) = letters (p.word.take k) := wordT_ne (by intro e; rw [List.take_eq_nil_iff] at e; rcases e with e | e; exact h0 e; rw [e] at hlt; exact absurd hlt (by simp))
          have hwk1 : Hid (wordT (p.word.take (k + 1)) = letters (p.word.take k) ++ by1 (97 + x)) := by
            show _ = _
            rw [HTK.out, wordT_ne (by simp), letters_push]; rfl
          have hsz : (9223372036854775807 < (letters (p.word.take k)).length + 1) = False := eq_false (by rw [letters_len, List.length_take]; omega)
          rw [hwk]
          go_wp2_with fail
          obtain rfl | rfl | rfl : x = 0 ∨ x = 1 ∨ x = 2 := by omega
          all_goals
            go_quiet (fail)
            go_wp2
            exact ⟨⟨k + 1, by omega, by go_num, by rw [hwk1.out, ← mk_add]; exact congrArg Value.string (congrArg _ (by decide)), (Bel.out : Below w1.heap.size w1 _)⟩, by simp [intOf]; omega⟩
      · obtain rfl : k = p.word.length := by omega
        rw [List.take_of_length_le (Nat.le_refl _)]
        have hB1 := hB.out
        have hA := rowT_take_len p.st p.st.length (by omega) (fun j hj => by have := HS.out j hj; omega)
        rw [List.take_of_length_le (Nat.le_refl _)] at hA
        have hI := itoa_len (B := 3) (x := p.step) (by omega) (by omega)
        have hWl := wordT_len p.word
        have z1 : (9223372036854775807 < (rowT p.st).length + 1) = False := eq_false (by omega)
        have z2 : (9223372036854775807 < (rowT p.st).length + 1 + (Lib.itoa p.step).length) = False := eq_false (by omega)
        have z3 : (9223372036854775807 < (rowT p.st).length + 1 + (Lib.itoa p.step).length + 1) = False := eq_false (by omega)
        have z4 : (9223372036854775807 < (rowT p.st).length + 1 + (Lib.itoa p.step).length + 1 + (wordT p.word).length) = False := eq_false (by omega)
        clear hA hI hWl
        go_wp2_with fail
        go_region_held3 (fun w' => w'.cell? ⟨w.heap.size, 0, none⟩ = some (.slice A0 p.st.length c0) ∧ w'.cell? ⟨w.heap.size, 1, none⟩ = some (.int .i64 p.step))
          (first | go_keep | exact ⟨cell_at t0, cell_at t1⟩)
          (first
            | (go_at_call 79; refine (s_l15Row _ p.st _ i0.at (by omega) (by omega) (fun j hj => by have := HS.out j hj; omega)).mono ?_; rintro e w2 ⟨rfl, hb2⟩; haveI : Bel wr w2 := Bel.step (w := wr) hb2; haveI : Bel w w2 := Bel.step (w := w) hb2)
            | (go_at_call 80; refine (s_l15Step p.step (by omega) (by omega) _).mono ?_; rintro e w3 ⟨rfl, hb3⟩; haveI : Bel wr w3 := Bel.step (w := wr) hb3; haveI : Bel w w3 := Bel.step (w := w) hb3))
        go_wp2
        exact bodyPost_ret (v := .string ⟨(rowT p.st ++ ([32] ++ (Lib.itoa p.step ++ ([32] ++ wordT p.word)))).toArray⟩) (by simp only [← mk_add, ← ByteArray.append_assoc]; simp [results, Tryd.results43, go_sem]) rfl ⟨by rw [HT.out], Bel.out⟩
  · have hn : (!placeOk p) = true := by simp [hok]
    have HT := Lib.hid (placeT_not (eq_false_of_ne_true hok))
    go_enter Tryd.func43, Tryd.ntmps43
    go_wp2_with fail
    refine (s_PlaceOk _ p _ (PlI.mk i0.at i2.at)).mono ?_
    rintro e w1 ⟨rfl, hb1⟩
    have HB1 : Hid (Below w.heap.size w w1) := (Bel.step (w := w) hb1).out
    go_wp2
    exact bodyPost_ret (v := .string ⟨#[]⟩) (by simp [results, Tryd.results43, go_sem]) rfl ⟨by rw [HT.out], HB1.out⟩
end Go.Proofs.YtpfncjaclgcbnaaDoor.Ub
