/- Contracts of texts of numbers. -/
import Derived.Test.YtpfncjaclgcbnaaDoorF8
import Derived.Test.YtpfncjaclgcbnaaDoorShelf
set_option linter.unusedVariables false
set_option linter.unusedSimpArgs false
namespace Go.Proofs.YtpfncjaclgcbnaaDoor.Ub
open Go.RowKit Go.Proofs.YtpfncjaclgcbnaaDoorW

theorem u8_wrap {x : Int} (h1 : 0 ≤ x) (h2 : x ≤ 255) : IntKind.u8.wrap x = x := IntWalk.u8_in _ ⟨h1, h2⟩
/-- One byte. -/
def by1 (n : Nat) : List UInt8 := [UInt8.ofNat n]
theorem by1_len (n : Nat) : (by1 n).length = 1 := rfl
theorem add_texts (x y : List UInt8) (h : x.length + y.length ≤ 9223372036854775807) : (9223372036854775807 < x.length + y.length) = False := eq_false (by omega)
/-- One byte as a text. -/
theorem conv_one (w : World) (g : Nat) (x : Int) (n : Nat) (hx : x = n) (hn : n < 256) (h : w.cell? ⟨g, 0, none⟩ = some (.int .u8 x)) : (convert 22 9 (.slice (some ⟨g, 0, none⟩) 1 1)).run Tryd.prog w = .ok (.string ⟨(by1 n).toArray⟩) w := by
  subst hx
  refine run_convert_bytes_back w _ _ 5 ⟨g, 0, none⟩ 1 [UInt8.ofNat n] Tryd.underlying22 Tryd.underlying5 Tryd.underlying9 (fun j hj => ?_)
  obtain rfl : j = 0 := by simpa using hj
  simpa [Addr.add, UInt8.toNat_ofNat, Nat.mod_eq_of_lt hn] using h
theorem dec_small {n : Nat} (h : n < 10) : Lib.decDigits n = by1 (48 + n) := by rw [Lib.decDigits, dif_pos h]; rfl
theorem dec_big {n : Nat} (h : ¬ n < 10) : Lib.decDigits n = Lib.decDigits (n / 10) ++ by1 (48 + n % 10) := by rw [Lib.decDigits, dif_neg h]; rfl
theorem dec_len : ∀ n : Nat, (Lib.decDigits n).length ≤ n + 1 := fun n => by
  induction n using Nat.strongRecOn with
  | ind n ih =>
    by_cases h : n < 10
    · rw [dec_small h, by1_len]; omega
    · rw [dec_big h, List.length_append, by1_len]
      have := ih (n / 10) (by omega)
      omega

set_option maxHeartbeats 1000000 in
set_option maxRecDepth 100000 in
theorem s_l1Number (n : Nat) (hn : n ≤ 1000000000000000) (w : World) : Calls Tryd.prog 96 #[.int .i64 n] w fun e w' => e = .returned (.string ⟨(Lib.decDigits n).toArray⟩) ∧ Below w.heap.size w w' := by
  induction n using Nat.strongRecOn generalizing w with
  | ind n ih =>
    go_enter Tryd.func96, Tryd.ntmps96
    by_cases h : n < 10
    · have hl : (n : Int) < 10 := by omega
      have hm : max (n : Int) 0 = n := by omega
      have hc := fun (W : World) (g : Nat) => conv_one W g (48 + (n : Int)) (48 + n) (by omega) (by omega)
      go_wp2_with fail
      exact bodyPost_ret (v := .string ⟨(by1 (48 + n)).toArray⟩) (by simp [results, Tryd.results96, go_sem]) rfl ⟨by rw [dec_small h], Bel.out⟩
    · have hl : ¬ (n : Int) < 10 := by omega
      have ihn := ih (n / 10) (by omega) (by omega)
      rw [dec_big h]
      have hlen := dec_len (n / 10)
      have hq : (n : Int).tdiv 10 = (n / 10 : Nat) := by rw [Int.tdiv_eq_ediv_of_nonneg (by omega)]; omega
      have hr : (n : Int).tmod 10 = (n % 10 : Nat) := by rw [Int.tmod_eq_emod_of_nonneg (by omega)]; omega
      have hw1 : IntKind.i64.wrap ((n / 10 : Nat) : Int) = (n / 10 : Nat) := i64_wrap (by omega) (by omega)
      have hr10 : n % 10 < 10 := Nat.mod_lt _ (by decide)
      have hlq : n / 10 ≤ 1000000000000000 := by omega
      clear ih
      generalize n / 10 = q at *
      generalize n % 10 = r at *
      have hc := fun (W : World) (g : Nat) => conv_one W g (48 + (r : Int)) (48 + r) (by omega) (by omega)
      have hw2 : wrap64 (48 + (r : Int)) = 48 + r := IntWalk.wrap64_in _ (by omega)
      have hw3 : IntKind.u8.wrap (48 + (r : Int)) = 48 + r := u8_wrap (by omega) (by omega)
      have hsz := add_texts (Lib.decDigits q) (by1 (48 + r)) (by rw [by1_len]; omega)
      have IH := Lib.hid ihn; clear ihn
      go_wp2_with fail
      refine PrintLast.start_ (n := 11) (S := fun w' => True) (ds := []) #[false, false, false, false, false, false, false, false, false, false, false] (by kernel_rfl) rfl rfl trivial (fun hHeld => ?_)
      refine PrintLast.pure_ (i := 0) (N := (some 11)) (v := ?_) (a' := ?_) #[true, false, false, false, false, false, false, false, false, false, false] rfl rfl (by kernel_rfl) (fun _ _ _ h => h) (Or.inl ⟨by rfl, ?_⟩) ?_ ?_
      rotate_left
      · (intro w'; go_simp; with_reducible rfl)
      rotate_left
      · (simp only [Act.put, List.setIfInBounds_toArray, List.set_cons_zero, List.set_cons_succ, PrintLast.i64_w, PrintLast.i32_w]; rfl)
      refine PrintLast.pure_ (i := 1) (N := (some 12)) (v := ?_) (a' := ?_) #[true, true, false, false, false, false, false, false, false, false, false] rfl rfl (by kernel_rfl) (fun _ _ _ h => h) (Or.inl ⟨by rfl, ?_⟩) ?_ ?_
      rotate_left
      · (intro w'; go_simp; with_reducible rfl)
      rotate_left
      · (simp only [Act.put, List.setIfInBounds_toArray, List.set_cons_zero, List.set_cons_succ, PrintLast.i64_w, PrintLast.i32_w]; rfl)
      refine PrintLast.pure_ (i := 3) (N := (some 14)) (v := ?_) (a' := ?_) #[true, true, false, true, false, false, false, false, false, false, false] rfl rfl (by kernel_rfl) (fun _ _ _ h => h) (Or.inl ⟨by rfl, ?_⟩) ?_ ?_
      rotate_left
      · (intro w'; go_simp; with_reducible rfl)
      rotate_left
      · (simp only [Act.put, List.setIfInBounds_toArray, List.set_cons_zero, List.set_cons_succ, PrintLast.i64_w, PrintLast.i32_w]; rfl)
      refine PrintLast.pure_ (i := 4) (N := (some 15)) (v := ?_) (a' := ?_) #[true, true, false, true, true, false, false, false, false, false, false] rfl rfl (by kernel_rfl) (fun _ _ _ h => h) (Or.inl ⟨by rfl, ?_⟩) ?_ ?_
      rotate_left
      · (intro w'; go_simp; with_reducible rfl)
      rotate_left
      · (simp only [Act.put, List.setIfInBounds_toArray, List.set_cons_zero, List.set_cons_succ, PrintLast.i64_w, PrintLast.i32_w]; rfl)
      refine PrintLast.pure_ (i := 5) (N := (some 16)) (v := ?_) (a' := ?_) #[true, true, false, true, true, true, false, false, false, false, false] rfl rfl (by kernel_rfl) (fun _ _ _ h => h) (Or.inl ⟨by rfl, ?_⟩) ?_ ?_
      rotate_left
      · (intro w'; go_simp; with_reducible rfl)
      rotate_left
      · (simp only [Act.put, List.setIfInBounds_toArray, List.set_cons_zero, List.set_cons_succ, PrintLast.i64_w, PrintLast.i32_w]; rfl)
      refine PrintLast.pure_ (i := 6) (N := (some 17)) (v := ?_) (a' := ?_) #[true, true, false, true, true, true, true, false, false, false, false] rfl rfl (by kernel_rfl) (fun _ _ _ h => h) (Or.inl ⟨by rfl, ?_⟩) ?_ ?_
      rotate_left
      · (intro w'; go_simp; with_reducible rfl)
      rotate_left
      · (simp only [Act.put, List.setIfInBounds_toArray, List.set_cons_zero, List.set_cons_succ, PrintLast.i64_w, PrintLast.i32_w]; rfl)
      refine PrintLast.join_ (σ := Value) 2 #[true, true, true, true, true, true, true, true, true, false, false] (fun s_ => [(13, .string ⟨(Lib.decDigits q).toArray⟩), (18, s_), (19, .string ⟨(by1 (48 + r)).toArray⟩)]) (fun s_ w' => True ∧ Below w.heap.size w w') ?_ ?_
      rotate_left
      · intro hCont
        refine PrintLast.two_ (i := 2) (j := 7) (Ni := some 13) (Nj := some 18) #[true, true, true, true, true, true, true, false, false, false, false] #[true, true, false, true, true, true, true, true, false, false, false] rfl rfl rfl rfl (by kernel_rfl) (by decide) (by decide) (fun K hK => ?_) (fun K hK => ?_)
        · skip
          refine PrintLast.goes_ Tryd.func96 (by kernel_rfl) rfl #[.int .i64 q] (by rfl) rfl rfl (by (try simp only [List.map_toArray, List.map_cons, List.map_nil]); first | done | rfl) ?_
          refine (IH.out _).mono ?_
          rintro e w1 ⟨rfl, hb1⟩
          refine ⟨_, rfl, ?_⟩
          refine hK.out _ _ trivial (fun hHeld => ?_)
          clear hK K
          refine PrintLast.norm_ (a' := ?_) ?_ ?_
          rotate_left
          · (show Act.put _ (some 13) _ = _; simp only [Act.put, List.setIfInBounds_toArray, List.set_cons_zero, List.set_cons_succ, PrintLast.i64_w, PrintLast.i32_w]; rfl)
          refine PrintLast.one_ (i := 7) (N := (some 18)) #[true, true, true, true, true, true, true, true, false, false, false] rfl rfl (by kernel_rfl) (by decide) (fun K hK => ?_)
          refine PrintLast.value_ (w1 := ?_) (v := ?_) (by rfl) rfl ?_ ?_
          rotate_left 2
          · (go_simp; constructor <;> rfl)
          refine hK.out _ _ trivial (fun hHeld => ?_)
          clear hK K
          refine PrintLast.norm_ (a' := ?_) ?_ ?_
          rotate_left
          · (show Act.put _ (some 18) _ = _; simp only [Act.put, List.setIfInBounds_toArray, List.set_cons_zero, List.set_cons_succ, PrintLast.i64_w, PrintLast.i32_w]; rfl)
          refine PrintLast.one_ (i := 8) (N := (some 19)) #[true, true, true, true, true, true, true, true, true, false, false] rfl rfl (by kernel_rfl) (by decide) (fun K hK => ?_)
          refine PrintLast.value_ (w1 := ?_) (v := ?_) (by rfl) rfl ?_ ?_
          rotate_left 2
          · (go_simp; constructor <;> rfl)
          refine hK.out _ _ trivial (fun hHeld => ?_)
          clear hK K
          refine PrintLast.norm_ (a' := ?_) ?_ ?_
          rotate_left
          · (show Act.put _ (some 19) _ = _; simp only [Act.put, List.setIfInBounds_toArray, List.set_cons_zero, List.set_cons_succ, PrintLast.i64_w, PrintLast.i32_w]; rfl)
          haveI := Bel.step (w := w) hb1
          exact PrintLast.norm_ (by simp only [PrintLast.putAll, Act.put, List.setIfInBounds_toArray, List.set_cons_zero, List.set_cons_succ]) (hCont (.slice (some ⟨w1.heap.size, 0, none⟩) 1 1) _ ⟨hHeld, Bel.out⟩)
        · skip
          refine PrintLast.value_ (w1 := ?_) (v := ?_) (by rfl) rfl ?_ ?_
          rotate_left 2
          · (go_simp; constructor <;> rfl)
          refine hK.out _ _ trivial (fun hHeld => ?_)
          clear hK K
          refine PrintLast.norm_ (a' := ?_) ?_ ?_
          rotate_left
          · (show Act.put _ (some 18) _ = _; simp only [Act.put, List.setIfInBounds_toArray, List.set_cons_zero, List.set_cons_succ, PrintLast.i64_w, PrintLast.i32_w]; rfl)
          have hcell : (w.alloc (.cells #[.int .u8 (48 + (r : Int))] 5)).drew.cell? ⟨w.heap.size, 0, none⟩ = some (.int .u8 (48 + (r : Int))) := by simp
          refine PrintLast.two_ (i := 2) (j := 8) (Ni := some 13) (Nj := some 19) #[true, true, true, true, true, true, true, true, false, false, false] #[true, true, false, true, true, true, true, true, true, false, false] rfl rfl rfl rfl (by kernel_rfl) (by decide) (by decide) (fun K hK => ?_) (fun K hK => ?_)
          · skip
            refine PrintLast.goes_ Tryd.func96 (by kernel_rfl) rfl #[.int .i64 q] (by rfl) rfl rfl (by (try simp only [List.map_toArray, List.map_cons, List.map_nil]); first | done | rfl) ?_
            refine (IH.out _).mono ?_
            rintro e w1 ⟨rfl, hb1⟩
            refine ⟨_, rfl, ?_⟩
            haveI := Bel.step (w := (w.alloc (.cells #[.int .u8 (48 + (r : Int))] 5)).drew) hb1
            haveI := Bel.step (w := w) hb1
            replace hcell := cell_at hcell (W := w1)
            refine hK.out _ _ trivial (fun hHeld => ?_)
            clear hK K
            refine PrintLast.norm_ (a' := ?_) ?_ ?_
            rotate_left
            · (show Act.put _ (some 13) _ = _; simp only [Act.put, List.setIfInBounds_toArray, List.set_cons_zero, List.set_cons_succ, PrintLast.i64_w, PrintLast.i32_w]; rfl)
            refine PrintLast.one_ (i := 8) (N := (some 19)) #[true, true, true, true, true, true, true, true, true, false, false] rfl rfl (by kernel_rfl) (by decide) (fun K hK => ?_)
            refine PrintLast.value_ (w1 := ?_) (v := ?_) (by rfl) rfl ?_ ?_
            rotate_left 2
            · (go_simp; constructor <;> rfl)
            refine hK.out _ _ trivial (fun hHeld => ?_)
            clear hK K
            refine PrintLast.norm_ (a' := ?_) ?_ ?_
            rotate_left
            · (show Act.put _ (some 19) _ = _; simp only [Act.put, List.setIfInBounds_toArray, List.set_cons_zero, List.set_cons_succ, PrintLast.i64_w, PrintLast.i32_w]; rfl)
            exact PrintLast.norm_ (by simp only [PrintLast.putAll, Act.put, List.setIfInBounds_toArray, List.set_cons_zero, List.set_cons_succ]) (hCont (.slice (some ⟨w.heap.size, 0, none⟩) 1 1) _ ⟨hHeld, Bel.out⟩)
          · skip
            refine PrintLast.value_ (w1 := ?_) (v := ?_) (by rfl) rfl ?_ ?_
            rotate_left 2
            · (go_simp; constructor <;> rfl)
            refine hK.out _ _ trivial (fun hHeld => ?_)
            clear hK K
            refine PrintLast.norm_ (a' := ?_) ?_ ?_
            rotate_left
            · (show Act.put _ (some 19) _ = _; simp only [Act.put, List.setIfInBounds_toArray, List.set_cons_zero, List.set_cons_succ, PrintLast.i64_w, PrintLast.i32_w]; rfl)
            refine PrintLast.one_ (i := 2) (N := (some 13)) #[true, true, true, true, true, true, true, true, true, false, false] rfl rfl (by kernel_rfl) (by decide) (fun K hK => ?_)
            refine PrintLast.goes_ Tryd.func96 (by kernel_rfl) rfl #[.int .i64 q] (by rfl) rfl rfl (by (try simp only [List.map_toArray, List.map_cons, List.map_nil]); first | done | rfl) ?_
            refine (IH.out _).mono ?_
            rintro e w1 ⟨rfl, hb1⟩
            refine ⟨_, rfl, ?_⟩
            haveI := Bel.step (w := w) hb1
            refine hK.out _ _ trivial (fun hHeld => ?_)
            clear hK K
            refine PrintLast.norm_ (a' := ?_) ?_ ?_
            rotate_left
            · (show Act.put _ (some 13) _ = _; simp only [Act.put, List.setIfInBounds_toArray, List.set_cons_zero, List.set_cons_succ, PrintLast.i64_w, PrintLast.i32_w]; rfl)
            exact PrintLast.norm_ (by simp only [PrintLast.putAll, Act.put, List.setIfInBounds_toArray, List.set_cons_zero, List.set_cons_succ]) (hCont (.slice (some ⟨w.heap.size, 0, none⟩) 1 1) _ ⟨hHeld, Bel.out⟩)
      · rintro s_ wj ⟨hHeld, hbj⟩
        haveI : Bel w wj := ⟨hbj⟩
        simp only [PrintLast.putAll, Act.put, List.setIfInBounds_toArray, List.set_cons_zero, List.set_cons_succ]
        refine PrintLast.pure_ (i := 9) (N := (some 20)) (v := ?_) (a' := ?_) #[true, true, true, true, true, true, true, true, true, true, false] rfl rfl (by kernel_rfl) (fun _ _ _ h => h) (Or.inl ⟨by rfl, ?_⟩) ?_ ?_
        rotate_left
        · (intro w'; go_simp; with_reducible rfl)
        rotate_left
        · (simp only [Act.put, List.setIfInBounds_toArray, List.set_cons_zero, List.set_cons_succ, PrintLast.i64_w, PrintLast.i32_w]; rfl)
        refine PrintLast.pure_ (i := 10) (N := (some 2)) (v := ?_) (a' := ?_) #[true, true, true, true, true, true, true, true, true, true, true] rfl rfl (by kernel_rfl) (fun _ _ _ h => h) (Or.inl ⟨by rfl, ?_⟩) ?_ ?_
        rotate_left
        · (intro w'; go_simp; with_reducible rfl)
        rotate_left
        · (simp only [Act.put, List.setIfInBounds_toArray, List.set_cons_zero, List.set_cons_succ, PrintLast.i64_w, PrintLast.i32_w]; rfl)
        refine PrintLast.done_ (by kernel_rfl) ?_
        go_wp2
        exact bodyPost_ret (v := .string ⟨(Lib.decDigits q ++ by1 (48 + r)).toArray⟩) (by simp only [← ByteArray.mk_append_mk]; simp [results, Tryd.results96, go_sem]) rfl ⟨rfl, Bel.out⟩
/-- Numbers with commas between them. -/
def rowT : List Int → List UInt8
  | [] => []
  | [x] => Lib.itoa x
  | x :: y :: r => Lib.itoa x ++ 44 :: rowT (y :: r)
def rowS (xs : List Int) : List UInt8 := if xs = [] then [110, 111, 110, 101] else rowT xs
theorem rowT_one (x : Int) : rowT [x] = Lib.itoa x := rfl
theorem rowT_push : ∀ (xs : List Int) (y : Int), xs ≠ [] → rowT (xs ++ [y]) = rowT xs ++ 44 :: Lib.itoa y
  | [x], y, _ => rfl
  | x :: z :: r, y, _ => by
    show Lib.itoa x ++ 44 :: rowT (z :: r ++ [y]) = (Lib.itoa x ++ 44 :: rowT (z :: r)) ++ 44 :: Lib.itoa y
    rw [rowT_push (z :: r) y (by simp)]
    simp
theorem itoa_nat (n : Nat) : Lib.itoa (n : Int) = Lib.decDigits n := by rw [Lib.itoa, if_neg (by omega), Int.toNat_natCast]
theorem itoa_neg (n : Nat) (h : 0 < n) : Lib.itoa (-(n : Int)) = 45 :: Lib.decDigits n := by rw [Lib.itoa, if_pos (by omega), Int.natAbs_neg, Int.natAbs_natCast]
theorem itoa_len {x : Int} {B : Nat} (h1 : -B ≤ x) (h2 : x ≤ B) : (Lib.itoa x).length ≤ B + 2 := by
  rcases Int.lt_or_le x 0 with h | h
  · obtain ⟨k, rfl⟩ : ∃ k : Nat, x = -(k : Int) := ⟨x.natAbs, by omega⟩
    rw [itoa_neg k (by omega), List.length_cons]
    have := dec_len k
    omega
  · obtain ⟨k, rfl⟩ := Int.eq_ofNat_of_zero_le h
    rw [itoa_nat]
    have := dec_len k
    omega
theorem rowT_len : ∀ (xs : List Int), (∀ x, x ∈ xs → -1000000 ≤ x ∧ x ≤ 1000000) → (rowT xs).length ≤ 1000003 * xs.length
  | [], _ => by simp [rowT]
  | [x], h => by
    have h1 := h x (by simp)
    have := itoa_len (B := 1000000) (x := x) (by omega) (by omega)
    simp [rowT]; omega
  | x :: z :: r, h => by
    have h1 := h x (by simp)
    have := itoa_len (B := 1000000) (x := x) (by omega) (by omega)
    have h3 := rowT_len (z :: r) (fun y hy => h y (by simp at hy ⊢; right; exact hy))
    simp only [rowT, List.length_append, List.length_cons] at h3 ⊢
    omega
theorem mk_add (x y : List UInt8) : (ByteArray.mk x.toArray ++ ByteArray.mk y.toArray) = ByteArray.mk (x ++ y).toArray := ByteArray.mk_append_mk x y

set_option maxHeartbeats 1000000 in
theorem s_l15Step (n : Int) (h1 : -1000000 ≤ n) (h2 : n ≤ 1000000) (w : World) : Calls Tryd.prog 80 #[.int .i64 n] w fun e w' => e = .returned (.string ⟨(Lib.itoa n).toArray⟩) ∧ Below w.heap.size w w' := by
  go_enter Tryd.func80, Tryd.ntmps80
  rcases Int.lt_or_le n 0 with h | h
  · obtain ⟨k, rfl⟩ : ∃ k : Nat, n = -(k : Int) := ⟨n.natAbs, by omega⟩
    have hk : 0 < (k : Int) := by omega
    have hw : IntKind.i64.wrap (k : Int) = k := i64_wrap (by omega) (by omega)
    have hw2 : wrap64 (k : Int) = k := IntWalk.wrap64_in _ (by omega)
    have hsz : (9223372036854775807 < 1 + (Lib.decDigits k).length) = False := eq_false (by have := dec_len k; omega)
    rw [itoa_neg k (by omega)]
    go_wp2_with fail
    refine (s_l1Number k (by omega) _).mono ?_
    rintro e w1 ⟨rfl, hb⟩
    haveI := Bel.step (w := w) hb
    go_wp2
    exact bodyPost_ret (v := .string ⟨(45 :: Lib.decDigits k).toArray⟩) (by rw [show (45 :: Lib.decDigits k) = [45] ++ Lib.decDigits k from rfl, ← mk_add]; simp [results, Tryd.results80, go_sem]) rfl ⟨rfl, Bel.out⟩
  · obtain ⟨k, rfl⟩ := Int.eq_ofNat_of_zero_le h
    rw [itoa_nat]
    go_wp2_with fail
    refine (s_l1Number k (by omega) _).mono ?_
    rintro e w1 ⟨rfl, hb⟩
    haveI := Bel.step (w := w) hb
    go_wp2
    exact bodyPost_ret (v := .string ⟨(Lib.decDigits k).toArray⟩) (by simp [results, Tryd.results80, go_sem]) rfl ⟨rfl, Bel.out⟩

theorem rowT_take_len (xs : List Int) (k : Nat) (hs : xs.length ≤ 1000) (hx : ∀ j, j < xs.length → 0 ≤ xs.getD j 0 ∧ xs.getD j 0 ≤ 1000000) : (rowT (xs.take k)).length ≤ 1000003000 := by
  have h1 := rowT_len (xs.take k) (fun y hy => (by
    obtain ⟨j, hj, rfl⟩ := List.getElem_of_mem (List.mem_of_mem_take hy)
    have h2 := hx j hj
    have e : xs.getD j 0 = xs[j] := by simp [List.getD, hj]
    omega))
  rw [List.length_take] at h1
  have : min k xs.length ≤ 1000 := by omega
  omega

set_option maxHeartbeats 1000000 in
theorem s_l15Row (v : Value) (xs : List Int) (w : World) (h : Ints w v xs) (hp : 0 < xs.length) (hs : xs.length ≤ 1000) (hx : ∀ j, j < xs.length → 0 ≤ xs.getD j 0 ∧ xs.getD j 0 ≤ 1000000) :
    Calls Tryd.prog 79 #[v] w fun e w' => e = .returned (.string ⟨(rowT xs).toArray⟩) ∧ Below w.heap.size w w' := by
  obtain ⟨A0, c0, rfl⟩ := h.form
  have hz : ((xs.length : Int) == 0) = false := by simp; intro e; simp [e] at hp
  have HX := Lib.hid hx; clear hx
  go_enter Tryd.func79, Tryd.ntmps79
  go_wp2
  go_loopw [3, 4] (fun v i wr => ∃ k : Nat, k ≤ xs.length ∧ i = .int .i64 k ∧ v = .string ⟨(rowT (xs.take k)).toArray⟩ ∧ Hid (Below w.heap.size w wr)) (fun _ i _ => xs.length - (intOf i).toNat)
  case atStart => exact ⟨0, by omega, rfl, rfl, Below.refl _ _⟩
  case round =>
    obtain ⟨k, hk, rfl, rfl, hB⟩ := hrel
    haveI : Bel w wr := ⟨hB.out⟩
    by_cases hlt : k < xs.length
    · obtain ⟨x, hxk⟩ : ∃ x : Nat, xs.getD k 0 = x := ⟨(xs.getD k 0).toNat, by have := HX.out k hlt; omega⟩
      have hb := HX.out k hlt
      rw [hxk] at hb
      have HT := Lib.hid (take_getD xs 0 k hlt); rw [hxk] at HT
      have hlen := rowT_take_len xs k hs HX.out
      have hlx := dec_len x
      obtain ⟨_, _, e, _, _, hc⟩ := h.cells
      cases e
      obtain ⟨b, o, rfl, hq⟩ := hc k hlt
      rw [hxk] at hq
      replace hq := cell_at hq (W := wr)
      clear hc
      have HZ := Lib.hid hz; clear hz
      by_cases h0 : k = 0
      · subst h0
        have ht : Hid (rowT (xs.take (0 + 1)) = Lib.decDigits x) := by show _ = _; rw [HT.out]; simp [rowT, itoa_nat]
        have hsz : (9223372036854775807 < (Lib.decDigits x).length) = False := eq_false (by omega)
        rw [Nat.add_zero] at hq
        rw [show rowT (xs.take 0) = [] from rfl]
        go_wp2_with fail
        refine (s_l1Number x (by omega) _).mono ?_
        rintro e w1 ⟨rfl, hb1⟩
        haveI := Bel.step (w := wr) hb1
        haveI : Bel w w1 := Bel.step (w := w) hb1
        have HB1 : Hid (Below w.heap.size w w1) := (Bel.out : Below w.heap.size w w1)
        go_wp2
        exact ⟨⟨1, by omega, by go_num, by rw [ht.out, show (ByteArray.mk #[]) = ByteArray.mk ([] : List UInt8).toArray from rfl, mk_add]; rfl, HB1⟩, by simp [intOf]; omega⟩
      · have ht : Hid (rowT (xs.take (k + 1)) = rowT (xs.take k) ++ ([44] ++ Lib.decDigits x)) := by
          show _ = _; rw [HT.out, rowT_push _ _ (by intro e; rw [List.take_eq_nil_iff] at e; rcases e with e | e; exact h0 e; rw [e] at hlt; exact absurd hlt (by simp)), itoa_nat]; rfl
        have hkp : 0 < (k : Int) := by omega
        have hsz1 : (9223372036854775807 < (rowT (xs.take k)).length + 1) = False := eq_false (by omega)
        have hsz2 : (9223372036854775807 < (rowT (xs.take k)).length + 1 + (Lib.decDigits x).length) = False := eq_false (by omega)
        clear hlen hlx
        go_wp2_with fail
        refine (s_l1Number x (by omega) _).mono ?_
        rintro e w1 ⟨rfl, hb1⟩
        haveI := Bel.step (w := wr) hb1
        haveI : Bel w w1 := Bel.step (w := w) hb1
        have HB1 : Hid (Below w.heap.size w w1) := (Bel.out : Below w.heap.size w w1)
        go_wp2
        exact ⟨⟨k + 1, by omega, by go_num, by rw [ht.out, ← mk_add, ← mk_add, ByteArray.append_assoc], HB1⟩, by simp [intOf]; omega⟩
    · go_wp2_with fail
      exact bodyPost_ret (v := .string ⟨(rowT xs).toArray⟩) (by simp [results, Tryd.results79, go_sem, List.take_of_length_le (show xs.length ≤ k by omega)]) rfl ⟨rfl, hB.out⟩
end Go.Proofs.YtpfncjaclgcbnaaDoor.Ub
