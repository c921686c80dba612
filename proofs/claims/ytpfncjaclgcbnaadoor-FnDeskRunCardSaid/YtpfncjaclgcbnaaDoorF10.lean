/- Contracts of the program's texts of places. -/
import Derived.Test.YtpfncjaclgcbnaaDoorF9
set_option linter.unusedVariables false
set_option linter.unusedSimpArgs false
namespace Go.Proofs.YtpfncjaclgcbnaaDoor.Ub
open Go.RowKit Go.Proofs.YtpfncjaclgcbnaaDoorW

theorem eS : Elt 106 9 1 16 (.string ⟨#[]⟩) := elt_of Tryd.underlying106 (by kernel_rfl) rfl (by decide)
/-- Texts of numbers, as cells. -/
def numS (xs : List Int) : List Value := xs.map fun x => .string ⟨(Lib.itoa x).toArray⟩
theorem numS_push (xs : List Int) (x : Int) : numS (xs ++ [x]) = numS xs ++ [.string ⟨(Lib.itoa x).toArray⟩] := by simp [numS]
theorem numS_len (xs : List Int) : (numS xs).length = xs.length := by simp [numS]
theorem join_rowT : ∀ xs : List Int, Lib.join (xs.map Lib.itoa) [44] = rowT xs
  | [] => rfl
  | [x] => by simp [Lib.join, rowT, List.intercalate]
  | x :: y :: r => by
    have h := join_rowT (y :: r)
    show _ = Lib.itoa x ++ 44 :: rowT (y :: r)
    rw [← h]
    simp [Lib.join, List.intercalate, List.intersperse]

set_option maxHeartbeats 1000000 in
theorem i_rowText (v : Value) (xs : List Int) (w : World) (h : Ints w v xs) (hp : 0 < xs.length) (hs : xs.length ≤ 1000) (hx : ∀ j, j < xs.length → 0 ≤ xs.getD j 0 ∧ xs.getD j 0 < 100) :
    Calls Tryd.prog 71 #[v] w fun e w' => e = .returned (.string ⟨(rowT xs).toArray⟩) ∧ Below w.heap.size w w' := by
  obtain ⟨A0, c0, rfl⟩ := h.form
  have HX := Lib.hid hx; clear hx
  go_enter Tryd.func71, Tryd.ntmps71
  go_wp2
  go_loopw [3, 9] (fun v i wr => ∃ k : Nat, k ≤ xs.length ∧ i = .int .i64 k ∧ Hid (wr.ownsRow w.heap.size 9 1 v k (numS (xs.take k))) ∧ Hid (Below w.heap.size w wr)) (fun _ i _ => xs.length - (intOf i).toNat)
  case atStart => exact ⟨0, by omega, rfl, World.ownsRow_made w #[] 0 (Nat.le_refl _) (by decide) rfl, (Bel.out : Below w.heap.size w _)⟩
  case round =>
    obtain ⟨k, hk, rfl, hO, hB⟩ := hrel
    haveI : Bel w wr := ⟨hB.out⟩
    by_cases hlt : k < xs.length
    · obtain ⟨x, hxk⟩ : ∃ x : Nat, xs.getD k 0 = x := ⟨(xs.getD k 0).toNat, by have := HX.out k hlt; omega⟩
      have hb := HX.out k hlt
      rw [hxk] at hb
      have HT := Lib.hid (take_getD xs 0 k hlt); rw [hxk] at HT
      obtain ⟨_, _, e, _, _, hc⟩ := h.cells
      cases e
      obtain ⟨b, o, rfl, hq⟩ := hc k hlt
      rw [hxk] at hq
      replace hq := cell_at hq (W := wr)
      clear hc
      go_wp2_with (first
        | (go_at_call 72; refine (Tryd.strconv_Itoa_small x (by omega) _).mono ?_; rintro e w' ⟨rfl, hw'⟩; subst w')
        | (at_builtin; refine stop ?_))
      refine go_on ?_
      have hown := own_below hO.out (Bel.alloc (w := wr) (W := wr) (o := .cells #[.string ⟨(Lib.decDigits x).toArray⟩] 9)).out
      refine app_list eS rfl _ _ rfl w.heap.size u3 k (numS (xs.take k)) rfl hown wr.heap.size 1 1 #[.string ⟨(Lib.decDigits x).toArray⟩] rfl (heap_alloc_new wr _) rfl (by simp [Value.oneCell']) (by omega) (by omega) (by omega) (by have := hB.out.size; simp; omega) ?_
      intro g cap w3 hown3 hgr hat
      have HS : Hid (w3.ownsRow w.heap.size 9 1 (.slice (some ⟨g, 0, none⟩) (k + 1) cap) (k + 1) (numS (xs.take (k + 1)))) := by
        show w3.ownsRow _ _ _ _ _ _
        rw [HT.out, numS_push, itoa_nat]; exact hown3
      have HB3 := Lib.hid (Below.app (hB.out.trans ((Bel.out : Below wr.heap.size wr (wr.alloc (.cells #[.string ⟨(Lib.decDigits x).toArray⟩] 9))).mono hB.out.size)) hown hgr (by have := hB.out.size; simp; omega))
      go_wp2
      exact ⟨⟨k + 1, by omega, by go_num, HS, HB3⟩, by simp [intOf]; omega⟩
    · obtain rfl : k = xs.length := by omega
      have hO' := hO.out
      rw [List.take_of_length_le (Nat.le_refl _)] at hO'
      rcases hO'.2 with ⟨_, hn⟩ | ⟨g, cap, cur, rfl, hg, hh, hcp, hm, hs2, ht⟩
      · omega
      have hcell : ∀ (j : Nat) x, (xs.map fun x => (⟨(Lib.itoa x).toArray⟩ : ByteArray))[j]? = some x → wr.cell? ⟨g, 0 + j, none⟩ = some (.string x) := fun j x hj => (by
        have hl : j < xs.length := by have := (List.getElem?_eq_some_iff.1 hj).1; simpa using this
        rw [Nat.zero_add, hO'.cellAt j (by omega)]
        simp only [numS, List.getElem?_map] at hj ⊢
        cases hx : xs[j]? with
        | none => rw [hx] at hj; cases hj
        | some y => rw [hx] at hj; injection hj with hj; rw [← hj]; rfl)
      have hmap : (xs.map fun x => (⟨(Lib.itoa x).toArray⟩ : ByteArray)).map (·.data.toList) = xs.map Lib.itoa := by simp
      have hlen := rowT_take_len xs xs.length hs (fun j hj => by have := HX.out j hj; omega)
      rw [List.take_of_length_le (Nat.le_refl _)] at hlen
      have hJ := Tryd.strings_Join g 0 cap (xs.map fun x => (⟨(Lib.itoa x).toArray⟩ : ByteArray)) ⟨#[44]⟩ wr hcell (Array.getElem?_eq_some_iff.1 hh).1 (by simp; omega) (by simp; exact hcp) (by rw [hmap]; show (Lib.join _ [44]).length ≤ _; rw [join_rowT]; omega)
      rw [hmap, show (⟨#[44]⟩ : ByteArray).data.toList = [44] from rfl, join_rowT, List.length_map] at hJ
      have HJ := Lib.hid hJ
      clear hJ hcell hmap
      go_wp2_with fail
      refine HJ.out.mono ?_
      rintro e w1 ⟨rfl, hb1⟩
      have HB1 := Lib.hid (hB.out.trans (hb1.mono hB.out.size))
      go_wp2
      exact bodyPost_ret (v := .string ⟨(rowT xs).toArray⟩) (by simp [results, Tryd.results71, go_sem]) rfl ⟨rfl, HB1.out⟩
end Go.Proofs.YtpfncjaclgcbnaaDoor.Ub
