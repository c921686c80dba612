/- Contract of the program's text of a place. -/
import Derived.Test.YtpfncjaclgcbnaaDoorF11
set_option linter.unusedVariables false
set_option linter.unusedSimpArgs false
namespace Go.Proofs.YtpfncjaclgcbnaaDoor.Ub
open Go.RowKit Go.Proofs.YtpfncjaclgcbnaaDoorW

theorem eB : Elt 22 5 1 1 (.int .u8 0) := elt_of Tryd.underlying22 (by kernel_rfl) rfl (by decide)
/-- Bytes as cells. -/
def byteV (l : List UInt8) : List Value := l.map fun b => .int .u8 b.toNat
theorem byteV_push (l : List UInt8) (n : Nat) (h : n < 256) : byteV (l ++ by1 n) = byteV l ++ [.int .u8 n] := by
  simp [byteV, by1, UInt8.toNat_ofNat, Nat.mod_eq_of_lt h]
theorem byteV_len (l : List UInt8) : (byteV l).length = l.length := by simp [byteV]
/-- Bytes of the call's own as a text. -/
theorem conv_row {w : World} {lo g n cap : Nat} {l : List UInt8} (h : w.ownsRow lo 5 1 (.slice (some ⟨g, 0, none⟩) n cap) n (byteV l)) : (convert 22 9 (.slice (some ⟨g, 0, none⟩) n cap)).run Tryd.prog w = .ok (.string ⟨l.toArray⟩) w := by
  obtain ⟨h1, ⟨e, _⟩ | ⟨g', cap', cur, e, hg, hh, hcp, hm, hs, ht⟩⟩ := id h
  · cases e
  · cases e
    have hl : l.length = n := by rw [← byteV_len, h1]; omega
    subst hl
    refine run_convert_bytes_back w _ _ 5 ⟨g, 0, none⟩ cap l Tryd.underlying22 Tryd.underlying5 Tryd.underlying9 (fun j hj => ?_)
    have e : (⟨g, 0, none⟩ : Addr).add j = ⟨g, j, none⟩ := by unfold Addr.add; simp; intro; omega
    rw [e, cell_of_row w g j cur _ _ hh]
    have k : (byteV l)[j]? = some (.int .u8 l[j].toNat) := by simp [byteV, hj]
    rw [← ht, List.getElem?_take] at k
    split at k
    · simpa using k
    · cases k

set_option maxHeartbeats 1000000 in
set_option maxRecDepth 100000 in
theorem i_PlaceText (v : Value) (p : Pl) (w : World) (h : PlI w v p) (he : Env w) :
    Calls Tryd.prog 38 #[v] w fun e w' => e = .returned (.string ⟨(placeT p).toArray⟩) ∧ Below w.heap.size w w' := by
  obtain ⟨A0, c0, A2, c2, rfl, i0, i2⟩ := h.open
  have HEN := Lib.hid he; clear he
  by_cases hok : placeOk p = true
  · have hn : (!placeOk p) = false := by simp [hok]
    have HT := Lib.hid (placeT_ok hok)
    obtain ⟨_, _, hl, hst, hsp, hwl, hwd⟩ := place_facts hok
    have HW := Lib.hid hwd; have HS := Lib.hid hst; clear hwd hst
    go_enter Tryd.func38, Tryd.ntmps38
    go_wp2_with fail
    refine (i_PlaceOk _ p _ (PlI.mk i0.at i2.at)).mono ?_
    rintro e w1 ⟨rfl, hb1⟩
    have t0 : w1.cell? ⟨w.heap.size, 0, none⟩ = some (.slice A0 p.st.length c0) := (bcell hb1).1 _ _ (by simp) |>.trans (by simp)
    have t1 : w1.cell? ⟨w.heap.size, 1, none⟩ = some (.int .i64 p.step) := (bcell hb1).1 _ _ (by simp) |>.trans (by simp)
    have t2 : w1.cell? ⟨w.heap.size, 2, none⟩ = some (.slice A2 p.word.length c2) := (bcell hb1).1 _ _ (by simp) |>.trans (by simp)
    haveI b1 : Bel w w1 := Bel.step (w := w) hb1
    clear hb1
    have t2' : ∀ o, (w1.alloc o).cell? ⟨w.heap.size, 2, none⟩ = some (.slice A2 p.word.length c2) := fun o => cell_at t2
    go_wp2_with fail
    clear t2'
    have T0 := Lib.hid t0; have T1 := Lib.hid t1
    go_loopw [3, 13] (fun v i wr => ∃ k : Nat, k ≤ p.word.length ∧ i = .int .i64 k ∧ (∃ g cap, v = .slice (some ⟨g, 0, none⟩) k cap) ∧ Hid (wr.ownsRow w1.heap.size 5 1 v k (byteV (letters (p.word.take k)))) ∧ Hid (Below w1.heap.size w1 wr)) (fun _ i _ => p.word.length - (intOf i).toNat)
    case atStart => exact ⟨0, by omega, rfl, ⟨_, _, rfl⟩, World.ownsRow_made w1 #[] 0 (Nat.le_refl _) (by decide) rfl, (Bel.out : Below w1.heap.size w1 _)⟩
    case round =>
      obtain ⟨k, hk, rfl, ⟨ga, capa, rfl⟩, hO, hB⟩ := hrel
      haveI : Bel w1 wr := ⟨hB.out⟩
      haveI : Bel w wr := Bel.step (w := w) hB.out
      replace t0 := cell_at t0 (W := wr)
      replace t1 := cell_at t1 (W := wr)
      replace t2 := cell_at t2 (W := wr)
      by_cases hlt : k < p.word.length
      · obtain ⟨x, hxk⟩ : ∃ x : Nat, p.word.getD k 0 = x := ⟨(p.word.getD k 0).toNat, by have := HW.out k hlt; omega⟩
        have hb := HW.out k hlt
        rw [hxk] at hb
        have HTK := Lib.hid (take_getD p.word 0 k hlt); rw [hxk] at HTK
        have HP : Hid (byteV (letters (p.word.take (k + 1))) = byteV (letters (p.word.take k)) ++ [.int .u8 ((97 + x : Nat) : Int)]) := by
          show _ = _
          rw [HTK.out, letters_push]; exact byteV_push _ _ (by omega)
        obtain ⟨_, _, e, _, _, hc⟩ := i2.cells
        cases e
        obtain ⟨b, o, rfl, hq⟩ := hc k hlt
        rw [hxk] at hq
        replace hq := cell_at hq (W := wr)
        clear hc
        have hw3 : IntKind.u8.wrap (97 + (x : Int)) = ((97 + x : Nat) : Int) := by rw [u8_wrap (by omega) (by omega)]; omega
        go_wp2_with (at_builtin; refine stop ?_)
        refine go_on ?_
        have hown := own_below hO.out (Bel.alloc (w := wr) (W := wr) (o := .cells #[.int .u8 ((97 + x : Nat) : Int)] 5)).out
        refine app_list eB rfl _ _ rfl w1.heap.size (.slice (some ⟨ga, 0, none⟩) k capa) k (byteV (letters (p.word.take k))) rfl hown wr.heap.size 1 1 #[.int .u8 ((97 + x : Nat) : Int)] rfl (heap_alloc_new wr _) rfl (by simp [Value.oneCell']) (by omega) (by omega) (by omega) (by have := hB.out.size; simp; omega) ?_
        intro g cap w3 hown3 hgr hat
        have HS : Hid (w3.ownsRow w1.heap.size 5 1 (.slice (some ⟨g, 0, none⟩) (k + 1) cap) (k + 1) (byteV (letters (p.word.take (k + 1))))) := by
          show w3.ownsRow _ _ _ _ _ _
          rw [HP.out]; exact hown3
        have HB3 := Lib.hid (Below.app (hB.out.trans ((Bel.out : Below wr.heap.size wr (wr.alloc (.cells #[.int .u8 ((97 + x : Nat) : Int)] 5))).mono hB.out.size)) hown hgr (by have := hB.out.size; simp; omega))
        go_wp2
        exact ⟨⟨k + 1, by omega, by go_num, ⟨_, _, rfl⟩, HS, HB3⟩, by simp [intOf]; omega⟩
      · obtain rfl : k = p.word.length := by omega
        rw [List.take_of_length_le (Nat.le_refl _)] at hO
        have hB1 := hB.out
        have hA := rowT_take_len p.st p.st.length (by omega) (fun j hj => by have := HS.out j hj; omega)
        rw [List.take_of_length_le (Nat.le_refl _)] at hA
        have hI := itoa_len (B := 3) (x := p.step) (by omega) (by omega)
        have hWl := wordT_len p.word
        have z1 : (9223372036854775807 < (rowT p.st).length + 1) = False := eq_false (by omega)
        have z2 : (9223372036854775807 < (rowT p.st).length + 1 + (Lib.itoa p.step).length) = False := eq_false (by omega)
        have z3 : (9223372036854775807 < (rowT p.st).length + 1 + (Lib.itoa p.step).length + 1) = False := eq_false (by omega)
        have z4 : (9223372036854775807 < (rowT p.st).length + 1 + (Lib.itoa p.step).length + 1 + (wordT p.word).length) = False := eq_false (by omega)
        clear hA hI hWl
        by_cases h0 : p.word.length = 0
        · have hz : ((p.word.length : Int) == 0) = true := by simp [h0]
          have hw0 : p.word = [] := List.length_eq_zero_iff.1 h0
          have HWT : Hid (byteV (wordT p.word) = byteV (letters p.word) ++ [.int .u8 46]) := by show _ = _; rw [hw0]; rfl
          clear hw0 h0
          go_wp2_with (at_builtin; refine stop ?_)
          refine go_on ?_
          have hown := own_below hO.out (Bel.alloc (w := wr) (W := wr) (o := .cells #[.int .u8 46] 5)).out
          refine app_list eB rfl _ _ rfl w1.heap.size (.slice (some ⟨ga, 0, none⟩) p.word.length capa) p.word.length (byteV (letters p.word)) rfl hown wr.heap.size 1 1 #[.int .u8 46] rfl (heap_alloc_new wr _) rfl (by simp [Value.oneCell']) (by omega) (by omega) (by omega) (by have := hB.out.size; simp; omega) ?_
          intro g cap w3 hown3 hgr hat
          have HO3 : Hid (w3.ownsRow w1.heap.size 5 1 (.slice (some ⟨g, 0, none⟩) (p.word.length + 1) cap) (p.word.length + 1) (byteV (wordT p.word))) := by
            show w3.ownsRow _ _ _ _ _ _
            rw [HWT.out]; exact hown3
          haveI b3 : Bel w1 w3 := ⟨Below.app (hB.out.trans ((Bel.out : Below wr.heap.size wr (wr.alloc (.cells #[.int .u8 46] 5))).mono hB.out.size)) hown hgr (by have := hB.out.size; simp; omega)⟩
          haveI : Bel w w3 := Bel.step (w := w) b3.out
          clear hown hown3 hgr hat t0 t1 t2
          have t0 := cell_at T0.out (W := w3)
          have t1 := cell_at T1.out (W := w3)
          have hcv := conv_row HO3.out
          go_wp2_with fail
          go_region_held3 (fun w' => w'.cell? ⟨w.heap.size, 0, none⟩ = some (.slice A0 p.st.length c0) ∧ w'.cell? ⟨w.heap.size, 1, none⟩ = some (.int .i64 p.step) ∧ (convert 22 9 (.slice (some ⟨g, 0, none⟩) (p.word.length + 1) cap)).run Tryd.prog w' = .ok (.string ⟨(wordT p.word).toArray⟩) w')
            (exact ⟨cell_at t0, cell_at t1, conv_row (own_below HO3.out Bel.out)⟩)
            (first
              | (go_at_call 71; refine (i_rowText _ p.st _ i0.at (by omega) (by omega) (fun j hj => by have := HS.out j hj; omega)).mono ?_; rintro e w4 ⟨rfl, hb4⟩; haveI : Bel w3 w4 := Bel.step (w := w3) hb4; haveI : Bel w w4 := Bel.step (w := w) hb4)
              | (go_at_call 72; refine (i_Itoa p.step (by omega) (by omega) _ HEN.out.at).mono ?_; rintro e w5 ⟨rfl, hb5⟩; haveI : Bel w3 w5 := Bel.step (w := w3) hb5; haveI : Bel w w5 := Bel.step (w := w) hb5))
          go_wp2
          exact bodyPost_ret (v := .string ⟨(rowT p.st ++ ([32] ++ (Lib.itoa p.step ++ ([32] ++ wordT p.word)))).toArray⟩) (by simp only [← mk_add, ← ByteArray.append_assoc]; simp [results, Tryd.results38, go_sem]) rfl ⟨by rw [HT.out], Bel.out⟩
        · have hz : ((p.word.length : Int) == 0) = false := by simp; intro e; exact h0 (by simp [e])
          have HO3 : Hid (wr.ownsRow w1.heap.size 5 1 (.slice (some ⟨ga, 0, none⟩) p.word.length capa) p.word.length (byteV (wordT p.word))) := by
            show wr.ownsRow _ _ _ _ _ _
            rw [wordT_ne (by intro e; simp [e] at h0)]; exact hO.out
          clear t0 t1 t2
          have t0 := cell_at T0.out (W := wr)
          have t1 := cell_at T1.out (W := wr)
          have hcv := conv_row HO3.out
          go_wp2_with fail
          go_region_held3 (fun w' => w'.cell? ⟨w.heap.size, 0, none⟩ = some (.slice A0 p.st.length c0) ∧ w'.cell? ⟨w.heap.size, 1, none⟩ = some (.int .i64 p.step) ∧ (convert 22 9 (.slice (some ⟨ga, 0, none⟩) p.word.length capa)).run Tryd.prog w' = .ok (.string ⟨(wordT p.word).toArray⟩) w')
            (exact ⟨cell_at t0, cell_at t1, conv_row (own_below HO3.out Bel.out)⟩)
            (first
              | (go_at_call 71; refine (i_rowText _ p.st _ i0.at (by omega) (by omega) (fun j hj => by have := HS.out j hj; omega)).mono ?_; rintro e w4 ⟨rfl, hb4⟩; haveI : Bel wr w4 := Bel.step (w := wr) hb4; haveI : Bel w w4 := Bel.step (w := w) hb4)
              | (go_at_call 72; refine (i_Itoa p.step (by omega) (by omega) _ HEN.out.at).mono ?_; rintro e w5 ⟨rfl, hb5⟩; haveI : Bel wr w5 := Bel.step (w := wr) hb5; haveI : Bel w w5 := Bel.step (w := w) hb5))
          go_wp2
          exact bodyPost_ret (v := .string ⟨(rowT p.st ++ ([32] ++ (Lib.itoa p.step ++ ([32] ++ wordT p.word)))).toArray⟩) (by simp only [← mk_add, ← ByteArray.append_assoc]; simp [results, Tryd.results38, go_sem]) rfl ⟨by rw [HT.out], Bel.out⟩
  · have hn : (!placeOk p) = true := by simp [hok]
    have HT := Lib.hid (placeT_not (eq_false_of_ne_true hok))
    go_enter Tryd.func38, Tryd.ntmps38
    go_wp2_with fail
    refine (i_PlaceOk _ p _ (PlI.mk i0.at i2.at)).mono ?_
    rintro e w1 ⟨rfl, hb1⟩
    have HB1 : Hid (Below w.heap.size w w1) := (Bel.step (w := w) hb1).out
    go_wp2
    exact bodyPost_ret (v := .string ⟨#[]⟩) (by simp [results, Tryd.results38, go_sem]) rfl ⟨by rw [HT.out], HB1.out⟩
end Go.Proofs.YtpfncjaclgcbnaaDoor.Ub
