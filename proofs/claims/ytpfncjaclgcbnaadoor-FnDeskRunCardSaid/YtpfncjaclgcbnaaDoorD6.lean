/- Contract of what draws desks. -/
import Derived.Test.YtpfncjaclgcbnaaDoorD5
import Derived.Test.YtpfncjaclgcbnaaDoorF15
set_option linter.unusedVariables false
set_option linter.unusedSimpArgs false
namespace Go.Proofs.YtpfncjaclgcbnaaDoor.Ub
open Go.RowKit Go.Proofs.YtpfncjaclgcbnaaDoorW

def newOf (p : Pl) : Bool → Dk
  | true => ⟨p, []⟩
  | false => zd
def newDk (p : Pl) : Dk := newOf p (placeOk p)
set_option maxHeartbeats 1000000 in
set_option maxRecDepth 100000 in
theorem s_DeskNew (v : Value) (p : Pl) (w : World) (h : PlI w v p) (hs : p.st.length ≤ 1000) (hw : p.word.length ≤ 1000) :
    Calls Tryd.prog 66 #[v] w fun e w' => ∃ v', e = .returned (.tuple #[v', .bool (placeOk p)]) ∧ HasD w' w.heap.size v' (newDk p) ∧ Below w.heap.size w w' := by
  obtain ⟨A0, c0, A2, c2, rfl, i0, i2⟩ := h.open
  obtain ⟨ok, hok⟩ : ∃ ok, placeOk p = ok := ⟨_, rfl⟩
  have HPO := Lib.hid (placeOk_is hok)
  have HN : Hid (newDk p = newOf p ok) := by show _ = _; unfold newDk; rw [hok]
  rw [hok]
  clear hok
  cases ok with
  | false =>
    go_enter Tryd.func66, Tryd.ntmps66
    go_wp2_with fail
    refine (HPO.out _ _ (PlI.mk i0.at i2.at)).mono ?_
    rintro e w1 ⟨rfl, hb1⟩
    have RR : w1.heap[w.heap.size + 1]? = some (.cells #[.slice none 0 0, .int .i64 0, .slice none 0 0, .slice none 0 0] 28 (0, 0)) := (hb1.block _ (by simp)).trans (by simpa using heap_alloc_new (w.alloc (.cells #[.slice A0 p.st.length c0, .int .i64 p.step, .slice A2 p.word.length c2] 25)) _)
    haveI : Bel w w1 := Bel.step (w := w) hb1
    have r0 := block_cell RR 0 rfl
    have r1 := block_cell RR 1 rfl
    have r2 := block_cell RR 2 rfl
    have r3 := block_cell RR 3 rfl
    have f0 := block_frozen RR 0
    have f1 := block_frozen RR 1
    have f2 := block_frozen RR 2
    have f3 := block_frozen RR 3
    have HB : Hid (Below w.heap.size w (set4 w1 (w.heap.size + 1) (.slice none 0 0) (.int .i64 0) (.slice none 0 0) (.slice none 0 0))) := below_set4 Bel.out (by omega) _ _ _ _
    clear RR hb1
    go_wp2
    exact bodyPost_ret (v := .tuple #[.agg #[.slice none 0 0, .int .i64 0, .slice none 0 0, .slice none 0 0], .bool false]) (by simp [results, Tryd.results66, go_sem, r0, r1, r2, r3]) rfl ⟨_, rfl, by rw [HN.out]; exact HasD.nil _ _, HB.out⟩
  | true =>
    go_enter Tryd.func66, Tryd.ntmps66
    go_wp2_with fail
    refine (HPO.out _ _ (PlI.mk i0.at i2.at)).mono ?_
    rintro e w1 ⟨rfl, hb1⟩
    have R1 : w1.heap[w.heap.size + 1]? = some (.cells #[.slice none 0 0, .int .i64 0, .slice none 0 0, .slice none 0 0] 28 (0, 0)) := (hb1.block _ (by simp)).trans (by simpa using heap_alloc_new (w.alloc (.cells #[.slice A0 p.st.length c0, .int .i64 p.step, .slice A2 p.word.length c2] 25)) _)
    have P1 : w1.heap[w.heap.size]? = some (.cells #[.slice A0 p.st.length c0, .int .i64 p.step, .slice A2 p.word.length c2] 25 (0, 0)) := (hb1.block _ (by simp <;> omega)).trans ((heap_alloc_old _ _ (by simp)).trans (heap_alloc_new w _))
    haveI b1 : Bel w w1 := Bel.step (w := w) hb1
    have p0 := block_cell P1 0 rfl
    have p1 := block_cell P1 1 rfl
    have p2 := block_cell P1 2 rfl
    clear hb1
    go_wp2_with fail
    refine (s_l15Place _ p _ (PlI.mk i0.at i2.at) hs hw).mono ?_
    rintro e w2 ⟨v2, rfl, ⟨x0, x2, rfl, hO0, hO2, _⟩, hb2⟩
    obtain ⟨B0, e0, rfl⟩ := hO0.ints.form
    obtain ⟨B2, e2, rfl⟩ := hO2.ints.form
    haveI b2 : Bel w1 w2 := Bel.step (w := w1) hb2
    haveI : Bel w w2 := Bel.step (w := w) b2.out
    have hz1 : w.heap.size ≤ w1.heap.size := b1.out.size
    have RR := block_at (W := w2) R1
    have r0 := block_cell RR 0 rfl
    have r1 := block_cell RR 1 rfl
    have r2 := block_cell RR 2 rfl
    have r3 := block_cell RR 3 rfl
    have f0 := block_frozen RR 0
    have f1 := block_frozen RR 1
    have f2 := block_frozen RR 2
    have f3 := block_frozen RR 3
    have HF := Lib.hid (HasD.set4 (d := ⟨p, []⟩) ⟨_, _, _, rfl, hO0.mono hz1, hO2.mono hz1, (OwnPs.nil w2 w.heap.size 0 (fun _ => 0)).has⟩ RR (by decide) (by decide) (.slice B0 p.st.length e0) (.int .i64 p.step) (.slice B2 p.word.length e2) (.slice none 0 0))
    have HB : Hid (Below w.heap.size w (set4 w2 (w.heap.size + 1) (.slice B0 p.st.length e0) (.int .i64 p.step) (.slice B2 p.word.length e2) (.slice none 0 0))) := below_set4 Bel.out (by omega) _ _ _ _
    clear RR R1 P1 hO0 hO2 hb2 p0 p1 p2
    go_wp2
    exact bodyPost_ret (v := .tuple #[.agg #[.slice B0 p.st.length e0, .int .i64 p.step, .slice B2 p.word.length e2, .slice none 0 0], .bool true]) (by simp [results, Tryd.results66, go_sem, r0, r1, r2, r3]) rfl ⟨_, rfl, by rw [HN.out]; exact HF.out, HB.out⟩
end Go.Proofs.YtpfncjaclgcbnaaDoor.Ub
