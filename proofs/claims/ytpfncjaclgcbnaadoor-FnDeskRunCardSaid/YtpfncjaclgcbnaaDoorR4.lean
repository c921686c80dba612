/- Contract of what draws deeds. -/
import Derived.Test.YtpfncjaclgcbnaaDoorD8
import Derived.Test.YtpfncjaclgcbnaaDoorR3
set_option linter.unusedVariables false
set_option linter.unusedSimpArgs false
namespace Go.Proofs.YtpfncjaclgcbnaaDoor.Ub
open Go.RowKit Go.Proofs.YtpfncjaclgcbnaaDoorW

theorem eD : Elt 44 30 3 24 (.agg #[.int .i64 0, .int .i64 0, .int .i64 0]) := elt_of Tryd.underlying44 (by kernel_rfl) rfl (by decide)
/-- Deeds of the call's own. -/
def HasDs (w : World) (lo : Nat) (v : Value) (l : List Dd) : Prop :=
  ∃ es : List Value, w.ownsRow lo 30 3 v l.length es ∧
    ∀ j, j < l.length → es[j * 3]? = some (.int .i64 (l.getD j e0).kind) ∧ es[j * 3 + 1]? = some (.int .i64 (l.getD j e0).a) ∧ es[j * 3 + 2]? = some (.int .i64 (l.getD j e0).b)
theorem HasDs.nil (w : World) (lo : Nat) : HasDs w lo (.slice none 0 0) [] := ⟨[], World.ownsRow_nil _ _ _ _, fun j hj => by simp at hj⟩
theorem HasDs.dds {w : World} {lo : Nat} {v : Value} {l : List Dd} (h : HasDs w lo v l) : Dds w v l := by
  obtain ⟨es, ⟨h1, ⟨rfl, h2⟩ | ⟨g, cap, cur, rfl, hg, hh, hc, hm, hs, ht⟩⟩, h3⟩ := h
  · obtain rfl := List.length_eq_zero_iff.1 h2
    exact ⟨by simp, none, 0, rfl, by simp, fun j hj => by simp at hj⟩
  · refine ⟨by unfold maxLen at hm; omega, some ⟨g, 0, none⟩, cap, rfl, hc, fun j hj => ?_⟩
    obtain ⟨k0, k1, k2⟩ := h3 j hj
    have cell : ∀ i u, es[i]? = some u → w.cell? ⟨g, i, none⟩ = some u := fun i u hu => by
      rw [cell_of_row w g i cur _ _ hh]
      rw [← ht, List.getElem?_take] at hu
      split at hu
      · simpa using hu
      · cases hu
    exact ⟨g, 0, rfl, by rw [Nat.zero_add]; exact cell _ _ k0, by rw [Nat.zero_add]; exact cell _ _ k1, by rw [Nat.zero_add]; exact cell _ _ k2⟩
theorem HasDs.lo {w : World} {lo lo' : Nat} {v : Value} {l : List Dd} (h : HasDs w lo v l) (hl : lo' ≤ lo) : HasDs w lo' v l := by
  obtain ⟨es, h1, h2⟩ := h
  exact ⟨es, own_lo h1 hl, h2⟩
theorem HasDs.bel {w w1 : World} {lo : Nat} {v : Value} {l : List Dd} (h : HasDs w lo v l) (hb : Below w.heap.size w w1) : HasDs w1 lo v l := by
  obtain ⟨es, h1, h2⟩ := h
  exact ⟨es, own_below h1 hb, h2⟩
theorem HasDs.gr {g P : Nat} {w w1 : World} {lo : Nat} {v : Value} {l : List Dd} (h : HasDs w lo v l) (hr : Rd w g P) (hg : w.grownBy w1 (some g)) : HasDs w1 lo v l := by
  obtain ⟨es, h1, h2⟩ := h
  exact ⟨es, own_pick h1 hr.block.choose_spec (by decide) hg, h2⟩
theorem HasDs.set1 {w : World} {lo : Nat} {v : Value} {l : List Dd} {g : Nat} {cs : Array Value} {ty : TypeId} {fr : Nat × Nat} (h : HasDs w lo v l) (hb : w.heap[g]? = some (.cells cs ty fr)) (h1 : 30 ≠ ty) (j : Nat) (u : Value) : HasDs (w.setCell ⟨g, j, none⟩ u) lo v l := by
  obtain ⟨es, k1, k2⟩ := h
  exact ⟨es, own_far k1 (own_ne k1 hb h1), k2⟩
theorem HasDs.set4 {w : World} {lo : Nat} {v : Value} {l : List Dd} {g : Nat} {cs : Array Value} {ty : TypeId} (h : HasDs w lo v l) (hb : w.heap[g]? = some (.cells cs ty (0, 0))) (h1 : 30 ≠ ty) (u0 u1 u2 u3 : Value) : HasDs (Ub.set4 w g u0 u1 u2 u3) lo v l :=
  (((h.set1 hb h1 0 u0).set1 (block_set hb 0 u0) h1 1 u1).set1 (block_set (block_set hb 0 u0) 1 u1) h1 2 u2).set1 (block_set (block_set (block_set hb 0 u0) 1 u1) 2 u2) h1 3 u3
theorem HasDs.form {w : World} {lo : Nat} {v : Value} {l : List Dd} (h : HasDs w lo v l) : ∃ A c, v = .slice A l.length c := h.dds.form
theorem HasDs.more {w1 : World} {lo : Nat} {v' : Value} {l : List Dd} {a : Dd} {es : List Value} (hl : es.length = l.length * 3)
    (hin : ∀ j, j < l.length → es[j * 3]? = some (.int .i64 (l.getD j e0).kind) ∧ es[j * 3 + 1]? = some (.int .i64 (l.getD j e0).a) ∧ es[j * 3 + 2]? = some (.int .i64 (l.getD j e0).b))
    (h1 : w1.ownsRow lo 30 3 v' (l.length + 1) (es ++ [.int .i64 a.kind, .int .i64 a.a, .int .i64 a.b])) : HasDs w1 lo v' (l ++ [a]) := by
  refine ⟨es ++ [.int .i64 a.kind, .int .i64 a.a, .int .i64 a.b], by rw [List.length_append]; exact h1, fun j hj => ?_⟩
  rw [List.length_append, List.length_singleton] at hj
  by_cases e2 : j < l.length
  · obtain ⟨k0, k1, k2⟩ := hin j e2
    have e : (l ++ [a]).getD j e0 = l.getD j e0 := by simp [List.getD, List.getElem?_append_left e2]
    rw [e]
    exact ⟨by rw [List.getElem?_append_left (by omega)]; exact k0, by rw [List.getElem?_append_left (by omega)]; exact k1, by rw [List.getElem?_append_left (by omega)]; exact k2⟩
  · obtain rfl : j = l.length := by omega
    have e : (l ++ [a]).getD l.length e0 = a := by simp [List.getD]
    rw [e]
    exact ⟨by rw [List.getElem?_append_right (by omega)]; simp [hl], by rw [List.getElem?_append_right (by omega)]; simp [hl], by rw [List.getElem?_append_right (by omega)]; simp [hl]⟩
def DeedsP (g P : Nat) (w : World) (e : Ending) (w' : World) : Prop := ∃ ga c l, e = .returned (.slice (some ⟨ga, 0, none⟩) l.length c) ∧ l.length ≤ 41 ∧ HasDs w' w.heap.size (.slice (some ⟨ga, 0, none⟩) l.length c) l ∧ Rd w' g (P + 60) ∧ w.grownBy w' (some g)

set_option maxHeartbeats 2000000 in
set_option maxRecDepth 100000 in
theorem s_l20Deeds (g P n n2 c0 c2 : Nat) (A0 A2 : Option Addr) (st : Int) (w : World) (h : Rd w g P) (hP : P ≤ 60000) (hn : n ≤ 1000) :
    Calls Tryd.prog 52 #[.pointer (some ⟨g, 0, none⟩), .agg #[.slice A0 n c0, .int .i64 st, .slice A2 n2 c2]] w (DeedsP g P w) := by
  have hgw : g < w.heap.size := h.lt
  obtain ⟨W0, hW0⟩ : ∃ W0, W0 = w.alloc (.cells #[.slice A0 n c0, .int .i64 st, .slice A2 n2 c2] 25) := ⟨_, rfl⟩
  have hb0 : Below w.heap.size w W0 := by rw [hW0]; exact (Bel.alloc (w := w) (W := w)).out
  have BP0 : W0.heap[w.heap.size]? = some (.cells #[.slice A0 n c0, .int .i64 st, .slice A2 n2 c2] 25 (0, 0)) := by rw [hW0]; exact heap_alloc_new _ _
  have hR0 := h.bel hb0
  have hg0 : w.heap.size ≠ g := by omega
  have hz0 : W0.heap.size = w.heap.size + 1 := by rw [hW0]; simp
  obtain ⟨W1, hW1⟩ : ∃ W1, W1 = W0.alloc (.cells #[] 30) := ⟨_, rfl⟩
  have hb1 : Below W0.heap.size W0 W1 := by rw [hW1]; exact (Bel.alloc (w := W0) (W := W0)).out
  have hE1 : HasDs W1 w.heap.size (.slice (some ⟨W0.heap.size, 0, none⟩) 0 0) [] := by
    rw [hW1]
    exact ⟨[], ⟨rfl, .inr ⟨W0.heap.size, 0, #[], rfl, by omega, heap_alloc_new _ _, Nat.le_refl _, by decide, rfl, rfl⟩⟩, fun j hj => by simp at hj⟩
  obtain ⟨g5, h5⟩ : ∃ g5, g5 = W0.heap.size := ⟨_, rfl⟩
  have BP1 := (hb1.block _ (Array.getElem?_eq_some_iff.1 BP0).1).trans BP0
  have hR1 := hR0.bel hb1
  have hG1 : Gr g w W1 := (Gr.of_bel hb0).trans (Gr.of_bel hb1)
  clear BP0 hR0 hb0 hz0 h
  go_enter Tryd.func52, Tryd.ntmps52
  go_upto_region 1 with (fail)
  rw [← hW0]
  clear hW0
  have H1 := Lib.hid hW1
  have H5 := Lib.hid h5
  clear hW1 h5 hb1
  go_upto_region 2 with (fail)
  rw [← H1.out]
  rw [← H5.out] at hE1 ⊢
  clear H1 H5
  go_wp2_with fail
  refine (s_pick g P 6 _ hR1 (by omega) (by omega) (by omega)).mono ?_
  rintro e w2 ⟨k, rfl, hk, hR2, hG2⟩
  have hk6 : (k : Int) < 6 := hk (by omega)
  have HBP := Lib.hid ((⟨hG2⟩ : Gr g W1 w2).block BP1 hg0)
  have HE := Lib.hid (hE1.gr hR1 hG2)
  have HG := Lib.hid (hG1.trans ⟨hG2⟩)
  have HR := Lib.hid hR2
  clear hk BP1 hE1 hR1 hG1 hR2 hG2
  go_wp2
  go_loopw [5, 6] (fun o i wr => ∃ (m : Nat) (l : List Dd) (ga : Nat) (c : Nat), i = .int .i64 m ∧ o = .slice (some ⟨ga, 0, none⟩) l.length c ∧ l.length + m ≤ 5 ∧
    Hid (wr.heap[w.heap.size]? = some (.cells #[.slice A0 n c0, .int .i64 st, .slice A2 n2 c2] 25 (0, 0))) ∧ Hid (HasDs wr w.heap.size (.slice (some ⟨ga, 0, none⟩) l.length c) l) ∧ Hid (Rd wr g (P + 60 - 10 * m)) ∧ Hid (Gr g w wr)) (fun _ i _ => (intOf i).toNat)
  case atStart => exact ⟨k, [], g5, 0, rfl, rfl, by simp; omega, HBP.out, HE.out, HR.out.mono (by omega), HG.out⟩
  case round =>
    clear HBP HE HG HR
    obtain ⟨m, l, ga, c, rfl, rfl, hm, hBP, hE, hR, hG⟩ := hrel
    by_cases h0 : 0 < m
    · have o0 := block_cell hBP.out 0 rfl
      have o1 := block_cell hBP.out 1 rfl
      have o2 := block_cell hBP.out 2 rfl
      go_wp2_with fail
      refine (s_l20Deed g _ n n2 c0 c2 A0 A2 st _ hR.out (by omega) hn).mono ?_
      rintro e w5 ⟨⟨kd, aa, bb⟩, rfl, hR5, hG5⟩
      unfold ddV
      have HBP := Lib.hid ((⟨hG5⟩ : Gr g wr w5).block hBP.out hg0)
      have HE := Lib.hid (hE.out.gr hR.out hG5)
      have HG := Lib.hid (hG.out.trans ⟨hG5⟩)
      have HR := Lib.hid hR5
      clear o0 o1 o2 hR5 hG5 hR hG hE hBP
      have hal : Bel w5 (w5.alloc (.cells #[.int .i64 kd, .int .i64 aa, .int .i64 bb] 30)) := Bel.alloc
      obtain ⟨es, hes1, hes2⟩ := (HE.out.bel hal.out)
      have HSZ := Lib.hid HG.out.size
      go_wp2_with (at_builtin; refine stop ?_)
      refine go_on ?_
      refine app_list eD rfl _ _ rfl w.heap.size (.slice (some ⟨ga, 0, none⟩) l.length c) l.length es rfl hes1 w5.heap.size 1 1 #[.int .i64 kd, .int .i64 aa, .int .i64 bb] rfl (heap_alloc_new w5 _) rfl (by simp [Value.oneCell']) (by omega) (by omega) (by omega) (by have := HSZ.out; simp; omega) ?_
      intro gb cap w7 hown7 hgr hat
      have hlo : ∀ i, (Value.slice (some ⟨ga, 0, none⟩) l.length c).ownBlock = some i → w.heap.size ≤ i := fun i e => (World.ownsRow.lt hes1 i e).1
      have HBP7 := Lib.hid (block_other (block_at (b := hal) HBP.out) hes1 hgr (by decide))
      have HR7 := Lib.hid ((HR.out.bel hal.out).kept (w1 := w7) (fun i hi => hgr.block i (by have := HR.out.lt; simp; omega) (fun e => by have := hlo i e.symm; omega)))
      have HG7 := Lib.hid ((HG.out.trans (Gr.of_bel hal.out)).own hgr hlo)
      have HE7 := Lib.hid (HasDs.more (a := ⟨kd, aa, bb⟩) hes1.1 hes2 hown7)
      clear hown7 hgr hat hal hlo hes1 hes2
      have hms : (m : Int) - 1 = ((m - 1 : Nat) : Int) := by omega
      have HMS := Lib.hid hms; clear hms
      go_wp2
      exact ⟨⟨m - 1, l ++ [⟨kd, aa, bb⟩], gb, cap, by rw [HMS.out], by simp, by simp; omega, HBP7.out, by show HasDs _ _ _ _; rw [List.length_append, List.length_singleton]; exact HE7.out, HR7.out.mono (by omega), HG7.out⟩, by simp [intOf]; omega⟩
    · have hm0 : (m : Int) ≤ 0 := by omega
      go_wp2
      go_ret
      exact ⟨ga, c, l, rfl, by omega, hE.out, hR.out.mono (by omega), hG.out.out⟩
end Go.Proofs.YtpfncjaclgcbnaaDoor.Ub
