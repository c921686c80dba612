/- Contract of what draws desks. -/
import Derived.Test.YtpfncjaclgcbnaaDoorD6
set_option linter.unusedVariables false
set_option linter.unusedSimpArgs false
namespace Go.Proofs.YtpfncjaclgcbnaaDoor.Ub
open Go.RowKit Go.Proofs.YtpfncjaclgcbnaaDoorW

def DeskP (g P : Nat) (w : World) (e : Ending) (w' : World) : Prop := ∃ v d, e = .returned v ∧ HasD w' w.heap.size v d ∧ d.now.st.length ≤ 3 ∧ d.past.length ≤ 6 ∧ Rd w' g (P + 200) ∧ w.grownBy w' (some g)
theorem new_small {p : Pl} (h : p.st.length ≤ 3) : (newDk p).now.st.length ≤ 3 ∧ (newDk p).past.length = 0 := by
  unfold newDk
  cases placeOk p with
  | true => exact ⟨h, rfl⟩
  | false => exact ⟨by simp [newOf, zd, z0], rfl⟩
theorem push_len (ps : List Pl) (p : Pl) : (pushPast ps p).length ≤ ps.length + 1 := by
  by_cases h : 8 < ps.length + 1
  · rw [pushPast_long h]; simp
  · rw [pushPast_short h]; simp
theorem do_small {d : Dk} {a : Dd} (h : doOk d a = true) : (doDesk d a).now.st.length ≤ 3 ∧ (doDesk d a).past.length ≤ d.past.length + 1 := by
  have hok : deskOk d = true := by simp only [doOk, Bool.and_eq_true] at h; exact h.1
  refine ⟨(desk_small (do_desk (a := a) hok)).1, ?_⟩
  by_cases hb : backOk d a = true
  · rw [(do_back hok hb).1]; simp; omega
  · have hb' := eq_false_of_ne_true hb
    have ht : took d.now (madeOf d.now a) = true := by simpa [doOk, hok, hb'] using h
    rw [(do_took hok hb' ht).1]; exact push_len _ _
structure One where
  a : Dd
  X0 : Option Addr
  x0 : Nat
  X2 : Option Addr
  x2 : Nat
  X3 : Option Addr
  x3 : Nat
  g8 : Nat
def One.v (t : One) (d : Dk) : Value := .agg #[.slice t.X0 (doDesk d t.a).now.st.length t.x0, .int .i64 (doDesk d t.a).now.step, .slice t.X2 (doDesk d t.a).now.word.length t.x2, .slice t.X3 (doDesk d t.a).past.length t.x3]
theorem HasD.form {w : World} {lo : Nat} {v : Value} {d : Dk} (h : HasD w lo v d) : ∃ X0 x0 X2 x2 X3 x3, v = .agg #[.slice X0 d.now.st.length x0, .int .i64 d.now.step, .slice X2 d.now.word.length x2, .slice X3 d.past.length x3] := by
  obtain ⟨_, _, _, rfl, h0, h2, h3⟩ := h
  obtain ⟨X0, x0, rfl⟩ := h0.ints.form
  obtain ⟨X2, x2, rfl⟩ := h2.ints.form
  obtain ⟨X3, x3, rfl⟩ := h3.pls.form
  exact ⟨_, _, _, _, _, _, rfl⟩
theorem HasD.gr {g P : Nat} {w w1 : World} {lo : Nat} {v : Value} {d : Dk} (h : HasD w lo v d) (hr : Rd w g P) (hg : w.grownBy w1 (some g)) : HasD w1 lo v d := h.pick hr.block.choose_spec (by decide) (by decide) hg
theorem HasD.set1 {w : World} {lo : Nat} {v : Value} {d : Dk} {g : Nat} {cs : Array Value} {ty : TypeId} {fr : Nat × Nat} (h : HasD w lo v d) (hb : w.heap[g]? = some (.cells cs ty fr)) (h1 : 3 ≠ ty) (h2 : 25 ≠ ty) (j : Nat) (u : Value) : HasD (w.setCell ⟨g, j, none⟩ u) lo v d := by
  obtain ⟨x0, x2, x3, e, k0, k2, k3⟩ := h
  exact ⟨x0, x2, x3, e, own_far k0 (own_ne k0 hb h1), own_far k2 (own_ne k2 hb h1), k3.set hb h1 h2 j u⟩
theorem rd_set4 {w : World} {g P ga : Nat} (h : Rd w g P) (hg : g < ga) (u0 u1 u2 u3 : Value) : Rd (set4 w ga u0 u1 u2 u3) g P :=
  rd_set1 (rd_set3 h hg u0 u1 u2) hg 3 u3
theorem gr_set4 {g : Nat} {w a : World} (h : Gr g w a) {ga : Nat} (hp : w.heap.size ≤ ga) (u0 u1 u2 u3 : Value) : Gr g w (set4 a ga u0 u1 u2 u3) :=
  (((h.set (p := ⟨ga, 0, none⟩) hp u0).set (p := ⟨ga, 1, none⟩) hp u1).set (p := ⟨ga, 2, none⟩) hp u2).set (p := ⟨ga, 3, none⟩) hp u3

theorem HasD.parts {w : World} {lo : Nat} {x0 u x2 x3 : Value} {d : Dk} (h : HasD w lo (.agg #[x0, u, x2, x3]) d) : OwnI w lo x0 d.now.st ∧ OwnI w lo x2 d.now.word ∧ HasPs w lo x3 d.past := by
  obtain ⟨_, _, _, e, h⟩ := h
  injection e with e
  simp only [Array.mk.injEq, List.cons.injEq, and_true] at e
  obtain ⟨rfl, _, rfl, rfl⟩ := e
  exact h
theorem HasPs.more {w w1 : World} {lo : Nat} {v v' : Value} {ps : List Pl} {p : Pl} {x0 x2 : Value} {es : List Value} (hes : w.ownsRow lo 25 3 v ps.length es)
    (hin : ∀ j, j < ps.length → ∃ x0 x2, es[j * 3]? = some x0 ∧ es[j * 3 + 1]? = some (.int .i64 (ps.getD j z0).step) ∧ es[j * 3 + 2]? = some x2 ∧ OwnI w lo x0 (ps.getD j z0).st ∧ OwnI w lo x2 (ps.getD j z0).word)
    (h0 : OwnI w lo x0 p.st) (h2 : OwnI w lo x2 p.word) (hg : w.grownBy w1 v.ownBlock) (h1 : w1.ownsRow lo 25 3 v' (ps.length + 1) (es ++ [x0, .int .i64 p.step, x2])) : HasPs w1 lo v' (ps ++ [p]) := by
  have hl : es.length = ps.length * 3 := hes.1
  have keep : ∀ {u : Value} {xs : List Int}, OwnI w lo u xs → OwnI w1 lo u xs := fun {u xs} h => own_other h hes hg (by decide)
  refine ⟨es ++ [x0, .int .i64 p.step, x2], by rw [List.length_append]; exact h1, fun j hj => ?_⟩
  rw [List.length_append, List.length_singleton] at hj
  by_cases e2 : j < ps.length
  · obtain ⟨y0, y2, k0, k1, k2, k3, k4⟩ := hin j e2
    have e : (ps ++ [p]).getD j z0 = ps.getD j z0 := by simp [List.getD, List.getElem?_append_left e2]
    rw [e]
    exact ⟨y0, y2, by rw [List.getElem?_append_left (by omega)]; exact k0, by rw [List.getElem?_append_left (by omega)]; exact k1, by rw [List.getElem?_append_left (by omega)]; exact k2, keep k3, keep k4⟩
  · obtain rfl : j = ps.length := by omega
    have e : (ps ++ [p]).getD ps.length z0 = p := by simp [List.getD]
    rw [e]
    exact ⟨x0, x2, by rw [List.getElem?_append_right (by omega)]; simp [hl], by rw [List.getElem?_append_right (by omega)]; simp [hl], by rw [List.getElem?_append_right (by omega)]; simp [hl], keep h0, keep h2⟩
theorem HasD.step {w : World} {lo : Nat} {x0 u x2 x3 : Value} {d : Dk} (h : HasD w lo (.agg #[x0, u, x2, x3]) d) (n : Int) : HasD w lo (.agg #[x0, .int .i64 n, x2, x3]) ⟨⟨d.now.st, n, d.now.word⟩, d.past⟩ := by
  obtain ⟨_, _, _, e, h⟩ := h
  injection e with e
  simp only [Array.mk.injEq, List.cons.injEq, and_true] at e
  obtain ⟨rfl, _, rfl, rfl⟩ := e
  exact ⟨_, _, _, rfl, h⟩

set_option maxHeartbeats 4000000 in
set_option maxRecDepth 100000 in
theorem s_l20Desk (g P : Nat) (w : World) (h : Rd w g P) (hP : P ≤ 50000) : Calls Tryd.prog 32 #[.pointer (some ⟨g, 0, none⟩), .int .i64 12] w (DeskP g P w) := by
  have hgw : g < w.heap.size := h.lt
  obtain ⟨W0, hW0⟩ : ∃ W0, W0 = w.alloc (.cells #[.slice none 0 0, .int .i64 0, .slice none 0 0, .slice none 0 0] 28) := ⟨_, rfl⟩
  have hb0 : Below w.heap.size w W0 := by rw [hW0]; exact (Bel.alloc (w := w) (W := w)).out
  have BR0 : W0.heap[w.heap.size]? = some (.cells #[.slice none 0 0, .int .i64 0, .slice none 0 0, .slice none 0 0] 28 (0, 0)) := by rw [hW0]; exact heap_alloc_new _ _
  have hz0 : W0.heap.size = w.heap.size + 1 := by rw [hW0]; simp
  have hR0 := h.bel hb0
  go_enter Tryd.func32, Tryd.ntmps32
  go_wp2_with fail
  rw [← hW0]
  refine (s_l20Place g P _ hR0 (by omega)).mono ?_
  rintro e w1 ⟨v, p, rfl, hPl, hps, hpw, hR1, hG1⟩
  have hg0 : w.heap.size ≠ g := by omega
  have BR1 := (⟨hG1⟩ : Gr g W0 w1).block BR0 hg0
  have hz1 := hG1.size
  have hGw1 : Gr g w w1 := (Gr.of_bel hb0).trans ⟨hG1⟩
  clear BR0 h hR0 hG1 hb0 hW0
  obtain ⟨sm1, sm2⟩ := new_small hps
  go_wp2_with fail
  refine (s_DeskNew v p _ hPl.pl (by omega) (by omega)).mono ?_
  generalize newDk p = d at *
  rintro e w2 ⟨v2, rfl, hD2, hb2⟩
  have SM2 := Lib.hid sm2; clear sm2
  have BR2 := (hb2.block _ (Array.getElem?_eq_some_iff.1 BR1).1).trans BR1
  have hR2 := hR1.bel hb2
  have hGw2 := hGw1.trans (Gr.of_bel hb2)
  have hz2 := hb2.size
  obtain ⟨D0, e0, D2, e2, D3, e3, rfl⟩ := hD2.form
  clear BR1 hR1 hGw1 hb2 hPl
  go_upto_region 2 with (fail)
  obtain ⟨W3, hW3⟩ : ∃ W3, W3 = w2.alloc (.cells #[.slice D0 d.now.st.length e0, .int .i64 d.now.step, .slice D2 d.now.word.length e2, .slice D3 d.past.length e3] 28) := ⟨_, rfl⟩
  rw [← hW3]
  have hb3 : Below w2.heap.size w2 W3 := by rw [hW3]; exact (Bel.alloc (w := w2) (W := w2)).out
  have BD3 : W3.heap[w2.heap.size]? = some (.cells #[.slice D0 d.now.st.length e0, .int .i64 d.now.step, .slice D2 d.now.word.length e2, .slice D3 d.past.length e3] 28 (0, 0)) := by rw [hW3]; exact heap_alloc_new _ _
  have BR3 := (hb3.block _ (Array.getElem?_eq_some_iff.1 BR2).1).trans BR2
  have hR3 := hR2.bel hb3
  have hD3 := hD2.bel hb3
  have hGw3 := hGw2.trans (Gr.of_bel hb3)
  obtain ⟨gd, hgd⟩ : ∃ gd, gd = w2.heap.size := ⟨_, rfl⟩
  rw [← hgd] at BD3 ⊢
  have hgd1 : w.heap.size < gd := by omega
  have hwgd : w1.heap.size ≤ gd := by omega
  clear hW3 hb3 BR2 hR2 hD2 hGw2 hz2 hgd
  go_wp2_with fail
  refine (s_pick g _ 5 _ hR3 (by omega) (by omega) (by omega)).mono ?_
  rintro e w4 ⟨k, rfl, hk, hR4, hG4⟩
  have hk5 : (k : Int) < 5 := hk (by omega)
  have HBD4 := Lib.hid ((⟨hG4⟩ : Gr g W3 w4).block BD3 (by omega))
  have HBR4 := Lib.hid ((⟨hG4⟩ : Gr g W3 w4).block BR3 hg0)
  have HD4 := Lib.hid ((hD3.gr hR3 hG4).lo (lo' := w.heap.size) (by omega))
  have HG4 := Lib.hid (hGw3.trans ⟨hG4⟩)
  have HR4 := Lib.hid hR4
  have HLW : Hid (w.heap.size < gd) := hgd1
  clear hk BD3 BR3 hR3 hD3 hGw3 hR4 hG4 hz0 hz1 hwgd hg0 hgd1
  go_wp2
  go_loopw [7, 8, 9] (fun i _ _ wr => ∃ (m : Nat) (d : Dk) (D0 : Option Addr) (e0 : Nat) (D2 : Option Addr) (e2 : Nat) (D3 : Option Addr) (e3 : Nat), i = .int .i64 m ∧ d.past.length + m ≤ 4 ∧ d.now.st.length ≤ 3 ∧
    Hid (wr.heap[gd]? = some (.cells #[.slice D0 d.now.st.length e0, .int .i64 d.now.step, .slice D2 d.now.word.length e2, .slice D3 d.past.length e3] 28 (0, 0))) ∧ Hid (wr.heap[w.heap.size]? = some (.cells #[.slice none 0 0, .int .i64 0, .slice none 0 0, .slice none 0 0] 28 (0, 0))) ∧
    Hid (HasD wr w.heap.size (.agg #[.slice D0 d.now.st.length e0, .int .i64 d.now.step, .slice D2 d.now.word.length e2, .slice D3 d.past.length e3]) d) ∧ Hid (Rd wr g (P + 100 - 15 * m)) ∧ Hid (Gr g w wr)) (fun i _ _ _ => (intOf i).toNat)
  case atStart => exact ⟨k, d, D0, e0, D2, e2, D3, e3, rfl, by have := SM2.out; omega, sm1, HBD4.out, HBR4.out, HD4.out, HR4.out.mono (by omega), HG4.out⟩
  case round =>
    clear HBD4 HBR4 HD4 HG4 HR4 sm1 SM2
    obtain ⟨m, d, D0, e0, D2, e2, D3, e3, rfl, hm, hst, hBD, hBR, hD, hR, hG⟩ := hrel
    have o0 := block_cell hBD.out 0 rfl
    have o1 := block_cell hBD.out 1 rfl
    have o2 := block_cell hBD.out 2 rfl
    have o3 := block_cell hBD.out 3 rfl
    by_cases h0 : 0 < m
    · go_upto_region 5 with (fail)
      have HNGD : Hid (gd ≠ g) := by show _ ≠ _; have := HLW.out; omega
      have HNGR : Hid (w.heap.size ≠ g) := by show _ ≠ _; omega
      refine PrintLast.start_ (n := 12) (S := fun w' => w'.cell? ⟨gd, 0, none⟩ = some (.slice D0 d.now.st.length e0) ∧ w'.cell? ⟨gd, 1, none⟩ = some (.int .i64 d.now.step) ∧ w'.cell? ⟨gd, 2, none⟩ = some (.slice D2 d.now.word.length e2) ∧ w'.cell? ⟨gd, 3, none⟩ = some (.slice D3 d.past.length e3)) (ds := [10]) #[false, false, false, false, false, false, false, false, false, false, false, false] (by kernel_rfl) rfl rfl ⟨cell_at o0, cell_at o1, cell_at o2, cell_at o3⟩ (fun hHeld => ?_)
      refine PrintLast.take_ (i := 0) (N := (some 23)) (v := ?_) (a' := ?_) #[true, false, false, false, false, false, false, false, false, false, false, false] rfl rfl (by kernel_rfl) (fun _ _ _ h => h) (Or.inl ⟨by rfl, ?_⟩) hHeld ?_ ?_
      rotate_left
      · (rintro w' ⟨s0, s1, s2, s3⟩; go_simp; with_reducible rfl)
      rotate_left
      · (simp only [Act.put, List.setIfInBounds_toArray, List.set_cons_zero, List.set_cons_succ, PrintLast.i64_w, PrintLast.i32_w]; rfl)
      refine PrintLast.pure_ (i := 1) (N := (some 24)) (v := ?_) (a' := ?_) #[true, true, false, false, false, false, false, false, false, false, false, false] rfl rfl (by kernel_rfl) (fun _ _ _ h => h) (Or.inl ⟨by rfl, ?_⟩) ?_ ?_
      rotate_left
      · (intro w'; go_simp; with_reducible rfl)
      rotate_left
      · (simp only [Act.put, List.setIfInBounds_toArray, List.set_cons_zero, List.set_cons_succ, PrintLast.i64_w, PrintLast.i32_w]; rfl)
      refine PrintLast.pure_ (i := 2) (N := (some 25)) (v := ?_) (a' := ?_) #[true, true, true, false, false, false, false, false, false, false, false, false] rfl rfl (by kernel_rfl) (fun _ _ _ h => h) (Or.inl ⟨by rfl, ?_⟩) ?_ ?_
      rotate_left
      · (intro w'; go_simp; with_reducible rfl)
      rotate_left
      · (simp only [Act.put, List.setIfInBounds_toArray, List.set_cons_zero, List.set_cons_succ, PrintLast.i64_w, PrintLast.i32_w]; rfl)
      refine PrintLast.take_ (i := 3) (N := (some 26)) (v := ?_) (a' := ?_) #[true, true, true, true, false, false, false, false, false, false, false, false] rfl rfl (by kernel_rfl) (fun _ _ _ h => h) (Or.inl ⟨by rfl, ?_⟩) hHeld ?_ ?_
      rotate_left
      · (rintro w' ⟨s0, s1, s2, s3⟩; go_simp; with_reducible rfl)
      rotate_left
      · (simp only [Act.put, List.setIfInBounds_toArray, List.set_cons_zero, List.set_cons_succ, PrintLast.i64_w, PrintLast.i32_w]; rfl)
      refine PrintLast.join_ (σ := One) 2 #[true, true, true, true, true, true, true, true, true, true, false, false] (fun t => [(27, ddV t.a), (28, .tuple #[t.v d, .bool (doOk d t.a)]), (8, .pointer (some ⟨t.g8, 0, none⟩)), (22, .tuple #[t.v d, .bool (doOk d t.a)]), (29, t.v d), (30, .bool (doOk d t.a))]) (fun t w' => w'.heap[gd]? = some (.cells #[.slice D0 d.now.st.length e0, .int .i64 d.now.step, .slice D2 d.now.word.length e2, .slice D3 d.past.length e3] 28 (0, 0)) ∧ w'.heap[w.heap.size]? = some (.cells #[.slice none 0 0, .int .i64 0, .slice none 0 0, .slice none 0 0] 28 (0, 0)) ∧ w'.heap[t.g8]? = some (.cells #[.slice none 0 0, .int .i64 0, .slice none 0 0, .slice none 0 0] 28 (0, 0)) ∧ HasD w' w.heap.size (.agg #[.slice D0 d.now.st.length e0, .int .i64 d.now.step, .slice D2 d.now.word.length e2, .slice D3 d.past.length e3]) d ∧ HasD w' w.heap.size (t.v d) (doDesk d t.a) ∧ Rd w' g (P + 100 - 15 * (m - 1)) ∧ Gr g wr w' ∧ w.heap.size < t.g8 ∧ t.g8 ≠ gd) ?_ ?_
      rotate_left
      · intro hCont
        obtain ⟨d0, hd0⟩ : ∃ d0, d0 = wr.drew := ⟨_, rfl⟩
        rw [← hd0]
        have hb : Below wr.heap.size wr d0 := by rw [hd0]; exact (Bel.drew (w := wr) (W := wr)).out
        have hBD0 := hBD
        have hGs : Hid (Gr g wr wr) := ⟨grown_refl _ _⟩
        have hBD := Lib.hid ((hb.block _ (Array.getElem?_eq_some_iff.1 hBD.out).1).trans hBD.out)
        have hBR := Lib.hid ((hb.block _ (Array.getElem?_eq_some_iff.1 hBR.out).1).trans hBR.out)
        have hD := Lib.hid (hD.out.bel hb)
        have hGs := Lib.hid (hGs.out.trans (Gr.of_bel hb))
        have hR := Lib.hid (hR.out.bel hb)
        clear hb hd0
        refine PrintLast.two_ (i := 4) (j := 9) (Ni := some 27) (Nj := some 8) #[true, true, true, true, true, false, false, false, false, false, false, false] #[true, true, true, true, false, false, false, false, false, true, false, false] rfl rfl rfl rfl (by kernel_rfl) (by decide) (by decide) (fun K hK => ?_) (fun K hK => ?_)
        · skip
          refine PrintLast.goes_ Tryd.func33 (by kernel_rfl) rfl #[.pointer (some ⟨g, 0, none⟩), .agg #[.slice D0 d.now.st.length e0, .int .i64 d.now.step, .slice D2 d.now.word.length e2]] (by rfl) rfl rfl (by (try simp only [List.map_toArray, List.map_cons, List.map_nil]); first | done | rfl) ?_
          refine (s_l20Deed g _ d.now.st.length d.now.word.length e0 e2 D0 D2 d.now.step _ hR.out (by omega) (by omega)).mono ?_
          rintro e d1 ⟨a, rfl, hR1, hG1⟩
          refine ⟨_, rfl, ?_⟩
          have hBD := Lib.hid ((⟨hG1⟩ : Gr g d0 d1).block hBD.out HNGD.out)
          have hBR := Lib.hid ((⟨hG1⟩ : Gr g d0 d1).block hBR.out HNGR.out)
          have hD := Lib.hid (hD.out.gr hR.out hG1)
          have hGs := Lib.hid (hGs.out.trans ⟨hG1⟩)
          skip
          have hR := Lib.hid hR1
          clear hR1 hG1
          refine hK.out _ _ ⟨block_cell hBD.out 0 rfl, block_cell hBD.out 1 rfl, block_cell hBD.out 2 rfl, block_cell hBD.out 3 rfl⟩ (fun hHeld => ?_)
          clear hK K
          refine PrintLast.norm_ (a' := ?_) ?_ ?_
          rotate_left
          · (show Act.put _ (some 27) _ = _; simp only [Act.put, List.setIfInBounds_toArray, List.set_cons_zero, List.set_cons_succ, PrintLast.i64_w, PrintLast.i32_w]; rfl)
          refine PrintLast.two_ (i := 5) (j := 9) (Ni := some 28) (Nj := some 8) #[true, true, true, true, true, true, false, false, false, false, false, false] #[true, true, true, true, true, false, false, false, false, true, false, false] rfl rfl rfl rfl (by kernel_rfl) (by decide) (by decide) (fun K hK => ?_) (fun K hK => ?_)
          · skip
            refine PrintLast.goes_ Tryd.func9 (by kernel_rfl) rfl #[.agg #[.slice D0 d.now.st.length e0, .int .i64 d.now.step, .slice D2 d.now.word.length e2, .slice D3 d.past.length e3], ddV a] (by rfl) rfl rfl (by (try simp only [List.map_toArray, List.map_cons, List.map_nil]); first | done | rfl) ?_
            have hsz5 : w.heap.size ≤ d1.heap.size := by have := hGs.out.size; have := hG.out.size; omega
            refine (s_DeskDo _ d a _ hD.out.dk).mono ?_
            rintro e d2 ⟨vx, rfl, hx, hb⟩
            have hX1 := hx.2 (by omega)
            obtain ⟨X0, x0, X2, x2, X3, x3, rfl⟩ := hX1.form
            have hX := Lib.hid (hX1.lo hsz5)
            refine ⟨_, rfl, ?_⟩
            have hBD := Lib.hid ((hb.block _ (Array.getElem?_eq_some_iff.1 hBD.out).1).trans hBD.out)
            have hBR := Lib.hid ((hb.block _ (Array.getElem?_eq_some_iff.1 hBR.out).1).trans hBR.out)
            have hD := Lib.hid (hD.out.bel hb)
            have hGs := Lib.hid (hGs.out.trans (Gr.of_bel hb))
            have hR := Lib.hid (hR.out.bel hb)
            skip
            clear hb hx hX1 hsz5
            refine hK.out _ _ ⟨block_cell hBD.out 0 rfl, block_cell hBD.out 1 rfl, block_cell hBD.out 2 rfl, block_cell hBD.out 3 rfl⟩ (fun hHeld => ?_)
            clear hK K
            refine PrintLast.norm_ (a' := ?_) ?_ ?_
            rotate_left
            · (show Act.put _ (some 28) _ = _; simp only [Act.put, List.setIfInBounds_toArray, List.set_cons_zero, List.set_cons_succ, PrintLast.i64_w, PrintLast.i32_w]; rfl)
            refine PrintLast.pure_ (i := 6) (N := (some 22)) (v := ?_) (a' := ?_) #[true, true, true, true, true, true, true, false, false, false, false, false] rfl rfl (by kernel_rfl) (fun _ _ _ h => h) (Or.inl ⟨by rfl, ?_⟩) ?_ ?_
            rotate_left
            · (intro w'; go_simp; with_reducible rfl)
            rotate_left
            · (simp only [Act.put, List.setIfInBounds_toArray, List.set_cons_zero, List.set_cons_succ, PrintLast.i64_w, PrintLast.i32_w]; rfl)
            refine PrintLast.pure_ (i := 7) (N := (some 29)) (v := ?_) (a' := ?_) #[true, true, true, true, true, true, true, true, false, false, false, false] rfl rfl (by kernel_rfl) (fun _ _ _ h => h) (Or.inl ⟨by rfl, ?_⟩) ?_ ?_
            rotate_left
            · (intro w'; go_simp; with_reducible rfl)
            rotate_left
            · (simp only [Act.put, List.setIfInBounds_toArray, List.set_cons_zero, List.set_cons_succ, PrintLast.i64_w, PrintLast.i32_w]; rfl)
            refine PrintLast.pure_ (i := 8) (N := (some 30)) (v := ?_) (a' := ?_) #[true, true, true, true, true, true, true, true, true, false, false, false] rfl rfl (by kernel_rfl) (fun _ _ _ h => h) (Or.inl ⟨by rfl, ?_⟩) ?_ ?_
            rotate_left
            · (intro w'; go_simp; with_reducible rfl)
            rotate_left
            · (simp only [Act.put, List.setIfInBounds_toArray, List.set_cons_zero, List.set_cons_succ, PrintLast.i64_w, PrintLast.i32_w]; rfl)
            refine PrintLast.one_ (i := 9) (N := (some 8)) #[true, true, true, true, true, true, true, true, true, true, false, false] rfl rfl (by kernel_rfl) (by decide) (fun K hK => ?_)
            refine PrintLast.value_ (w1 := ?_) (v := ?_) (by rfl) rfl ?_ ?_
            rotate_left 2
            · (go_simp; constructor <;> rfl)
            obtain ⟨d3, hu⟩ : ∃ u, u = d2.alloc (.cells #[.slice none 0 0, .int .i64 0, .slice none 0 0, .slice none 0 0] 28) := ⟨_, rfl⟩
            rw [← hu]
            have hb : Below d2.heap.size d2 d3 := by rw [hu]; exact (Bel.alloc (w := d2) (W := d2)).out
            obtain ⟨g8, h8⟩ : ∃ b, b = d2.heap.size := ⟨_, rfl⟩
            have hB8 : Hid (d3.heap[g8]? = some (.cells #[.slice none 0 0, .int .i64 0, .slice none 0 0, .slice none 0 0] 28 (0, 0))) := by show _ = _; rw [hu, h8]; exact heap_alloc_new _ _
            have hl8 : Hid (wr.heap.size ≤ g8) := by show _ ≤ _; rw [h8]; exact hGs.out.size
            rw [← h8]
            have hBD := Lib.hid ((hb.block _ (Array.getElem?_eq_some_iff.1 hBD.out).1).trans hBD.out)
            have hBR := Lib.hid ((hb.block _ (Array.getElem?_eq_some_iff.1 hBR.out).1).trans hBR.out)
            have hD := Lib.hid (hD.out.bel hb)
            have hGs := Lib.hid (hGs.out.trans (Gr.of_bel hb))
            have hR := Lib.hid (hR.out.bel hb)
            have hX := Lib.hid (hX.out.bel hb)
            clear hb hu h8
            refine hK.out _ _ ⟨block_cell hBD.out 0 rfl, block_cell hBD.out 1 rfl, block_cell hBD.out 2 rfl, block_cell hBD.out 3 rfl⟩ (fun hHeld => ?_)
            clear hK K
            refine PrintLast.norm_ (a' := ?_) ?_ ?_
            rotate_left
            · (show Act.put _ (some 8) _ = _; simp only [Act.put, List.setIfInBounds_toArray, List.set_cons_zero, List.set_cons_succ, PrintLast.i64_w, PrintLast.i32_w]; rfl)
            have hgsz := hG.out.size
            have hd1 := (Array.getElem?_eq_some_iff.1 hBD0.out).1
            exact PrintLast.norm_ (by simp only [PrintLast.putAll, Act.put, List.setIfInBounds_toArray, List.set_cons_zero, List.set_cons_succ, One.v]) (hCont ⟨a, X0, x0, X2, x2, X3, x3, g8⟩ _ ⟨hBD.out, hBR.out, hB8.out, hD.out, hX.out, hR.out.mono (by omega), hGs.out, (by simp only; have := hl8.out; have := HLW.out; omega), (by simp only; have := hl8.out; omega)⟩)
          · skip
            refine PrintLast.value_ (w1 := ?_) (v := ?_) (by rfl) rfl ?_ ?_
            rotate_left 2
            · (go_simp; constructor <;> rfl)
            obtain ⟨d2, hu⟩ : ∃ u, u = d1.alloc (.cells #[.slice none 0 0, .int .i64 0, .slice none 0 0, .slice none 0 0] 28) := ⟨_, rfl⟩
            rw [← hu]
            have hb : Below d1.heap.size d1 d2 := by rw [hu]; exact (Bel.alloc (w := d1) (W := d1)).out
            obtain ⟨g8, h8⟩ : ∃ b, b = d1.heap.size := ⟨_, rfl⟩
            have hB8 : Hid (d2.heap[g8]? = some (.cells #[.slice none 0 0, .int .i64 0, .slice none 0 0, .slice none 0 0] 28 (0, 0))) := by show _ = _; rw [hu, h8]; exact heap_alloc_new _ _
            have hl8 : Hid (wr.heap.size ≤ g8) := by show _ ≤ _; rw [h8]; exact hGs.out.size
            rw [← h8]
            have hBD := Lib.hid ((hb.block _ (Array.getElem?_eq_some_iff.1 hBD.out).1).trans hBD.out)
            have hBR := Lib.hid ((hb.block _ (Array.getElem?_eq_some_iff.1 hBR.out).1).trans hBR.out)
            have hD := Lib.hid (hD.out.bel hb)
            have hGs := Lib.hid (hGs.out.trans (Gr.of_bel hb))
            have hR := Lib.hid (hR.out.bel hb)
            skip
            clear hb hu h8
            refine hK.out _ _ ⟨block_cell hBD.out 0 rfl, block_cell hBD.out 1 rfl, block_cell hBD.out 2 rfl, block_cell hBD.out 3 rfl⟩ (fun hHeld => ?_)
            clear hK K
            refine PrintLast.norm_ (a' := ?_) ?_ ?_
            rotate_left
            · (show Act.put _ (some 8) _ = _; simp only [Act.put, List.setIfInBounds_toArray, List.set_cons_zero, List.set_cons_succ, PrintLast.i64_w, PrintLast.i32_w]; rfl)
            refine PrintLast.one_ (i := 5) (N := (some 28)) #[true, true, true, true, true, true, false, false, false, true, false, false] rfl rfl (by kernel_rfl) (by decide) (fun K hK => ?_)
            refine PrintLast.goes_ Tryd.func9 (by kernel_rfl) rfl #[.agg #[.slice D0 d.now.st.length e0, .int .i64 d.now.step, .slice D2 d.now.word.length e2, .slice D3 d.past.length e3], ddV a] (by rfl) rfl rfl (by (try simp only [List.map_toArray, List.map_cons, List.map_nil]); first | done | rfl) ?_
            have hsz5 : w.heap.size ≤ d2.heap.size := by have := hGs.out.size; have := hG.out.size; omega
            refine (s_DeskDo _ d a _ hD.out.dk).mono ?_
            rintro e d3 ⟨vx, rfl, hx, hb⟩
            have hX1 := hx.2 (by omega)
            obtain ⟨X0, x0, X2, x2, X3, x3, rfl⟩ := hX1.form
            have hX := Lib.hid (hX1.lo hsz5)
            refine ⟨_, rfl, ?_⟩
            have hBD := Lib.hid ((hb.block _ (Array.getElem?_eq_some_iff.1 hBD.out).1).trans hBD.out)
            have hBR := Lib.hid ((hb.block _ (Array.getElem?_eq_some_iff.1 hBR.out).1).trans hBR.out)
            have hD := Lib.hid (hD.out.bel hb)
            have hGs := Lib.hid (hGs.out.trans (Gr.of_bel hb))
            have hR := Lib.hid (hR.out.bel hb)
            have hB8 := Lib.hid ((hb.block _ (Array.getElem?_eq_some_iff.1 hB8.out).1).trans hB8.out)
            clear hb hx hX1 hsz5
            refine hK.out _ _ ⟨block_cell hBD.out 0 rfl, block_cell hBD.out 1 rfl, block_cell hBD.out 2 rfl, block_cell hBD.out 3 rfl⟩ (fun hHeld => ?_)
            clear hK K
            refine PrintLast.norm_ (a' := ?_) ?_ ?_
            rotate_left
            · (show Act.put _ (some 28) _ = _; simp only [Act.put, List.setIfInBounds_toArray, List.set_cons_zero, List.set_cons_succ, PrintLast.i64_w, PrintLast.i32_w]; rfl)
            refine PrintLast.pure_ (i := 6) (N := (some 22)) (v := ?_) (a' := ?_) #[true, true, true, true, true, true, true, false, false, true, false, false] rfl rfl (by kernel_rfl) (fun _ _ _ h => h) (Or.inl ⟨by rfl, ?_⟩) ?_ ?_
            rotate_left
            · (intro w'; go_simp; with_reducible rfl)
            rotate_left
            · (simp only [Act.put, List.setIfInBounds_toArray, List.set_cons_zero, List.set_cons_succ, PrintLast.i64_w, PrintLast.i32_w]; rfl)
            refine PrintLast.pure_ (i := 7) (N := (some 29)) (v := ?_) (a' := ?_) #[true, true, true, true, true, true, true, true, false, true, false, false] rfl rfl (by kernel_rfl) (fun _ _ _ h => h) (Or.inl ⟨by rfl, ?_⟩) ?_ ?_
            rotate_left
            · (intro w'; go_simp; with_reducible rfl)
            rotate_left
            · (simp only [Act.put, List.setIfInBounds_toArray, List.set_cons_zero, List.set_cons_succ, PrintLast.i64_w, PrintLast.i32_w]; rfl)
            refine PrintLast.pure_ (i := 8) (N := (some 30)) (v := ?_) (a' := ?_) #[true, true, true, true, true, true, true, true, true, true, false, false] rfl rfl (by kernel_rfl) (fun _ _ _ h => h) (Or.inl ⟨by rfl, ?_⟩) ?_ ?_
            rotate_left
            · (intro w'; go_simp; with_reducible rfl)
            rotate_left
            · (simp only [Act.put, List.setIfInBounds_toArray, List.set_cons_zero, List.set_cons_succ, PrintLast.i64_w, PrintLast.i32_w]; rfl)
            have hgsz := hG.out.size
            have hd1 := (Array.getElem?_eq_some_iff.1 hBD0.out).1
            exact PrintLast.norm_ (by simp only [PrintLast.putAll, Act.put, List.setIfInBounds_toArray, List.set_cons_zero, List.set_cons_succ, One.v]) (hCont ⟨a, X0, x0, X2, x2, X3, x3, g8⟩ _ ⟨hBD.out, hBR.out, hB8.out, hD.out, hX.out, hR.out.mono (by omega), hGs.out, (by simp only; have := hl8.out; have := HLW.out; omega), (by simp only; have := hl8.out; omega)⟩)
        · skip
          refine PrintLast.value_ (w1 := ?_) (v := ?_) (by rfl) rfl ?_ ?_
          rotate_left 2
          · (go_simp; constructor <;> rfl)
          obtain ⟨d1, hu⟩ : ∃ u, u = d0.alloc (.cells #[.slice none 0 0, .int .i64 0, .slice none 0 0, .slice none 0 0] 28) := ⟨_, rfl⟩
          rw [← hu]
          have hb : Below d0.heap.size d0 d1 := by rw [hu]; exact (Bel.alloc (w := d0) (W := d0)).out
          obtain ⟨g8, h8⟩ : ∃ b, b = d0.heap.size := ⟨_, rfl⟩
          have hB8 : Hid (d1.heap[g8]? = some (.cells #[.slice none 0 0, .int .i64 0, .slice none 0 0, .slice none 0 0] 28 (0, 0))) := by show _ = _; rw [hu, h8]; exact heap_alloc_new _ _
          have hl8 : Hid (wr.heap.size ≤ g8) := by show _ ≤ _; rw [h8]; exact hGs.out.size
          rw [← h8]
          have hBD := Lib.hid ((hb.block _ (Array.getElem?_eq_some_iff.1 hBD.out).1).trans hBD.out)
          have hBR := Lib.hid ((hb.block _ (Array.getElem?_eq_some_iff.1 hBR.out).1).trans hBR.out)
          have hD := Lib.hid (hD.out.bel hb)
          have hGs := Lib.hid (hGs.out.trans (Gr.of_bel hb))
          have hR := Lib.hid (hR.out.bel hb)
          skip
          clear hb hu h8
          refine hK.out _ _ ⟨block_cell hBD.out 0 rfl, block_cell hBD.out 1 rfl, block_cell hBD.out 2 rfl, block_cell hBD.out 3 rfl⟩ (fun hHeld => ?_)
          clear hK K
          refine PrintLast.norm_ (a' := ?_) ?_ ?_
          rotate_left
          · (show Act.put _ (some 8) _ = _; simp only [Act.put, List.setIfInBounds_toArray, List.set_cons_zero, List.set_cons_succ, PrintLast.i64_w, PrintLast.i32_w]; rfl)
          refine PrintLast.one_ (i := 4) (N := (some 27)) #[true, true, true, true, true, false, false, false, false, true, false, false] rfl rfl (by kernel_rfl) (by decide) (fun K hK => ?_)
          refine PrintLast.goes_ Tryd.func33 (by kernel_rfl) rfl #[.pointer (some ⟨g, 0, none⟩), .agg #[.slice D0 d.now.st.length e0, .int .i64 d.now.step, .slice D2 d.now.word.length e2]] (by rfl) rfl rfl (by (try simp only [List.map_toArray, List.map_cons, List.map_nil]); first | done | rfl) ?_
          refine (s_l20Deed g _ d.now.st.length d.now.word.length e0 e2 D0 D2 d.now.step _ hR.out (by omega) (by omega)).mono ?_
          rintro e d2 ⟨a, rfl, hR1, hG1⟩
          refine ⟨_, rfl, ?_⟩
          have hBD := Lib.hid ((⟨hG1⟩ : Gr g d1 d2).block hBD.out HNGD.out)
          have hBR := Lib.hid ((⟨hG1⟩ : Gr g d1 d2).block hBR.out HNGR.out)
          have hD := Lib.hid (hD.out.gr hR.out hG1)
          have hGs := Lib.hid (hGs.out.trans ⟨hG1⟩)
          have hB8 := Lib.hid ((⟨hG1⟩ : Gr g d1 d2).block hB8.out (by have := hl8.out; have := hG.out.size; omega))
          have hR := Lib.hid hR1
          clear hR1 hG1
          refine hK.out _ _ ⟨block_cell hBD.out 0 rfl, block_cell hBD.out 1 rfl, block_cell hBD.out 2 rfl, block_cell hBD.out 3 rfl⟩ (fun hHeld => ?_)
          clear hK K
          refine PrintLast.norm_ (a' := ?_) ?_ ?_
          rotate_left
          · (show Act.put _ (some 27) _ = _; simp only [Act.put, List.setIfInBounds_toArray, List.set_cons_zero, List.set_cons_succ, PrintLast.i64_w, PrintLast.i32_w]; rfl)
          refine PrintLast.one_ (i := 5) (N := (some 28)) #[true, true, true, true, true, true, false, false, false, true, false, false] rfl rfl (by kernel_rfl) (by decide) (fun K hK => ?_)
          refine PrintLast.goes_ Tryd.func9 (by kernel_rfl) rfl #[.agg #[.slice D0 d.now.st.length e0, .int .i64 d.now.step, .slice D2 d.now.word.length e2, .slice D3 d.past.length e3], ddV a] (by rfl) rfl rfl (by (try simp only [List.map_toArray, List.map_cons, List.map_nil]); first | done | rfl) ?_
          have hsz5 : w.heap.size ≤ d2.heap.size := by have := hGs.out.size; have := hG.out.size; omega
          refine (s_DeskDo _ d a _ hD.out.dk).mono ?_
          rintro e d3 ⟨vx, rfl, hx, hb⟩
          have hX1 := hx.2 (by omega)
          obtain ⟨X0, x0, X2, x2, X3, x3, rfl⟩ := hX1.form
          have hX := Lib.hid (hX1.lo hsz5)
          refine ⟨_, rfl, ?_⟩
          have hBD := Lib.hid ((hb.block _ (Array.getElem?_eq_some_iff.1 hBD.out).1).trans hBD.out)
          have hBR := Lib.hid ((hb.block _ (Array.getElem?_eq_some_iff.1 hBR.out).1).trans hBR.out)
          have hD := Lib.hid (hD.out.bel hb)
          have hGs := Lib.hid (hGs.out.trans (Gr.of_bel hb))
          have hR := Lib.hid (hR.out.bel hb)
          have hB8 := Lib.hid ((hb.block _ (Array.getElem?_eq_some_iff.1 hB8.out).1).trans hB8.out)
          clear hb hx hX1 hsz5
          refine hK.out _ _ ⟨block_cell hBD.out 0 rfl, block_cell hBD.out 1 rfl, block_cell hBD.out 2 rfl, block_cell hBD.out 3 rfl⟩ (fun hHeld => ?_)
          clear hK K
          refine PrintLast.norm_ (a' := ?_) ?_ ?_
          rotate_left
          · (show Act.put _ (some 28) _ = _; simp only [Act.put, List.setIfInBounds_toArray, List.set_cons_zero, List.set_cons_succ, PrintLast.i64_w, PrintLast.i32_w]; rfl)
          refine PrintLast.pure_ (i := 6) (N := (some 22)) (v := ?_) (a' := ?_) #[true, true, true, true, true, true, true, false, false, true, false, false] rfl rfl (by kernel_rfl) (fun _ _ _ h => h) (Or.inl ⟨by rfl, ?_⟩) ?_ ?_
          rotate_left
          · (intro w'; go_simp; with_reducible rfl)
          rotate_left
          · (simp only [Act.put, List.setIfInBounds_toArray, List.set_cons_zero, List.set_cons_succ, PrintLast.i64_w, PrintLast.i32_w]; rfl)
          refine PrintLast.pure_ (i := 7) (N := (some 29)) (v := ?_) (a' := ?_) #[true, true, true, true, true, true, true, true, false, true, false, false] rfl rfl (by kernel_rfl) (fun _ _ _ h => h) (Or.inl ⟨by rfl, ?_⟩) ?_ ?_
          rotate_left
          · (intro w'; go_simp; with_reducible rfl)
          rotate_left
          · (simp only [Act.put, List.setIfInBounds_toArray, List.set_cons_zero, List.set_cons_succ, PrintLast.i64_w, PrintLast.i32_w]; rfl)
          refine PrintLast.pure_ (i := 8) (N := (some 30)) (v := ?_) (a' := ?_) #[true, true, true, true, true, true, true, true, true, true, false, false] rfl rfl (by kernel_rfl) (fun _ _ _ h => h) (Or.inl ⟨by rfl, ?_⟩) ?_ ?_
          rotate_left
          · (intro w'; go_simp; with_reducible rfl)
          rotate_left
          · (simp only [Act.put, List.setIfInBounds_toArray, List.set_cons_zero, List.set_cons_succ, PrintLast.i64_w, PrintLast.i32_w]; rfl)
          have hgsz := hG.out.size
          have hd1 := (Array.getElem?_eq_some_iff.1 hBD0.out).1
          exact PrintLast.norm_ (by simp only [PrintLast.putAll, Act.put, List.setIfInBounds_toArray, List.set_cons_zero, List.set_cons_succ, One.v]) (hCont ⟨a, X0, x0, X2, x2, X3, x3, g8⟩ _ ⟨hBD.out, hBR.out, hB8.out, hD.out, hX.out, hR.out.mono (by omega), hGs.out, (by simp only; have := hl8.out; have := HLW.out; omega), (by simp only; have := hl8.out; omega)⟩)
      · rintro t wj ⟨jBD, jBR, jB8, jD, jX, jR, jG, jl8, jn8⟩
        simp only [PrintLast.putAll, Act.put, List.setIfInBounds_toArray, List.set_cons_zero, List.set_cons_succ]
        obtain ⟨a, X0, x0, X2, x2, X3, x3, g8⟩ := t
        simp only [One.v] at *
        have z0 := block_cell jB8 0 rfl
        have z1 := block_cell jB8 1 rfl
        have z2 := block_cell jB8 2 rfl
        have z3 := block_cell jB8 3 rfl
        have f0 := block_frozen jB8 0
        have f1 := block_frozen jB8 1
        have f2 := block_frozen jB8 2
        have f3 := block_frozen jB8 3
        have HBD := Lib.hid (block_far4 jBD jn8.symm (.slice X0 (doDesk d a).now.st.length x0) (.int .i64 (doDesk d a).now.step) (.slice X2 (doDesk d a).now.word.length x2) (.slice X3 (doDesk d a).past.length x3))
        have HBR := Lib.hid (block_far4 jBR (by omega : w.heap.size ≠ g8) (.slice X0 (doDesk d a).now.st.length x0) (.int .i64 (doDesk d a).now.step) (.slice X2 (doDesk d a).now.word.length x2) (.slice X3 (doDesk d a).past.length x3))
        have HB8 := Lib.hid (block_set4 jB8 (.slice X0 (doDesk d a).now.st.length x0) (.int .i64 (doDesk d a).now.step) (.slice X2 (doDesk d a).now.word.length x2) (.slice X3 (doDesk d a).past.length x3))
        have HD := Lib.hid (HasD.set4 jD jB8 (by decide) (by decide) (.slice X0 (doDesk d a).now.st.length x0) (.int .i64 (doDesk d a).now.step) (.slice X2 (doDesk d a).now.word.length x2) (.slice X3 (doDesk d a).past.length x3))
        have HX := Lib.hid (HasD.set4 jX jB8 (by decide) (by decide) (.slice X0 (doDesk d a).now.st.length x0) (.int .i64 (doDesk d a).now.step) (.slice X2 (doDesk d a).now.word.length x2) (.slice X3 (doDesk d a).past.length x3))
        have HR := Lib.hid (rd_set4 jR (by omega : g < g8) (.slice X0 (doDesk d a).now.st.length x0) (.int .i64 (doDesk d a).now.step) (.slice X2 (doDesk d a).now.word.length x2) (.slice X3 (doDesk d a).past.length x3))
        have HG := Lib.hid (gr_set4 (hG.out.trans jG) (Nat.le_of_lt jl8) (.slice X0 (doDesk d a).now.st.length x0) (.int .i64 (doDesk d a).now.step) (.slice X2 (doDesk d a).now.word.length x2) (.slice X3 (doDesk d a).past.length x3))
        have HJ8 := Lib.hid jl8; have HJN := Lib.hid jn8
        have HSM := Lib.hid (fun h => do_small (d := d) (a := a) h)
        clear jBD jBR jB8 jD jX jR jG jl8 jn8 o0 o1 o2 o3
        refine PrintLast.last_ (i := 10) (N := none) #[true, true, true, true, true, true, true, true, true, true, true, false] rfl rfl (by kernel_rfl) (by decide) (fun K hK => ?_)
        refine PrintLast.skip_ (w1 := ?_) (by rfl) rfl ?_ ?_
        rotate_left
        · (go_simp; rfl)
        refine hK.out _ _ ?_
        clear hK K
        refine PrintLast.pure_ (i := 11) (N := (some 9)) (v := ?_) (a' := ?_) #[true, true, true, true, true, true, true, true, true, true, true, true] rfl rfl (by kernel_rfl) (fun _ _ _ h => h) (Or.inl ⟨by rfl, ?_⟩) ?_ ?_
        rotate_left
        · (intro w'; go_simp; with_reducible rfl)
        rotate_left
        · (simp only [Act.put, List.setIfInBounds_toArray, List.set_cons_zero, List.set_cons_succ, PrintLast.i64_w, PrintLast.i32_w]; rfl)
        refine PrintLast.done_ (by kernel_rfl) ?_
        obtain ⟨W5, hW5⟩ : ∃ W5, W5 = set4 wj g8 (.slice X0 (doDesk d a).now.st.length x0) (.int .i64 (doDesk d a).now.step) (.slice X2 (doDesk d a).now.word.length x2) (.slice X3 (doDesk d a).past.length x3) := ⟨_, rfl⟩
        have e5 := hW5
        unfold set4 at e5
        rw [← e5]
        rw [← hW5] at HBD HBR HB8 HD HX HR HG
        clear hW5 e5 z0 z1 z2 z3 f0 f1 f2 f3
        have hms : (m : Int) - 1 = ((m - 1 : Nat) : Int) := by omega
        have HMS := Lib.hid hms; clear hms
        generalize doDesk d a = dx at *
        generalize doOk d a = ok at *
        cases ok with
        | false =>
          go_wp2
          exact ⟨⟨m - 1, d, D0, e0, D2, e2, D3, e3, by rw [HMS.out], by omega, hst, HBD.out, HBR.out, HD.out, HR.out.mono (by omega), HG.out⟩, by simp [intOf]; omega⟩
        | true =>
          obtain ⟨sa, sb⟩ := HSM.out rfl
          have y0 := block_cell HB8.out 0 rfl
          have y1 := block_cell HB8.out 1 rfl
          have y2 := block_cell HB8.out 2 rfl
          have y3 := block_cell HB8.out 3 rfl
          have f0 := block_frozen HBD.out 0
          have f1 := block_frozen HBD.out 1
          have f2 := block_frozen HBD.out 2
          have f3 := block_frozen HBD.out 3
          have o0 := block_cell HBD.out 0 rfl
          have o1 := block_cell HBD.out 1 rfl
          have o2 := block_cell HBD.out 2 rfl
          have o3 := block_cell HBD.out 3 rfl
          have YBD := Lib.hid (block_set4 HBD.out (.slice X0 dx.now.st.length x0) (.int .i64 dx.now.step) (.slice X2 dx.now.word.length x2) (.slice X3 dx.past.length x3))
          have YBR := Lib.hid (block_far4 HBR.out (by have := HLW.out; omega : w.heap.size ≠ gd) (.slice X0 dx.now.st.length x0) (.int .i64 dx.now.step) (.slice X2 dx.now.word.length x2) (.slice X3 dx.past.length x3))
          have YX := Lib.hid (HasD.set4 HX.out HBD.out (by decide) (by decide) (.slice X0 dx.now.st.length x0) (.int .i64 dx.now.step) (.slice X2 dx.now.word.length x2) (.slice X3 dx.past.length x3))
          have YR := Lib.hid (rd_set4 HR.out (by have := HLW.out; omega : g < gd) (.slice X0 dx.now.st.length x0) (.int .i64 dx.now.step) (.slice X2 dx.now.word.length x2) (.slice X3 dx.past.length x3))
          have YG := Lib.hid (gr_set4 HG.out (Nat.le_of_lt HLW.out) (.slice X0 dx.now.st.length x0) (.int .i64 dx.now.step) (.slice X2 dx.now.word.length x2) (.slice X3 dx.past.length x3))
          go_wp2
          exact ⟨⟨m - 1, dx, X0, x0, X2, x2, X3, x3, by rw [HMS.out], by omega, sa, YBD.out, YBR.out, YX.out, YR.out.mono (by omega), YG.out⟩, by simp [intOf]; omega⟩
    · have hm0 : (m : Int) ≤ 0 := by omega
      go_wp2_with fail
      refine (s_odd g _ 12 _ hR.out (by omega) (by omega) (by omega)).mono ?_
      rintro e w5 ⟨b, rfl, hR5, hG5⟩
      have hgd : gd ≠ g := by have := HLW.out; omega
      have HBD := Lib.hid ((⟨hG5⟩ : Gr g wr w5).block hBD.out hgd)
      have HBR := Lib.hid ((⟨hG5⟩ : Gr g wr w5).block hBR.out (by omega))
      have HD := Lib.hid (hD.out.gr hR.out hG5)
      have HG := Lib.hid (hG.out.trans ⟨hG5⟩)
      have HR := Lib.hid hR5
      clear hR5 hG5 o0 o1 o2 o3
      cases b with
      | false =>
        have o0 := block_cell HBD.out 0 rfl
        have o1 := block_cell HBD.out 1 rfl
        have o2 := block_cell HBD.out 2 rfl
        have o3 := block_cell HBD.out 3 rfl
        have q0 := block_cell HBR.out 0 rfl
        have q1 := block_cell HBR.out 1 rfl
        have q2 := block_cell HBR.out 2 rfl
        have q3 := block_cell HBR.out 3 rfl
        have f0 := block_frozen HBR.out 0
        have f1 := block_frozen HBR.out 1
        have f2 := block_frozen HBR.out 2
        have f3 := block_frozen HBR.out 3
        have HFD := Lib.hid (HasD.set4 HD.out HBR.out (by decide) (by decide) (.slice D0 d.now.st.length e0) (.int .i64 d.now.step) (.slice D2 d.now.word.length e2) (.slice D3 d.past.length e3))
        have HFR := Lib.hid (rd_set4 HR.out hgw (.slice D0 d.now.st.length e0) (.int .i64 d.now.step) (.slice D2 d.now.word.length e2) (.slice D3 d.past.length e3))
        have HFG := Lib.hid (gr_set4 HG.out (Nat.le_refl _) (.slice D0 d.now.st.length e0) (.int .i64 d.now.step) (.slice D2 d.now.word.length e2) (.slice D3 d.past.length e3))
        go_wp2
        exact bodyPost_ret (v := .agg #[(.slice D0 d.now.st.length e0), (.int .i64 d.now.step), (.slice D2 d.now.word.length e2), (.slice D3 d.past.length e3)]) (by simp [results, Tryd.results32, go_sem, q0, q1, q2, q3]) rfl ⟨_, d, rfl, HFD.out, (by first | exact hst | simp [zd, z0]), (by first | (simp [zd]; done) | (simp only; omega) | (simp; omega) | omega), HFR.out.mono (by omega), HFG.out.out⟩
      | true =>
        go_wp2_with fail
        refine (s_pick g _ 3 _ HR.out (by omega) (by omega) (by omega)).mono ?_
        rintro e w6 ⟨k, rfl, hk, hR6, hG6⟩
        have HBD := Lib.hid ((⟨hG6⟩ : Gr g w5 w6).block HBD.out hgd)
        have HBR := Lib.hid ((⟨hG6⟩ : Gr g w5 w6).block HBR.out (by omega))
        have HD := Lib.hid (HD.out.gr HR.out hG6)
        have HG := Lib.hid (HG.out.trans ⟨hG6⟩)
        have HR := Lib.hid hR6
        have hk3 : (k : Int) < 3 := hk (by omega)
        clear hk hR6 hG6
        have hk012 : k = 0 ∨ k = 1 ∨ k = 2 := by omega
        rcases hk012 with rfl | rfl | rfl
        · have o1 := block_cell HBD.out 1 rfl
          have p1 := block_frozen HBD.out 1
          go_upto_region 15 with (fail)
          clear o1 p1
          obtain ⟨W7, hW7⟩ : ∃ W7, W7 = w6.setCell ⟨gd, 1, none⟩ (.int .i64 4) := ⟨_, rfl⟩
          rw [← hW7]
          have HD := Lib.hid (HasD.set1 HD.out HBD.out (by decide) (by decide) 1 (.int .i64 4))
          have HBR := Lib.hid (block_far (p := ⟨gd, 1, none⟩) (u := .int .i64 4) HBR.out (by have := HLW.out; simp; omega))
          have HR := Lib.hid (rd_set1 HR.out (by have := HLW.out; omega : g < gd) 1 (.int .i64 4))
          have HG := Lib.hid (HG.out.set (p := ⟨gd, 1, none⟩) (Nat.le_of_lt HLW.out) (.int .i64 4))
          have HBD := Lib.hid (block_set HBD.out 1 (.int .i64 4))
          rw [← hW7] at HD HBR HR HG HBD
          clear hW7
          have HD := Lib.hid (HasD.step HD.out 4)
          have o0 : W7.cell? ⟨gd, 0, none⟩ = some (.slice D0 d.now.st.length e0) := block_cell HBD.out 0 rfl
          have o1 : W7.cell? ⟨gd, 1, none⟩ = some (.int .i64 4) := block_cell HBD.out 1 rfl
          have o2 : W7.cell? ⟨gd, 2, none⟩ = some (.slice D2 d.now.word.length e2) := block_cell HBD.out 2 rfl
          have o3 : W7.cell? ⟨gd, 3, none⟩ = some (.slice D3 d.past.length e3) := block_cell HBD.out 3 rfl
          have q0 := block_cell HBR.out 0 rfl
          have q1 := block_cell HBR.out 1 rfl
          have q2 := block_cell HBR.out 2 rfl
          have q3 := block_cell HBR.out 3 rfl
          have f0 := block_frozen HBR.out 0
          have f1 := block_frozen HBR.out 1
          have f2 := block_frozen HBR.out 2
          have f3 := block_frozen HBR.out 3
          have HFD := Lib.hid (HasD.set4 HD.out HBR.out (by decide) (by decide) (.slice D0 d.now.st.length e0) (.int .i64 4) (.slice D2 d.now.word.length e2) (.slice D3 d.past.length e3))
          have HFR := Lib.hid (rd_set4 HR.out hgw (.slice D0 d.now.st.length e0) (.int .i64 4) (.slice D2 d.now.word.length e2) (.slice D3 d.past.length e3))
          have HFG := Lib.hid (gr_set4 HG.out (Nat.le_refl _) (.slice D0 d.now.st.length e0) (.int .i64 4) (.slice D2 d.now.word.length e2) (.slice D3 d.past.length e3))
          go_wp2
          exact bodyPost_ret (v := .agg #[(.slice D0 d.now.st.length e0), (.int .i64 4), (.slice D2 d.now.word.length e2), (.slice D3 d.past.length e3)]) (by simp [results, Tryd.results32, go_sem, q0, q1, q2, q3]) rfl ⟨_, ⟨⟨d.now.st, 4, d.now.word⟩, d.past⟩, rfl, HFD.out, (by first | exact hst | simp [zd, z0]), (by first | (simp [zd]; done) | (simp only; omega) | (simp; omega) | omega), HFR.out.mono (by omega), HFG.out.out⟩
        · have o3 := block_cell HBD.out 3 rfl
          have p3 := block_frozen HBD.out 3
          go_wp2_with (at_builtin; refine stop ?_)
          refine go_on ?_
          obtain ⟨hX0, hX2, es, hes1, hes2⟩ := HD.out.parts
          have hal : Bel w6 (w6.alloc (.cells #[.slice none 0 0, .int .i64 0, .slice none 0 0] 25)) := Bel.alloc
          have hown := own_below hes1 hal.out
          have hg6 := HG.out.size
          refine app_list eP rfl _ _ rfl w.heap.size (.slice D3 d.past.length e3) d.past.length es rfl hown w6.heap.size 1 1 #[.slice none 0 0, .int .i64 0, .slice none 0 0] rfl (heap_alloc_new w6 _) rfl (by simp [Value.oneCell']) (by omega) (by omega) (by omega) (by simp; omega) ?_
          intro gb cap w7 hown7 hgr hat
          have keepb : ∀ {k : Nat} {o : Obj} {cs : Array Value}, o = .cells cs 28 (0, 0) → w6.heap[k]? = some o → w7.heap[k]? = some o := fun {k o cs} e ho => by
            subst e; exact block_other (block_at (b := hal) ho) hown hgr (by decide)
          have HBR7 := Lib.hid (keepb rfl HBR.out)
          have HBD7 := Lib.hid (keepb rfl HBD.out)
          have HPS7 := Lib.hid (HasPs.more (p := z0) (own_below hes1 hal.out) (fun j hj => by
            obtain ⟨x0, x2, k0, k1, k2, k3, k4⟩ := hes2 j hj
            exact ⟨x0, x2, k0, k1, k2, OwnI.at k3 (b := hal), OwnI.at k4 (b := hal)⟩) (OwnI.nil _ _) (OwnI.nil _ _) hgr hown7)
          have HX07 := Lib.hid (own_other (OwnI.at hX0 (b := hal)) hown hgr (by decide))
          have HX27 := Lib.hid (own_other (OwnI.at hX2 (b := hal)) hown hgr (by decide))
          have hlo : ∀ i, (Value.slice D3 d.past.length e3).ownBlock = some i → w.heap.size ≤ i := fun i e => (World.ownsRow.lt hown i e).1
          have HR7 := Lib.hid ((HR.out.bel hal.out).kept (w1 := w7) (fun i hi => hgr.block i (by have := HR.out.lt; simp; omega) (fun e => by have := hlo i e.symm; omega)))
          have HG7 := Lib.hid ((HG.out.trans (Gr.of_bel hal.out)).own hgr hlo)
          have o3 := block_cell HBD7.out 3 rfl
          have p3 := block_frozen HBD7.out 3
          clear hown hown7 hgr hat hal keepb hlo hes1 hes2 hX0 hX2 hg6
          go_upto_region 15 with (fail)
          clear o3 p3
          obtain ⟨W8, hW8⟩ : ∃ W8, W8 = w7.setCell ⟨gd, 3, none⟩ (.slice (some ⟨gb, 0, none⟩) (d.past.length + 1) cap) := ⟨_, rfl⟩
          rw [← hW8]
          have HBR := Lib.hid (block_far (p := ⟨gd, 3, none⟩) (u := .slice (some ⟨gb, 0, none⟩) (d.past.length + 1) cap) HBR7.out (by have := HLW.out; simp; omega))
          have HR := Lib.hid (rd_set1 HR7.out (by have := HLW.out; omega : g < gd) 3 (.slice (some ⟨gb, 0, none⟩) (d.past.length + 1) cap))
          have HG := Lib.hid (HG7.out.set (p := ⟨gd, 3, none⟩) (Nat.le_of_lt HLW.out) (.slice (some ⟨gb, 0, none⟩) (d.past.length + 1) cap))
          have HD := Lib.hid (HasD.set1 (d := ⟨d.now, d.past ++ [z0]⟩) ⟨_, _, _, rfl, HX07.out, HX27.out, HPS7.out⟩ HBD7.out (by decide) (by decide) 3 (.slice (some ⟨gb, 0, none⟩) (d.past.length + 1) cap))
          have HBD := Lib.hid (block_set HBD7.out 3 (.slice (some ⟨gb, 0, none⟩) (d.past.length + 1) cap))
          rw [← hW8] at HBR HR HG HD HBD
          clear hW8
          have o0 : W8.cell? ⟨gd, 0, none⟩ = some (.slice D0 d.now.st.length e0) := block_cell HBD.out 0 rfl
          have o1 : W8.cell? ⟨gd, 1, none⟩ = some (.int .i64 d.now.step) := block_cell HBD.out 1 rfl
          have o2 : W8.cell? ⟨gd, 2, none⟩ = some (.slice D2 d.now.word.length e2) := block_cell HBD.out 2 rfl
          have o3 : W8.cell? ⟨gd, 3, none⟩ = some (.slice (some ⟨gb, 0, none⟩) (d.past.length + 1) cap) := block_cell HBD.out 3 rfl
          have q0 := block_cell HBR.out 0 rfl
          have q1 := block_cell HBR.out 1 rfl
          have q2 := block_cell HBR.out 2 rfl
          have q3 := block_cell HBR.out 3 rfl
          have f0 := block_frozen HBR.out 0
          have f1 := block_frozen HBR.out 1
          have f2 := block_frozen HBR.out 2
          have f3 := block_frozen HBR.out 3
          have HFD := Lib.hid (HasD.set4 HD.out HBR.out (by decide) (by decide) (.slice D0 d.now.st.length e0) (.int .i64 d.now.step) (.slice D2 d.now.word.length e2) (.slice (some ⟨gb, 0, none⟩) (d.past.length + 1) cap))
          have HFR := Lib.hid (rd_set4 HR.out hgw (.slice D0 d.now.st.length e0) (.int .i64 d.now.step) (.slice D2 d.now.word.length e2) (.slice (some ⟨gb, 0, none⟩) (d.past.length + 1) cap))
          have HFG := Lib.hid (gr_set4 HG.out (Nat.le_refl _) (.slice D0 d.now.st.length e0) (.int .i64 d.now.step) (.slice D2 d.now.word.length e2) (.slice (some ⟨gb, 0, none⟩) (d.past.length + 1) cap))
          go_wp2
          exact bodyPost_ret (v := .agg #[(.slice D0 d.now.st.length e0), (.int .i64 d.now.step), (.slice D2 d.now.word.length e2), (.slice (some ⟨gb, 0, none⟩) (d.past.length + 1) cap)]) (by simp [results, Tryd.results32, go_sem, q0, q1, q2, q3]) rfl ⟨_, ⟨d.now, d.past ++ [z0]⟩, rfl, HFD.out, (by first | exact hst | simp [zd, z0]), (by first | (simp [zd]; done) | (simp only; omega) | (simp; omega) | omega), HFR.out.mono (by omega), HFG.out.out⟩
        · have hz : HasD w6 w.heap.size (.agg #[.slice none 0 0, .int .i64 0, .slice none 0 0, .slice none 0 0]) zd := HasD.nil _ _
          have HD := Lib.hid hz
          clear hz
          have q0 := block_cell HBR.out 0 rfl
          have q1 := block_cell HBR.out 1 rfl
          have q2 := block_cell HBR.out 2 rfl
          have q3 := block_cell HBR.out 3 rfl
          have f0 := block_frozen HBR.out 0
          have f1 := block_frozen HBR.out 1
          have f2 := block_frozen HBR.out 2
          have f3 := block_frozen HBR.out 3
          have HFD := Lib.hid (HasD.set4 HD.out HBR.out (by decide) (by decide) (.slice none 0 0) (.int .i64 0) (.slice none 0 0) (.slice none 0 0))
          have HFR := Lib.hid (rd_set4 HR.out hgw (.slice none 0 0) (.int .i64 0) (.slice none 0 0) (.slice none 0 0))
          have HFG := Lib.hid (gr_set4 HG.out (Nat.le_refl _) (.slice none 0 0) (.int .i64 0) (.slice none 0 0) (.slice none 0 0))
          go_wp2
          exact bodyPost_ret (v := .agg #[(.slice none 0 0), (.int .i64 0), (.slice none 0 0), (.slice none 0 0)]) (by simp [results, Tryd.results32, go_sem, q0, q1, q2, q3]) rfl ⟨_, zd, rfl, HFD.out, (by first | exact hst | simp [zd, z0]), (by first | (simp [zd]; done) | (simp only; omega) | (simp; omega) | omega), HFR.out.mono (by omega), HFG.out.out⟩
end Go.Proofs.YtpfncjaclgcbnaaDoor.Ub
