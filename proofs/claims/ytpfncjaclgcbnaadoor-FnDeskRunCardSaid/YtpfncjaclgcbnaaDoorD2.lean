/- Contracts of what draws truths, urns and places. -/
import Derived.Test.YtpfncjaclgcbnaaDoorD1
import Derived.Test.YtpfncjaclgcbnaaDoorOwn3
import Derived.Test.YtpfncjaclgcbnaaDoorF13
set_option linter.unusedVariables false
set_option linter.unusedSimpArgs false
namespace Go.Proofs.YtpfncjaclgcbnaaDoor.Ub
open Go.RowKit Go.Proofs.YtpfncjaclgcbnaaDoorW

theorem Rd.mono {w : World} {g P Q : Nat} (h : Rd w g P) (hq : P ≤ Q) : Rd w g Q := by
  obtain ⟨A, l, c, p, hb, h1, h2⟩ := h
  exact ⟨A, l, c, p, hb, by omega, h2⟩
theorem Rd.block {w : World} {g P : Nat} (h : Rd w g P) : ∃ cs, w.heap[g]? = some (.cells cs 93 (0, 0)) := by
  obtain ⟨A, l, c, p, hb, _⟩ := h
  exact ⟨_, hb⟩
theorem Rd.lt {w : World} {g P : Nat} (h : Rd w g P) : g < w.heap.size := by
  obtain ⟨cs, hb⟩ := h.block
  exact (Array.getElem?_eq_some_iff.1 hb).1
/-- What a reader says is kept while blocks above it are written. -/
theorem Rd.kept {w w1 : World} {g P : Nat} (h : Rd w g P) (hk : ∀ k, k ≤ g → w1.heap[k]? = w.heap[k]?) : Rd w1 g P := by
  obtain ⟨A, l, c, p, hb, h1, h2, h3, h4⟩ := h
  exact ⟨A, l, c, p, (hk g (Nat.le_refl _)).trans hb, h1, h2, h3, fun j hj => by
    obtain ⟨b, o, x, e, hl, hq, hx⟩ := h4 j hj
    exact ⟨b, o, x, e, hl, (World.cell?_of_block (w := w) (a := ⟨b, o + j, none⟩) (hk b (by omega))).trans hq, hx⟩⟩
theorem Rd.bel {w w1 : World} {g P : Nat} (h : Rd w g P) (hb : Below w.heap.size w w1) : Rd w1 g P := h.kept fun k hk => hb.block k (by have := h.lt; omega)
/-- The world w1 came out of w by steps of the reader at g. -/
class Gr (g : Nat) (w w1 : World) : Prop where
  out : w.grownBy w1 (some g)
theorem Gr.block {g : Nat} {w w1 : World} [h : Gr g w w1] {k : Nat} {o : Obj} (hk : w.heap[k]? = some o) (hn : k ≠ g) : w1.heap[k]? = some o :=
  (h.out.block k (Array.getElem?_eq_some_iff.1 hk).1 (fun e => hn (by injection e))).trans hk
theorem Gr.size {g : Nat} {w w1 : World} (h : Gr g w w1) : w.heap.size ≤ w1.heap.size := h.out.size
theorem Gr.of_bel {g : Nat} {w w1 : World} (h : Below w.heap.size w w1) : Gr g w w1 := ⟨grown_below h _⟩
theorem Gr.trans {g : Nat} {w a b : World} (h : Gr g w a) (k : Gr g a b) : Gr g w b := ⟨grown_trans h.out k.out⟩
/-- A block from w on is written. -/
theorem Gr.own {g : Nat} {w a b : World} {r : Option Nat} (h : Gr g w a) (k : a.grownBy b r) (hr : ∀ i, r = some i → w.heap.size ≤ i) : Gr g w b :=
  ⟨⟨k.os.trans h.out.os, k.tape.trans h.out.tape, k.output.trans h.out.output, Nat.le_trans h.out.size k.size, fun i hi hn =>
    (k.block i (by have := h.out.size; omega) (fun e => by have := hr i e.symm; omega)).trans (h.out.block i hi hn)⟩⟩
theorem Gr.set {g : Nat} {w a : World} (h : Gr g w a) {p : Addr} (hp : w.heap.size ≤ p.block) (u : Value) : Gr g w (a.setCell p u) :=
  ⟨⟨h.out.os, h.out.tape, h.out.output, by have := h.out.size; simpa using this, fun i hi hn => (Below.heap_setCell a p u i (by omega)).trans (h.out.block i hi hn)⟩⟩

def OddP (g P : Nat) (w : World) (e : Ending) (w' : World) : Prop := ∃ b : Bool, e = .returned (.bool b) ∧ Rd w' g (P + 1) ∧ w.grownBy w' (some g)
set_option maxHeartbeats 1000000 in
set_option maxRecDepth 100000 in
theorem s_odd (g P : Nat) (n : Int) (w : World) (h : Rd w g P) (hP : P ≤ 100000) (hn0 : 0 < n) (hn1 : n ≤ 1000000) : Calls Tryd.prog 51 #[.pointer (some ⟨g, 0, none⟩), .int .i64 n] w (OddP g P w) := by
  go_enter Tryd.func51, Tryd.ntmps51
  go_wp2_with fail
  refine (s_pick g P n _ h hP (by omega) hn1).mono ?_
  rintro e w1 ⟨k, rfl, hk, hR, hG⟩
  have HR := Lib.hid hR; have HG := Lib.hid hG
  clear hR hG hk
  go_wp2
  go_ret
  exact ⟨_, rfl, HR.out, HG.out⟩
set_option maxHeartbeats 1000000 in
theorem s_odd0 (g P : Nat) (w : World) (h : Rd w g P) : Calls Tryd.prog 51 #[.pointer (some ⟨g, 0, none⟩), .int .i64 0] w fun e w' => e = .returned (.bool false) ∧ w = w' := by
  go_enter Tryd.func51, Tryd.ntmps51
  go_wp2
  go_ret
  exact ⟨rfl, rfl⟩

/-- The slice v reads as bytes. -/
def Bys (w : World) (v : Value) : Prop := ∃ A n c, v = .slice A n c ∧ n ≤ 140737488355328 ∧ n ≤ c ∧ ∀ j, j < n → ∃ b o, ∃ x : Nat, A = some ⟨b, o, none⟩ ∧ w.cell? ⟨b, o + j, none⟩ = some (.int .u8 x) ∧ x ≤ 255
def OpenP (w : World) (e : Ending) (w' : World) : Prop := e = .returned (.pointer (some ⟨w.heap.size, 0, none⟩)) ∧ Rd w' w.heap.size 0 ∧ Below w.heap.size w w'
set_option maxHeartbeats 1000000 in
theorem s_l20Open (v : Value) (w : World) (h : Bys w v) : Calls Tryd.prog 31 #[v] w (OpenP w) := by
  obtain ⟨A, n, c, rfl, hn, hc, hx⟩ := h
  have HX := Lib.hid hx; clear hx
  have fin : ∀ m c', m ≤ n → m ≤ 2000 → m ≤ c' → Rd (w.alloc (.cells #[.slice A m c', .int .i64 0] 93)) w.heap.size 0 := fun m c' h1 h2 h3 =>
    ⟨A, m, c', 0, heap_alloc_new _ _, Nat.le_refl _, h2, h3, fun j hj => by
      obtain ⟨b, o, x, e, hq, h255⟩ := HX.out j (by omega)
      exact ⟨b, o, x, e, World.block_lt_of_cell? w _ hq, cell_at hq, h255⟩⟩
  have HF := Lib.hid fin; clear fin
  by_cases hl : 2000 < n
  · have h2c : 2000 ≤ c := by omega
    go_enter Tryd.func31, Tryd.ntmps31
    go_wp2
    go_ret
    exact ⟨rfl, HF.out 2000 c (by omega) (by omega) (by omega), (Bel.out : Below w.heap.size w _)⟩
  · go_enter Tryd.func31, Tryd.ntmps31
    go_wp2
    go_ret
    exact ⟨rfl, HF.out n c (by omega) (by omega) hc, (Bel.out : Below w.heap.size w _)⟩

def UrnP (g P : Nat) (w : World) (e : Ending) (w' : World) : Prop := ∃ v u, e = .returned v ∧ OwnI w' w.heap.size v u ∧ u.length ≤ 3 ∧ Rd w' g (P + 4) ∧ w.grownBy w' (some g)
set_option maxHeartbeats 1000000 in
set_option maxRecDepth 100000 in
theorem s_l20Urn (g P : Nat) (w : World) (h : Rd w g P) (hP : P ≤ 90000) : Calls Tryd.prog 89 #[.pointer (some ⟨g, 0, none⟩), .int .i64 0] w (UrnP g P w) := by
  have HBG : Hid (g < w.heap.size) := h.lt
  go_enter Tryd.func89, Tryd.ntmps89
  go_wp2_with fail
  refine (s_pick g P 3 _ (h.bel (Bel.out : Below w.heap.size w _)) (by omega) (by omega) (by omega)).mono ?_
  rintro e w1 ⟨k, rfl, hk, hR, hG⟩
  have hk3 : (k : Int) < 3 := hk (by omega)
  have hO : OwnI w1 w.heap.size (.slice (some ⟨w.heap.size, 0, none⟩) 0 0) [] := OwnI.pick (emptyI w) (Rd.block (h.bel (Bel.out : Below w.heap.size w (w.alloc (.cells #[] 3))))).choose_spec (by decide) hG
  have hG1 : Gr g w w1 := (Gr.of_bel (Bel.out : Below w.heap.size w (w.alloc (.cells #[] 3)))).trans ⟨hG⟩
  have HG1 := Lib.hid hG1; have HR := Lib.hid hR; have HO := Lib.hid hO
  clear hk hR hG hO hG1 h
  go_wp2
  go_loopw [5, 6] (fun v i wr => ∃ (m : Nat) (xs : List Int), i = .int .i64 m ∧ xs.length + m ≤ 3 ∧ Hid (OwnI wr w.heap.size v xs) ∧ Hid (Rd wr g (P + 1 + xs.length)) ∧ Hid (Gr g w wr)) (fun _ i _ => (intOf i).toNat)
  case atStart => exact ⟨k + 1, [], by rw [Int.natCast_add]; exact congrArg _ (by omega), by simp; omega, HO.out, HR.out, HG1.out⟩
  case round =>
    obtain ⟨m, xs, rfl, hm, hO, hR, hG⟩ := hrel
    clear HO HR HG1
    obtain ⟨A, c, e⟩ := hO.out.ints.form
    subst e
    have hsz := hG.out.size
    have HSZ := Lib.hid hsz; clear hsz
    by_cases h0 : 0 < m
    · go_wp2_with fail
      refine (s_pick g (P + 1 + xs.length) 6 _ hR.out (by omega) (by omega) (by omega)).mono ?_
      rintro e w2 ⟨x, rfl, hx, hR2, hG2⟩
      have HR2 := Lib.hid hR2; have HG2 := Lib.hid hG2
      have HO2 := Lib.hid (OwnI.pick hO.out hR.out.block.choose_spec (by decide) hG2)
      have hz2 := hG2.size
      have HZ2 := Lib.hid hz2
      clear hx hR2 hG2 hz2
      go_wp2_with (at_builtin; refine stop ?_)
      refine go_on ?_
      have hal : Bel w2 (w2.alloc (.cells #[.int .i64 x] 3)) := Bel.alloc
      have hown := OwnI.at HO2.out (b := hal)
      refine app_list eI rfl _ _ rfl w.heap.size (.slice A xs.length c) xs.length (nums xs) rfl hown w2.heap.size 1 1 #[.int .i64 x] rfl (heap_alloc_new w2 _) rfl (by simp [Value.oneCell']) (by omega) (by omega) (by omega) (by have := HSZ.out; have := HZ2.out; simp; omega) ?_
      intro gb cap w3 hown3 hgr hat
      have H3 := Lib.hid (OwnI.push hown3 rfl)
      have HR3 := Lib.hid ((HR2.out.bel hal.out).kept (w1 := w3) (fun i hi => hgr.block i (by have := HR2.out.lt; simp; omega) (fun e => by
        have h1 := (World.ownsRow.lt hown i e.symm).1
        have h2 := HR2.out.lt
        rcases Nat.lt_or_ge i w.heap.size with h | h
        · omega
        · have := HBG.out; omega)))
      have HG3 := Lib.hid ((hG.out.trans (⟨grown_trans HG2.out (grown_below hal.out _)⟩ : Gr g wr _)).own hgr (fun i e => (World.ownsRow.lt hown i e).1))
      clear hown hown3 hgr hat hal
      go_wp2
      refine ⟨⟨m - 1, xs ++ [(x : Int)], ?_, ?_, H3, HR3.out.mono (by simp; omega), HG3⟩, ?_⟩
      · rw [Int.natCast_sub (by omega)]; rfl
      · simp; omega
      · simp [intOf]; omega
    · have hm0 : (m : Int) ≤ 0 := by omega
      go_wp2_with fail
      refine (s_odd0 g _ _ hR.out).mono ?_
      rintro e w2 ⟨rfl, rfl⟩
      go_wp2
      go_ret
      exact ⟨_, xs, rfl, hO.out, by omega, hR.out.mono (by omega), hG.out.out⟩
end Go.Proofs.YtpfncjaclgcbnaaDoor.Ub
