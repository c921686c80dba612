/- Words for what lies in memory: a slice of numbers, a place, a desk, a deed, read or owned; and how they stay over what a call does. -/
import Derived.Test.YtpfncjaclgcbnaaDoorProg
import Derived.Test.YtpfncjaclgcbnaaDoorM1
import Derived.WalkKit
import Derived.WalkSpells
import Derived.OwnWalk
import Derived.Tactics
import Derived.Tactics2
import Derived.KernelRfl
import Derived.RowKit
import Derived.RowKit3
import Derived.Below
import Derived.WideLaws
import Derived.Laws.Slices
import Derived.Laws.Rows
import Derived.Laws.MakeOwn
import Derived.Laws.OwnMore
import Derived.Laws.Pointers
import Derived.Maps.AppendAt
import Derived.Deep.AppendLies
import Derived.Deep.Draws
import Derived.Deep.LoopGhost
import Derived.Deep.QuietTactic
import Derived.BigQuiet
import Derived.Deep.DeepCutAuto
import Derived.Deep.CutBlock
import Derived.Deep.RegionHeld3
import Derived.Deep.RegionLaw
import Derived.Deep.DrawnRows
import Derived.StillTailTactics
import Derived.Lib.Hide
import Derived.Laws.AppendOwnNone
import Derived.IntWalk
set_option linter.unusedVariables false
set_option linter.unusedSimpArgs false
namespace Go.Proofs.YtpfncjaclgcbnaaDoor.Ub
open Go.RowKit

/-- Numbers as cells. -/
def nums (xs : List Int) : List Value := xs.map (Value.int .i64)
/-- The slice v reads as the numbers xs. -/
def Ints (w : World) (v : Value) (xs : List Int) : Prop :=
  xs.length ≤ 9223372036854775807 ∧ ∃ A c, v = .slice A xs.length c ∧ xs.length ≤ c ∧ (A = none → c = 0) ∧ ∀ j, j < xs.length → ∃ b o, A = some ⟨b, o, none⟩ ∧ w.cell? ⟨b, o + j, none⟩ = some (.int .i64 (xs.getD j 0))

/-- Every cell that reads in w reads the same in w1. -/
def Ext (w w1 : World) : Prop := ∀ a x, w.cell? a = some x → w1.cell? a = some x
theorem Ext.refl (w : World) : Ext w w := fun _ _ h => h
theorem Ext.trans {a b c : World} (h : Ext a b) (k : Ext b c) : Ext a c := fun p x hx => k p x (h p x hx)
theorem Ext.of_below {w w1 : World} (h : Below w.heap.size w w1) : Ext w w1 := fun a x hx => (h.cell (World.block_lt_of_cell? w a hx)).trans hx
theorem Ints.ext {w w1 : World} {v : Value} {xs : List Int} (h : Ints w v xs) (he : Ext w w1) : Ints w1 v xs := by
  obtain ⟨hm, A, c, rfl, hl, hz, hc⟩ := h
  exact ⟨hm, A, c, rfl, hl, hz, fun j hj => by obtain ⟨b, o, ha, hx⟩ := hc j hj; exact ⟨b, o, ha, he _ _ hx⟩⟩
/-- The slice, opened: nothing in it, or a place and its cells. -/
theorem Ints.open {w : World} {v : Value} {xs : List Int} (h : Ints w v xs) : (∃ A c, v = .slice A 0 c ∧ xs = []) ∨
    ∃ b o c, v = .slice (some ⟨b, o, none⟩) xs.length c ∧ 0 < xs.length ∧ xs.length ≤ c ∧ ∀ j, j < xs.length → w.cell? ⟨b, o + j, none⟩ = some (.int .i64 (xs.getD j 0)) := by
  obtain ⟨_, A, c, rfl, hl, _, hc⟩ := h
  by_cases h0 : xs.length = 0
  · exact .inl ⟨A, c, by rw [h0], List.length_eq_zero_iff.1 h0⟩
  · obtain ⟨b, o, rfl, _⟩ := hc 0 (by omega)
    refine .inr ⟨b, o, c, rfl, by omega, hl, fun j hj => ?_⟩
    obtain ⟨b', o', e, hx⟩ := hc j hj
    cases e
    exact hx
/-- The slice, opened for a loop: its cells, each under its condition. -/
theorem Ints.cells {w : World} {v : Value} {xs : List Int} (h : Ints w v xs) : ∃ A c, v = .slice A xs.length c ∧ xs.length ≤ 9223372036854775807 ∧ xs.length ≤ c ∧
    ∀ j, j < xs.length → ∃ b o, A = some ⟨b, o, none⟩ ∧ w.cell? ⟨b, o + j, none⟩ = some (.int .i64 (xs.getD j 0)) := by
  obtain ⟨hm, A, c, rfl, hl, _, hc⟩ := h
  exact ⟨A, c, rfl, hm, hl, hc⟩
/-- The slice v reads as rows of numbers. -/
def Rows (w : World) (v : Value) (xs : List (List Int)) : Prop :=
  xs.length ≤ 9223372036854775807 ∧ ∃ A c, v = .slice A xs.length c ∧ xs.length ≤ c ∧
    ∀ j, j < xs.length → ∃ b o A' c', A = some ⟨b, o, none⟩ ∧ w.cell? ⟨b, o + j, none⟩ = some (.slice A' (xs.getD j []).length c') ∧ Ints w (.slice A' (xs.getD j []).length c') (xs.getD j [])
theorem Rows.ext {w w1 : World} {v : Value} {xs : List (List Int)} (h : Rows w v xs) (he : Ext w w1) : Rows w1 v xs := by
  obtain ⟨hm, A, c, rfl, hl, hc⟩ := h
  exact ⟨hm, A, c, rfl, hl, fun j hj => by obtain ⟨b, o, A', c', ha, hx, hi⟩ := hc j hj; exact ⟨b, o, A', c', ha, he _ _ hx, hi.ext he⟩⟩
theorem Rows.cells {w : World} {v : Value} {xs : List (List Int)} (h : Rows w v xs) : ∃ A c, v = .slice A xs.length c ∧ xs.length ≤ 9223372036854775807 ∧ xs.length ≤ c ∧
    ∀ j, j < xs.length → ∃ b o A' c', A = some ⟨b, o, none⟩ ∧ w.cell? ⟨b, o + j, none⟩ = some (.slice A' (xs.getD j []).length c') ∧ Ints w (.slice A' (xs.getD j []).length c') (xs.getD j []) := by
  obtain ⟨hm, A, c, rfl, hl, hc⟩ := h
  exact ⟨A, c, rfl, hm, hl, hc⟩

/-- A place by value; a slice of places; a desk by value. -/
def PlI (w : World) (v : Value) (p : Pl) : Prop := ∃ x0 x2, v = .agg #[x0, .int .i64 p.step, x2] ∧ Ints w x0 p.st ∧ Ints w x2 p.word
def Pls (w : World) (v : Value) (xs : List Pl) : Prop :=
  xs.length ≤ 9223372036854775807 ∧ ∃ A c, v = .slice A xs.length c ∧ xs.length ≤ c ∧
    ∀ j, j < xs.length → ∃ b o A0 c0 A2 c2, A = some ⟨b, o, none⟩ ∧ w.cell? ⟨b, o + j * 3, none⟩ = some (.slice A0 (xs.getD j z0).st.length c0) ∧ w.cell? ⟨b, o + j * 3 + 1, none⟩ = some (.int .i64 (xs.getD j z0).step) ∧
      w.cell? ⟨b, o + j * 3 + 2, none⟩ = some (.slice A2 (xs.getD j z0).word.length c2) ∧ Ints w (.slice A0 (xs.getD j z0).st.length c0) (xs.getD j z0).st ∧ Ints w (.slice A2 (xs.getD j z0).word.length c2) (xs.getD j z0).word
def DkI (w : World) (v : Value) (d : Dk) : Prop := ∃ x0 x2 x3, v = .agg #[x0, .int .i64 d.now.step, x2, x3] ∧ Ints w x0 d.now.st ∧ Ints w x2 d.now.word ∧ Pls w x3 d.past
theorem Ints.form {w : World} {v : Value} {xs : List Int} (h : Ints w v xs) : ∃ A c, v = .slice A xs.length c := by
  obtain ⟨_, A, c, e, _⟩ := h
  exact ⟨A, c, e⟩
theorem PlI.open {w : World} {v : Value} {p : Pl} (h : PlI w v p) : ∃ A0 c0 A2 c2, v = .agg #[.slice A0 p.st.length c0, .int .i64 p.step, .slice A2 p.word.length c2] ∧ Ints w (.slice A0 p.st.length c0) p.st ∧ Ints w (.slice A2 p.word.length c2) p.word := by
  obtain ⟨x0, x2, rfl, h0, h2⟩ := h
  obtain ⟨A0, c0, rfl⟩ := h0.form
  obtain ⟨A2, c2, rfl⟩ := h2.form
  exact ⟨A0, c0, A2, c2, rfl, h0, h2⟩
theorem PlI.mk {w : World} {x0 x2 : Value} {p : Pl} (h0 : Ints w x0 p.st) (h2 : Ints w x2 p.word) : PlI w (.agg #[x0, .int .i64 p.step, x2]) p := ⟨x0, x2, rfl, h0, h2⟩
theorem PlI.ext {w w1 : World} {v : Value} {p : Pl} (h : PlI w v p) (he : Ext w w1) : PlI w1 v p := by
  obtain ⟨x0, x2, e, h0, h2⟩ := h
  exact ⟨x0, x2, e, h0.ext he, h2.ext he⟩
theorem Pls.form {w : World} {v : Value} {xs : List Pl} (h : Pls w v xs) : ∃ A c, v = .slice A xs.length c := by
  obtain ⟨_, A, c, e, _⟩ := h
  exact ⟨A, c, e⟩
theorem Pls.ext {w w1 : World} {v : Value} {xs : List Pl} (h : Pls w v xs) (he : Ext w w1) : Pls w1 v xs := by
  obtain ⟨hm, A, c, rfl, hl, hc⟩ := h
  refine ⟨hm, A, c, rfl, hl, fun j hj => ?_⟩
  obtain ⟨b, o, A0, c0, A2, c2, e, k0, k1, k2, k3, k4⟩ := hc j hj
  exact ⟨b, o, A0, c0, A2, c2, e, he _ _ k0, he _ _ k1, he _ _ k2, k3.ext he, k4.ext he⟩
theorem Pls.cells {w : World} {v : Value} {xs : List Pl} (h : Pls w v xs) : ∃ A c, v = .slice A xs.length c ∧ xs.length ≤ 9223372036854775807 ∧ xs.length ≤ c ∧
    ∀ j, j < xs.length → ∃ b o A0 c0 A2 c2, A = some ⟨b, o, none⟩ ∧ w.cell? ⟨b, o + j * 3, none⟩ = some (.slice A0 (xs.getD j z0).st.length c0) ∧ w.cell? ⟨b, o + j * 3 + 1, none⟩ = some (.int .i64 (xs.getD j z0).step) ∧
      w.cell? ⟨b, o + j * 3 + 2, none⟩ = some (.slice A2 (xs.getD j z0).word.length c2) ∧ Ints w (.slice A0 (xs.getD j z0).st.length c0) (xs.getD j z0).st ∧ Ints w (.slice A2 (xs.getD j z0).word.length c2) (xs.getD j z0).word := by
  obtain ⟨hm, A, c, rfl, hl, hc⟩ := h
  exact ⟨A, c, rfl, hm, hl, hc⟩
theorem DkI.open {w : World} {v : Value} {d : Dk} (h : DkI w v d) : ∃ A0 c0 A2 c2 A3 c3, v = .agg #[.slice A0 d.now.st.length c0, .int .i64 d.now.step, .slice A2 d.now.word.length c2, .slice A3 d.past.length c3] ∧
    Ints w (.slice A0 d.now.st.length c0) d.now.st ∧ Ints w (.slice A2 d.now.word.length c2) d.now.word ∧ Pls w (.slice A3 d.past.length c3) d.past := by
  obtain ⟨x0, x2, x3, rfl, h0, h2, h3⟩ := h
  obtain ⟨A0, c0, rfl⟩ := h0.form
  obtain ⟨A2, c2, rfl⟩ := h2.form
  obtain ⟨A3, c3, rfl⟩ := h3.form
  exact ⟨A0, c0, A2, c2, A3, c3, rfl, h0, h2, h3⟩
theorem DkI.mk {w : World} {x0 x2 x3 : Value} {d : Dk} (h0 : Ints w x0 d.now.st) (h2 : Ints w x2 d.now.word) (h3 : Pls w x3 d.past) : DkI w (.agg #[x0, .int .i64 d.now.step, x2, x3]) d := ⟨x0, x2, x3, rfl, h0, h2, h3⟩
theorem DkI.ext {w w1 : World} {v : Value} {d : Dk} (h : DkI w v d) (he : Ext w w1) : DkI w1 v d := by
  obtain ⟨x0, x2, x3, e, h0, h2, h3⟩ := h
  exact ⟨x0, x2, x3, e, h0.ext he, h2.ext he, h3.ext he⟩

/-- Where the walk is to stand still. -/
def Stop (p : Prop) : Prop := p
theorem stop {p : Prop} (h : Stop p) : p := h
theorem go_on {p : Prop} (h : p) : Stop p := h
/-- W came out of w: what lay in w lies there still (found by instance). -/
class Bel (w W : World) : Prop where
  out : Below w.heap.size w W
theorem below_drewN (w : World) (n : Nat) : Below w.heap.size w (w.drewN n) := by
  induction n generalizing w with
  | zero => exact Below.refl _ _
  | succ n ih => rw [← World.drew_drewN]; exact (ih w).drew
instance Bel.self {w : World} : Bel w w := ⟨Below.refl _ _⟩
instance Bel.alloc {w W : World} {o : Obj} [h : Bel w W] : Bel w (W.alloc o) := ⟨h.out.alloc h.out.size _⟩
instance Bel.drew {w W : World} [h : Bel w W] : Bel w W.drew := ⟨h.out.drew⟩
instance Bel.drewN {w W : World} {n : Nat} [h : Bel w W] : Bel w (W.drewN n) := ⟨h.out.trans ((below_drewN W n).mono h.out.size)⟩
theorem Bel.step {w W W1 : World} [h : Bel w W] (hb : Below W.heap.size W W1) : Bel w W1 := ⟨h.out.trans (hb.mono h.out.size)⟩
theorem Bel.ext (w : World) {W : World} [h : Bel w W] : Ext w W := Ext.of_below h.out
theorem Ints.at {w W : World} {v : Value} {xs : List Int} (h : Ints w v xs) [b : Bel w W] : Ints W v xs := h.ext (Bel.ext w)
theorem Rows.at {w W : World} {v : Value} {xs : List (List Int)} (h : Rows w v xs) [b : Bel w W] : Rows W v xs := h.ext (Bel.ext w)
theorem PlI.at {w W : World} {v : Value} {p : Pl} (h : PlI w v p) [b : Bel w W] : PlI W v p := h.ext (Bel.ext w)
theorem Pls.at {w W : World} {v : Value} {xs : List Pl} (h : Pls w v xs) [b : Bel w W] : Pls W v xs := h.ext (Bel.ext w)
theorem DkI.at {w W : World} {v : Value} {d : Dk} (h : DkI w v d) [b : Bel w W] : DkI W v d := h.ext (Bel.ext w)
theorem cell_at {w W : World} {a : Addr} {x : Value} (h : w.cell? a = some x) [b : Bel w W] : W.cell? a = some x := (Bel.ext w) _ _ h
theorem bcell {W w1 : World} (hb : Below W.heap.size W w1) : (∀ b o, b < W.heap.size → w1.cell? ⟨b, o, none⟩ = W.cell? ⟨b, o, none⟩) ∧ (∀ b o, b < W.heap.size → w1.frozen? ⟨b, o, none⟩ = W.frozen? ⟨b, o, none⟩) :=
  ⟨fun b o h => hb.cell (p := ⟨b, o, none⟩) h, fun b o h => hb.frozen (p := ⟨b, o, none⟩) h⟩

/-- An element type, as the program's table has it. -/
structure Elt (t e : TypeId) (size bytes : Nat) (z : Value) : Prop where
  und : Tryd.prog.underlying t = some (.slice e)
  inf : ∃ i, Tryd.prog.info? e = some i ∧ i.zero = some z ∧ i.size = size ∧ i.bytes = bytes
  zs : z.cells.size = size
  pos : 0 < size
theorem elt_of {t e : TypeId} {size bytes : Nat} {z : Value} (h : Tryd.prog.underlying t = some (.slice e)) (k : (Tryd.prog.info? e).map (fun i => (i.zero, i.size, i.bytes)) = some (some z, size, bytes)) (hz : z.cells.size = size) (hp : 0 < size) : Elt t e size bytes z := by
  obtain ⟨i, h1, h2, h3, h4⟩ := info_parts k
  exact ⟨h, ⟨i, h1, h2, h3, h4⟩, hz, hp⟩
theorem eI : Elt 23 3 1 8 (.int .i64 0) := elt_of Tryd.underlying23 (by kernel_rfl) rfl (by decide)
theorem eR : Elt 38 23 1 24 (.slice none 0 0) := elt_of Tryd.underlying38 (by kernel_rfl) rfl (by decide)
theorem eP : Elt 26 25 3 56 (.agg #[.slice none 0 0, .int .i64 0, .slice none 0 0]) := elt_of Tryd.underlying26 (by kernel_rfl) rfl (by decide)

/-- append of m elements that lie in a block of their own, onto what the call owns. -/
theorem app_step {t e : TypeId} {size bytes : Nat} {z : Value} (E : Elt t e size bytes z) {w : World} {ops : Array Oper} {o : Oper} {a : Act} {K : Act → World → Prop} {Q : Exit → Act → World → Prop} {F : Prop} (hgd : o.guard = none) (s x : Operand)
    (ho : o.op = .call { callee := .builtin .append, args := #[s, x], argTypes := #[t, t] }) (lo : Nat) (v : Value) (n : Nat) (xs : List Value) (hs : a.eval s = v) (hown : w.ownsRow lo e size v n xs)
    (g0 m c : Nat) (cs : Array Value) (hx : a.eval x = .slice (some ⟨g0, 0, none⟩) m c) (hb : w.heap[g0]? = some (.cells cs e (0, 0))) (hl : cs.toList.length = m * size) (h1 : ∀ u ∈ cs.toList, u.oneCell' = true)
    (hm : 0 < m) (hlen : (n + m) * bytes ≤ 140737488355328) (hn : n + m ≤ 140737488355328) (hlo : lo ≤ w.heap.size)
    (h : ∀ g cap w', w'.ownsRow lo e size (.slice (some ⟨g, 0, none⟩) (n + m) cap) (n + m) (xs ++ cs.toList) → w.grownBy w' v.ownBlock → (v.ownBlock = some g ∨ w.heap.size ≤ g) → K (a.put o.dst (.slice (some ⟨g, 0, none⟩) (n + m) cap)) w') :
    if Region.wanted o (yielded ops a.tmps) = true then Oper.wp Tryd.prog o a w K Q else F := by
  obtain ⟨i, i1, i2, i3, i4⟩ := E.inf
  exact step_append_lies w hgd s x t ho lo e i z size bytes E.und i1 i2 i3 i4 E.zs E.pos v n xs hs hown ⟨g0, 0, none⟩ m c cs.toList hx hl (World.news_of_block hb) h1 hm (by unfold maxLen; omega) hlen hlo _ rfl
    (fun g cap w' k1 k2 k3 _ => h g cap w' k1 k2 (k3.imp id (fun e => by omega)))
theorem app_list {t e : TypeId} {size bytes : Nat} {z : Value} (E : Elt t e size bytes z) {w : World} {ops : Array Oper} {rest : List Oper} {o : Oper} {a : Act} {Q : Exit → Act → World → Prop} (hgd : o.guard = none) (s x : Operand)
    (ho : o.op = .call { callee := .builtin .append, args := #[s, x], argTypes := #[t, t] }) (lo : Nat) (v : Value) (n : Nat) (xs : List Value) (hs : a.eval s = v) (hown : w.ownsRow lo e size v n xs)
    (g0 m c : Nat) (cs : Array Value) (hx : a.eval x = .slice (some ⟨g0, 0, none⟩) m c) (hb : w.heap[g0]? = some (.cells cs e (0, 0))) (hl : cs.toList.length = m * size) (h1 : ∀ u ∈ cs.toList, u.oneCell' = true)
    (hm : 0 < m) (hlen : (n + m) * bytes ≤ 140737488355328) (hn : n + m ≤ 140737488355328) (hlo : lo ≤ w.heap.size)
    (h : ∀ g cap w', w'.ownsRow lo e size (.slice (some ⟨g, 0, none⟩) (n + m) cap) (n + m) (xs ++ cs.toList) → w.grownBy w' v.ownBlock → (v.ownBlock = some g ∨ w.heap.size ≤ g) → wpList Tryd.prog ops Q rest (a.put o.dst (.slice (some ⟨g, 0, none⟩) (n + m) cap)) w') :
    wpList Tryd.prog ops Q (o :: rest) a w := by
  obtain ⟨i, i1, i2, i3, i4⟩ := E.inf
  exact wpList_append_lies w hgd s x t ho lo e i z size bytes E.und i1 i2 i3 i4 E.zs E.pos v n xs hs hown ⟨g0, 0, none⟩ m c cs.toList hx hl (World.news_of_block hb) h1 hm (by unfold maxLen; omega) hlen hlo _ rfl
    (fun g cap w' k1 k2 k3 _ => h g cap w' k1 k2 (k3.imp id (fun e => by omega)))
/-- Behind an append onto what is owned from B on: below B all is as it was. -/
theorem Below.app {B : Nat} {w w0 w1 : World} {e : TypeId} {size n : Nat} {v : Value} {xs : List Value} (h : Below B w w0) (ho : w0.ownsRow B e size v n xs) (hg : w0.grownBy w1 v.ownBlock) (hs : B ≤ w0.heap.size) : Below B w w1 :=
  h.grown hg hs (fun k hk => (ho.lt k hk).1)
theorem own_below {lo : Nat} {w w1 : World} {e : TypeId} {size n : Nat} {v : Value} {xs : List Value} (h : w.ownsRow lo e size v n xs) (hb : Below w.heap.size w w1) : w1.ownsRow lo e size v n xs := by
  obtain ⟨h1, h2⟩ := h
  refine ⟨h1, ?_⟩
  rcases h2 with h2 | ⟨g, cap, cur, hv, hg, hh, r⟩
  · exact .inl h2
  · exact .inr ⟨g, cap, cur, hv, hg, (hb.block g (Array.getElem?_eq_some_iff.1 hh).1).trans hh, r⟩
theorem i64_wrap {x : Int} (h1 : -9223372036854775808 ≤ x) (h2 : x ≤ 9223372036854775807) : IntKind.i64.wrap x = x := IntWalk.i64_in _ (by omega)

/-- Numbers of the call's own. -/
def OwnI (w : World) (lo : Nat) (v : Value) (xs : List Int) : Prop := w.ownsRow lo 3 1 v xs.length (nums xs)
theorem OwnI.nil (w : World) (lo : Nat) : OwnI w lo (.slice none 0 0) [] := World.ownsRow_nil _ _ _ _
theorem OwnI.ints {w : World} {lo : Nat} {v : Value} {xs : List Int} (h : OwnI w lo v xs) : Ints w v xs := by
  obtain ⟨h1, ⟨rfl, h2⟩ | ⟨g, cap, cur, rfl, hg, hh, hc, hm, hs, ht⟩⟩ := h
  · obtain rfl := List.length_eq_zero_iff.1 h2
    exact ⟨by simp, none, 0, rfl, by simp, fun _ => rfl, fun j hj => by simp at hj⟩
  · refine ⟨by unfold maxLen at hm; omega, some ⟨g, 0, none⟩, cap, rfl, hc, fun h => (by cases h), fun j hj => ⟨g, 0, rfl, ?_⟩⟩
    have e : (nums xs)[j]? = some (.int .i64 (xs.getD j 0)) := by
      simp [nums, hj]
    rw [Nat.zero_add, cell_of_row w g j cur _ _ hh]
    rw [← ht, List.getElem?_take] at e
    split at e
    · simpa using e
    · cases e

theorem OwnI.lt {w : World} {lo : Nat} {v : Value} {xs : List Int} (h : OwnI w lo v xs) : ∀ k, v.ownBlock = some k → lo ≤ k ∧ k < w.heap.size := World.ownsRow.lt h
theorem OwnI.bel {w w1 : World} {lo : Nat} {v : Value} {xs : List Int} (h : OwnI w lo v xs) (hb : Below w.heap.size w w1) : OwnI w1 lo v xs := own_below h hb
theorem OwnI.at {w w1 : World} {lo : Nat} {v : Value} {xs : List Int} (h : OwnI w lo v xs) [b : Bel w w1] : OwnI w1 lo v xs := own_below h b.out
theorem OwnI.mono {w : World} {lo lo' : Nat} {v : Value} {xs : List Int} (h : OwnI w lo v xs) (hl : lo' ≤ lo) : OwnI w lo' v xs := by
  obtain ⟨h1, h2⟩ := h
  refine ⟨h1, ?_⟩
  rcases h2 with h2 | ⟨g, cap, cur, hv, hg, r⟩
  · exact .inl h2
  · exact .inr ⟨g, cap, cur, hv, Nat.le_trans hl hg, r⟩
theorem own_typed {w : World} {lo : Nat} {e : TypeId} {size n : Nat} {v : Value} {xs : List Value} (h : w.ownsRow lo e size v n xs) {k : Nat} (hk : v.ownBlock = some k) : ∃ cells, w.heap[k]? = some (.cells cells e (0, 0)) := by
  rcases h.2 with ⟨rfl, _⟩ | ⟨g, cap, cur, rfl, hg, hh, r⟩
  · simp [Value.ownBlock] at hk
  · have : g = k := by simpa [Value.ownBlock] using hk
    subst this
    exact ⟨cur, hh⟩
/-- A row of another type has been written: this one stays. -/
theorem own_other {w w1 : World} {lo lo' : Nat} {e e' : TypeId} {s s' n n' : Nat} {v u : Value} {xs ys : List Value} (h : w.ownsRow lo e s v n xs) (ho : w.ownsRow lo' e' s' u n' ys) (hg : w.grownBy w1 u.ownBlock) (hne : e ≠ e') : w1.ownsRow lo e s v n xs := by
  refine World.ownsRow.kept h hg ?_
  cases hv : v.ownBlock with
  | none => exact .inl rfl
  | some k =>
    refine .inr fun e2 => hne ?_
    obtain ⟨c1, h1⟩ := own_typed h hv
    obtain ⟨c2, h2⟩ := own_typed ho e2.symm
    rw [h1] at h2
    injection h2 with h2
    injection h2
/-- An append of one number. -/
theorem OwnI.push {w : World} {lo g cap n : Nat} {xs : List Int} {y : Int} (h : w.ownsRow lo 3 1 (.slice (some ⟨g, 0, none⟩) (n + 1) cap) (n + 1) (nums xs ++ [.int .i64 y])) (hn : xs.length = n) : OwnI w lo (.slice (some ⟨g, 0, none⟩) (n + 1) cap) (xs ++ [y]) := by
  subst hn
  unfold OwnI
  rw [List.length_append, List.length_singleton]
  simpa [nums] using h

/-- Rows of numbers, all of the call's own. -/
def OwnR (w : World) (lo : Nat) (v : Value) (xs : List (List Int)) : Prop :=
  ∃ es : List Value, w.ownsRow lo 23 1 v xs.length es ∧ ∀ j, j < xs.length → ∃ e, es[j]? = some e ∧ OwnI w lo e (xs.getD j [])
theorem OwnR.nil (w : World) (lo : Nat) : OwnR w lo (.slice none 0 0) [] := ⟨[], World.ownsRow_nil _ _ _ _, fun j hj => by simp at hj⟩
theorem OwnR.bel {w w1 : World} {lo : Nat} {v : Value} {xs : List (List Int)} (h : OwnR w lo v xs) (hb : Below w.heap.size w w1) : OwnR w1 lo v xs := by
  obtain ⟨es, h1, h2⟩ := h
  exact ⟨es, own_below h1 hb, fun j hj => by obtain ⟨e, k1, k2⟩ := h2 j hj; exact ⟨e, k1, k2.bel hb⟩⟩
theorem OwnR.rows {w : World} {lo : Nat} {v : Value} {xs : List (List Int)} (h : OwnR w lo v xs) : Rows w v xs := by
  obtain ⟨es, ⟨h1, ⟨rfl, h2⟩ | ⟨g, cap, cur, rfl, hg, hh, hc, hm, hs, ht⟩⟩, h3⟩ := h
  · obtain rfl := List.length_eq_zero_iff.1 h2
    exact ⟨by simp, none, 0, rfl, by simp, fun j hj => by simp at hj⟩
  · refine ⟨by unfold maxLen at hm; omega, some ⟨g, 0, none⟩, cap, rfl, hc, fun j hj => ?_⟩
    obtain ⟨e, k1, k2⟩ := h3 j hj
    obtain ⟨A', c', rfl⟩ := k2.ints.form
    refine ⟨g, 0, A', c', rfl, ?_, k2.ints⟩
    rw [Nat.zero_add, cell_of_row w g j cur _ _ hh]
    rw [← ht, List.getElem?_take] at k1
    split at k1
    · simpa using k1
    · cases k1
theorem OwnR.push {w w1 : World} {lo : Nat} {v e : Value} {xs : List (List Int)} {x : List Int} {es : List Value} {v' : Value} (he : OwnI w lo e x) (hes : w.ownsRow lo 23 1 v xs.length es ∧ ∀ j, j < xs.length → ∃ e, es[j]? = some e ∧ OwnI w lo e (xs.getD j []))
    (hg : w.grownBy w1 v.ownBlock) (h1 : w1.ownsRow lo 23 1 v' (xs.length + 1) (es ++ [e])) : OwnR w1 lo v' (xs ++ [x]) := by
  refine ⟨es ++ [e], by rw [List.length_append]; exact h1, fun j hj => ?_⟩
  have hl : es.length = xs.length := by have := hes.1.1; omega
  rw [List.length_append, List.length_singleton] at hj
  by_cases e2 : j < xs.length
  · obtain ⟨u, k1, k2⟩ := hes.2 j e2
    refine ⟨u, by rw [List.getElem?_append_left (by omega)]; exact k1, ?_⟩
    have : (xs ++ [x]).getD j [] = xs.getD j [] := by simp [List.getD, List.getElem?_append_left e2]
    rw [this]
    exact own_other k2 hes.1 hg (by decide)
  · obtain rfl : j = xs.length := by omega
    refine ⟨e, by rw [List.getElem?_append_right (by omega)]; simp [hl], ?_⟩
    have : (xs ++ [x]).getD xs.length [] = x := by simp [List.getD]
    rw [this]
    exact own_other he hes.1 hg (by decide)

theorem OwnI.cell {w : World} {lo g n cap : Nat} {xs : List Int} (h : OwnI w lo (.slice (some ⟨g, 0, none⟩) n cap) xs) (j : Nat) (hj : j < xs.length) : w.cell? ⟨g, j, none⟩ = some (.int .i64 (xs.getD j 0)) := by
  obtain ⟨_, A, c, e, _, _, hc⟩ := h.ints
  cases e
  obtain ⟨b, o, e, hx⟩ := hc j hj
  cases e
  rwa [Nat.zero_add] at hx
theorem OwnI.frozen {w : World} {lo g n cap : Nat} {xs : List Int} (h : OwnI w lo (.slice (some ⟨g, 0, none⟩) n cap) xs) (j : Nat) : w.frozen? ⟨g, j, none⟩ = false := by
  obtain ⟨_, A, c, e, _⟩ := h.ints
  cases e
  exact World.ownsRow.frozenAt h j
theorem OwnI.store {w : World} {lo g n cap : Nat} {xs : List Int} (h : OwnI w lo (.slice (some ⟨g, 0, none⟩) n cap) xs) (j : Nat) (x : Int) : OwnI (w.setCell ⟨g, j, none⟩ (.int .i64 x)) lo (.slice (some ⟨g, 0, none⟩) n cap) (xs.set j x) := by
  obtain ⟨_, A, c, e, _⟩ := h.ints
  cases e
  have := (World.ownsRow.stored h j (.int .i64 x)).1
  unfold OwnI
  rw [List.length_set]
  simpa [nums, List.map_set] using this
theorem bel_grown {w w1 : World} (hg : w.grownBy w1 none) : Bel w w1 := ⟨(Below.refl _ _).grown hg (Nat.le_refl _) (fun k hk => by cases hk)⟩
theorem bel_set {w W : World} [h : Bel w W] {p : Addr} (hp : w.heap.size ≤ p.block) (u : Value) : Bel w (W.setCell p u) := ⟨h.out.setCell hp u⟩

/-- append of all of a slice of numbers onto what the call owns. -/
theorem app_all {w : World} {ops : Array Oper} {rest : List Oper} {o : Oper} {a : Act} {Q : Exit → Act → World → Prop} (hgd : o.guard = none) (s x : Operand)
    (ho : o.op = .call { callee := .builtin .append, args := #[s, x], argTypes := #[23, 23] }) (lo : Nat) (v : Value) (xs : List Int) (hs : a.eval s = v) (hown : OwnI w lo v xs)
    (u : Value) (ys : List Int) (hx : a.eval x = u) (hy : Ints w u ys) (hlen : xs.length + ys.length ≤ 1000000) (hlo : lo ≤ w.heap.size)
    (h : ∀ v' w', OwnI w' lo v' (xs ++ ys) → w.grownBy w' v.ownBlock → (v'.ownBlock = v.ownBlock ∨ ∃ g, v'.ownBlock = some g ∧ w.heap.size ≤ g) → wpList Tryd.prog ops Q rest (a.put o.dst v') w') : wpList Tryd.prog ops Q (o :: rest) a w := by
  obtain ⟨i, i1, i2, i3, i4⟩ := eI.inf
  have go : ∀ (ad : Addr) (c : Nat), u = .slice (some ad) ys.length c → (∀ j y, (nums ys)[j]? = some y → w.cell? (ad.add j) = some y) → wpList Tryd.prog ops Q (o :: rest) a w := fun ad c e hc => by
    subst e
    refine wpList_append_own_at w hgd s x _ ho lo _ i _ 1 8 eI.und i1 i2 i3 i4 eI.zs eI.pos v xs.length (nums xs) hs hown ad ys.length c (nums ys) hx (by simp [nums]) hc (fun q hq => by simp only [nums, List.mem_map] at hq; obtain ⟨_, _, rfl⟩ := hq; rfl) (by unfold maxLen; omega) (by omega) hlo ?_
    intro v' w' k1 k2 _ k4
    refine h v' w' ?_ k2 (k4.imp id fun e => ⟨_, e, Nat.le_refl _⟩)
    unfold OwnI
    rw [List.length_append]
    simpa [nums] using k1
  obtain ⟨hm, A, c, rfl, hl, hz, hc⟩ := hy
  cases A with
  | some ad =>
    refine go ad c rfl fun j y hj => ?_
    have hjl : j < ys.length := by
      rcases Nat.lt_or_ge j ys.length with h' | h'
      · exact h'
      · rw [List.getElem?_eq_none (by simpa [nums] using h')] at hj; cases hj
    obtain ⟨b, f, e, hq⟩ := hc j hjl
    cases e
    have e2 : (⟨b, f, none⟩ : Addr).add j = ⟨b, f + j, none⟩ := by unfold Addr.add; split <;> simp_all
    rw [e2, hq]
    simpa [nums, hjl] using hj
  | none =>
    have h0 : ys.length = 0 := by
      rcases Nat.eq_zero_or_pos ys.length with h' | h'
      · exact h'
      · obtain ⟨b, o, e, _⟩ := hc 0 h'; cases e
    obtain rfl := hz rfl
    obtain rfl := List.length_eq_zero_iff.1 h0
    refine wpList_append_own_none hgd s x _ ho lo _ i 1 eI.und i1 v xs.length (nums xs) hs hown hx ?_
    refine h v w (by rw [List.append_nil]; exact hown) ⟨rfl, rfl, rfl, Nat.le_refl _, fun _ _ _ => rfl⟩ (.inl rfl)

/-- 'make([]int, n)'. -/
theorem make_ints {w : World} {ops : Array Oper} {rest : List Oper} {o : Oper} {a : Act} {Q : Exit → Act → World → Prop} (hg : o.guard = none) (l c : Operand) (hop : o.op = Op.makeSlice 23 l c) (lo n : Nat)
    (hl : a.eval l = .int .i64 n) (hc : a.eval c = .int .i64 n) (hn : n ≤ 1000000) (hlo : lo ≤ w.heap.size)
    (hK : ∀ w', OwnI w' lo (.slice (some ⟨w.heap.size, 0, none⟩) n n) (List.replicate n 0) → w.grownBy w' none → wpList Tryd.prog ops Q rest (a.put o.dst (.slice (some ⟨w.heap.size, 0, none⟩) n n)) w') : wpList Tryd.prog ops Q (o :: rest) a w := by
  obtain ⟨i, i1, i2, i3, i4⟩ := eI.inf
  refine wpList_make_full w hg l c _ hop lo _ i _ 1 eI.und i1 i2 i3 .i64 .i64 n n n hl hc rfl rfl (by rw [i4]; omega) (by unfold maxLen; omega) hlo fun w' h1 h2 => hK w' ?_ h2
  unfold OwnI
  rw [List.length_replicate]
  have e : (madeCells (Value.int .i64 0).cells (n * 1)).toList = nums (List.replicate n 0) := by
    simp [madeCells, nums, Value.cells]
    rw [List.eq_replicate_iff]
    simp [Nat.mod_one]
  rw [← e]; exact h1

end Go.Proofs.YtpfncjaclgcbnaaDoor.Ub
