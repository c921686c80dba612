/- Desks of the call's own, whose last row may grow; and what a reader's step leaves. -/
import Derived.Test.YtpfncjaclgcbnaaDoorOwn2
set_option linter.unusedVariables false
set_option linter.unusedSimpArgs false
namespace Go.Proofs.YtpfncjaclgcbnaaDoor.Ub
open Go.RowKit

def HasD (w : World) (lo : Nat) (v : Value) (d : Dk) : Prop := ∃ x0 x2 x3, v = .agg #[x0, .int .i64 d.now.step, x2, x3] ∧ OwnI w lo x0 d.now.st ∧ OwnI w lo x2 d.now.word ∧ HasPs w lo x3 d.past
def DkP (w : World) (lo : Nat) (v : Value) (d : Dk) (n : Nat) : Prop := DkS w lo v d ∧ (n < 8 → HasD w lo v d)
theorem HasD.dk {w : World} {lo : Nat} {v : Value} {d : Dk} (h : HasD w lo v d) : DkI w v d := by
  obtain ⟨x0, x2, x3, e, h0, h2, h3⟩ := h
  exact ⟨x0, x2, x3, e, h0.ints, h2.ints, h3.pls⟩
theorem OwnPs.has {w : World} {lo hi : Nat} {f : Nat → Nat} {v : Value} {ps : List Pl} (h : OwnPs w lo hi f v ps) : HasPs w lo v ps := by
  obtain ⟨es, h1, _, h3⟩ := h
  exact ⟨es, h1, fun j hj => by obtain ⟨x0, x2, k0, k1, k2, k3, k4⟩ := h3 j hj; exact ⟨x0, x2, k0, k1, k2, k3.1, k4.1⟩⟩
theorem HasPs.lo {w : World} {lo lo' : Nat} {v : Value} {ps : List Pl} (h : HasPs w lo v ps) (hl : lo' ≤ lo) : HasPs w lo' v ps := by
  obtain ⟨es, h1, h3⟩ := h
  exact ⟨es, own_lo h1 hl, fun j hj => by obtain ⟨x0, x2, k0, k1, k2, k3, k4⟩ := h3 j hj; exact ⟨x0, x2, k0, k1, k2, k3.mono hl, k4.mono hl⟩⟩
theorem DkO.has {w : World} {lo hi : Nat} {f : Nat → Nat} {v : Value} {d : Dk} (h : DkO w lo hi f v d) : HasD w lo v d := by
  obtain ⟨x0, x2, x3, e, h0, h2, h3⟩ := h
  exact ⟨x0, x2, x3, e, h0.1, h2.1, h3.has⟩
theorem HasD.lo {w : World} {lo lo' : Nat} {v : Value} {d : Dk} (h : HasD w lo v d) (hl : lo' ≤ lo) : HasD w lo' v d := by
  obtain ⟨x0, x2, x3, e, h0, h2, h3⟩ := h
  exact ⟨x0, x2, x3, e, h0.mono hl, h2.mono hl, h3.lo hl⟩
theorem HasD.set4 {w : World} {lo : Nat} {v : Value} {d : Dk} {g : Nat} {cs : Array Value} {ty : TypeId} (h : HasD w lo v d) (hb : w.heap[g]? = some (.cells cs ty (0, 0))) (h1 : 3 ≠ ty) (h2 : 25 ≠ ty) (u0 u1 u2 u3 : Value) : HasD (Ub.set4 w g u0 u1 u2 u3) lo v d := by
  obtain ⟨x0, x2, x3, e, k0, k2, k3⟩ := h
  exact ⟨x0, x2, x3, e, k0.set4 hb h1 _ _ _ _, k2.set4 hb h1 _ _ _ _, k3.set4 hb h1 h2 _ _ _ _⟩
theorem HasD.nil (w : World) (lo : Nat) : HasD w lo (.agg #[.slice none 0 0, .int .i64 0, .slice none 0 0, .slice none 0 0]) zd :=
  ⟨_, _, _, rfl, OwnI.nil w lo, OwnI.nil w lo, (OwnPs.nil w lo 0 (fun _ => 0)).has⟩
theorem HasD.bel {w w1 : World} {lo : Nat} {v : Value} {d : Dk} (h : HasD w lo v d) (hb : Below w.heap.size w w1) : HasD w1 lo v d := by
  obtain ⟨x0, x2, x3, e, k0, k2, k3⟩ := h
  exact ⟨x0, x2, x3, e, k0.bel hb, k2.bel hb, k3.kept (fun k _ hk => hb.block k hk)⟩
/-- Block g, of another type, has been written, and new blocks have come. -/
theorem own_pick {w w1 : World} {lo g : Nat} {e ty : TypeId} {s n : Nat} {v : Value} {xs : List Value} {cs : Array Value} {fr : Nat × Nat} (h : w.ownsRow lo e s v n xs) (hb : w.heap[g]? = some (.cells cs ty fr)) (hne : e ≠ ty) (hg : w.grownBy w1 (some g)) : w1.ownsRow lo e s v n xs :=
  World.ownsRow.kept h hg (by
    cases hv : v.ownBlock with
    | none => exact .inl rfl
    | some k => exact .inr (fun e2 => own_ne h hb hne k hv (by injection e2)))
theorem OwnI.pick {w w1 : World} {lo g : Nat} {ty : TypeId} {v : Value} {xs : List Int} {cs : Array Value} {fr : Nat × Nat} (h : OwnI w lo v xs) (hb : w.heap[g]? = some (.cells cs ty fr)) (hne : 3 ≠ ty) (hg : w.grownBy w1 (some g)) : OwnI w1 lo v xs := own_pick h hb hne hg
theorem HasD.pick {w w1 : World} {lo g : Nat} {ty : TypeId} {v : Value} {d : Dk} {cs : Array Value} {fr : Nat × Nat} (h : HasD w lo v d) (hb : w.heap[g]? = some (.cells cs ty fr)) (h1 : 3 ≠ ty) (h2 : 25 ≠ ty) (hg : w.grownBy w1 (some g)) : HasD w1 lo v d := by
  obtain ⟨x0, x2, x3, e, k0, k2, es, k3, k4⟩ := h
  refine ⟨x0, x2, x3, e, k0.pick hb h1 hg, k2.pick hb h1 hg, es, own_pick k3 hb h2 hg, fun j hj => ?_⟩
  obtain ⟨y0, y2, a0, a1, a2, a3, a4⟩ := k4 j hj
  exact ⟨y0, y2, a0, a1, a2, a3.pick hb h1 hg, a4.pick hb h1 hg⟩
end Go.Proofs.YtpfncjaclgcbnaaDoor.Ub
