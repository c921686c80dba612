/- The program's DeskDo: what follows the switch. -/
import Derived.Test.YtpfncjaclgcbnaaDoorF18
set_option linter.unusedVariables false
set_option linter.unusedSimpArgs false
namespace Go.Proofs.YtpfncjaclgcbnaaDoor.Ub
open Go.RowKit Go.Proofs.YtpfncjaclgcbnaaDoorW

def headIs (n : Nat) : Code → Bool
  | .region k _ _ => k == n
  | .seq a _ => headIs n a
  | _ => false
/-- A function's code from a region on, taken out of the translation. -/
def tailAt (n : Nat) : Code → Option Code
  | .seq a b => if headIs n a then some (.seq a b) else match tailAt n a with
    | some c => some c
    | none => tailAt n b
  | _ => none
def fstC : Code → Code
  | .seq a _ => a
  | c => c
def sndC : Code → Code
  | .seq _ b => b
  | c => c
noncomputable def t27 : Code := (Tryd.f8.body.bind (tailAt 27)).getD .skip
noncomputable def r27 : Code := fstC (fstC t27)
noncomputable def c27 : Code := sndC (fstC t27)
noncomputable def d27 : Code := sndC t27

theorem okI_is {q : Pl} {b : Bool} (h : placeOk q = b) (v : Value) (w' : World) (hp : PlI w' v q) : Calls Tryd.prog 37 #[v] w' fun e w'' => e = .returned (.bool b) ∧ Below w'.heap.size w' w'' := by
  have := i_PlaceOk v q w' hp
  rw [h] at this; exact this


set_option maxHeartbeats 2000000 in
set_option maxRecDepth 1000000 in
theorem tail_bad (d : Dk) (a : Dd) (q : Pl) (w wa W : World) (A0 A2 A3 : Option Addr) (c0 c2 c3 : Nat) (i0 : Ints w (.slice A0 d.now.st.length c0) d.now.st) (i2 : Ints w (.slice A2 d.now.word.length c2) d.now.word) (hs1 : d.now.st.length ≤ 3) (hs2 : d.now.word.length ≤ 6) (hs3 : d.past.length ≤ 8)
    (HSM : Hid (∀ j, j < d.past.length → (d.past.getD j z0).st.length ≤ 3 ∧ (d.past.getD j z0).word.length ≤ 6)) (HEN : Hid (Env w)) (ba : Bel w wa) (baW : Bel wa W) (hza : w.heap.size + 2 < wa.heap.size) (g6 g7 m lo hi : Nat) (f1 f2 : Nat → Nat)
    (B0 B2 B3 C0 C2 C3 : Option Addr) (e0 e2 e3 k0 k2 k3 : Nat)
    (HBX : Hid (W.heap[w.heap.size]? = some (.cells #[.slice A0 d.now.st.length c0, .int .i64 d.now.step, .slice A2 d.now.word.length c2, .slice A3 d.past.length c3] 28 (0, 0))))
    (HBR : Hid (W.heap[w.heap.size + 2]? = some (.cells #[.slice none 0 0, .int .i64 0, .slice none 0 0, .slice none 0 0] 28 (0, 0))))
    (HB6 : Hid (W.heap[g6]? = some (.cells #[.slice B0 d.now.st.length e0, .int .i64 d.now.step, .slice B2 d.now.word.length e2, .slice B3 d.past.length e3] 28 (0, 0))))
    (HB7 : Hid (W.heap[g7]? = some (.cells #[.slice C0 q.st.length k0, .int .i64 q.step, .slice C2 q.word.length k2, .slice C3 d.past.length k3] 28 (0, 0))))
    (HD1 : Hid (DkO W wa.heap.size m f1 (.agg #[.slice B0 d.now.st.length e0, .int .i64 d.now.step, .slice B2 d.now.word.length e2, .slice B3 d.past.length e3]) d)) (HFM : Hid (m ≤ W.heap.size))
    (HS : Hid (OwnI W 0 (.slice C0 q.st.length k0) q.st)) (HV : Hid (OwnI W 0 (.slice C2 q.word.length k2) q.word)) (HPs : Hid (OwnPs W lo hi f2 (.slice C3 d.past.length k3) d.past)) (HLO : Hid (wa.heap.size ≤ lo)) (HHI : Hid (hi ≤ W.heap.size))
    (HNE : Hid (g6 ≠ g7)) (HL7 : Hid (wa.heap.size ≤ g7))
    (y0 y1 y3 y5 y9 y10 y11 y12 y13 y14 y15 y16 y17 y18 y19 y20 y21 y22 y23 y24 y25 y26 y27 y28 y29 y30 y31 y32 y33 y34 y35 y36 y37 y38 y39 y40 y41 y42 y43 y44 y45 y46 y47 y48 y49 y50 y51 y52 y53 y54 y55 y56 y57 y58 y59 y60 y61 y62 y63 y64 y65 y66 y67 y68 y69 y70 y71 y72 y73 y74 y75 y76 y77 y78 y79 y80 y81 y82 y83 y84 y85 y86 y87 y88 y89 y90 y91 y92 y93 y94 y95 y96 y97 y98 y99 y100 y101 y102 y103 y104 y105 y106 y107 y108 y109 y110 y111 y112 y113 y114 y115 y116 y117 y118 y119 y120 y121 y122 y123 y124 y125 y126 y127 y128 y129 y130 y131 y132 y133 y134 y135 y136 y137 y138 y139 y140 y141 y142 y143 y144 y145 y146 y147 y148 y149 y150 y151 y152 y153 y154 y155 y156 y157 : Value) (K1 K2 : Act → World → Prop)
    (hqo : placeOk q = false) (HD : Hid (doDesk d a = d ∧ doOk d a = false))
    (h1 : ∀ a' w', Code.wp Tryd.prog c27 (Exit.then K2 (bodyPost Tryd.prog Tryd.f8 fun e w' => ∃ v', e = .returned (.tuple #[v', .bool (doOk d a)]) ∧ (∃ f, DkW w' w.heap.size w'.heap.size f v' (doDesk d a)) ∧ Below w.heap.size w w')) a' w' → K1 a' w')
    (h2 : ∀ a' w', Code.wp Tryd.prog d27 (bodyPost Tryd.prog Tryd.f8 fun e w' => ∃ v', e = .returned (.tuple #[v', .bool (doOk d a)]) ∧ (∃ f, DkW w' w.heap.size w'.heap.size f v' (doDesk d a)) ∧ Below w.heap.size w w') a' w' → K2 a' w') :
    Code.wp Tryd.prog r27 (Exit.then K1 (Exit.then K2 (bodyPost Tryd.prog Tryd.f8 fun e w' => ∃ v', e = .returned (.tuple #[v', .bool (doOk d a)]) ∧ (∃ f, DkW w' w.heap.size w'.heap.size f v' (doDesk d a)) ∧ Below w.heap.size w w'))) ⟨#[y0, y1, .pointer (some ⟨w.heap.size, 0, none⟩), y3, .pointer (some ⟨w.heap.size + 1 + 1, 0, none⟩), y5, .pointer (some ⟨g6, 0, none⟩), .pointer (some ⟨g7, 0, none⟩), .pointer (some ⟨g7, 0, none⟩), y9, y10, y11, y12, y13, y14, y15, y16, y17, y18, y19, y20, y21, y22, y23, y24, y25, y26, y27, y28, y29, y30, y31, y32, y33, y34, y35, y36, y37, y38, y39, y40, y41, y42, y43, y44, y45, y46, y47, y48, y49, y50, y51, y52, y53, y54, y55, y56, y57, y58, y59, y60, y61, y62, y63, y64, y65, y66, y67, y68, y69, y70, y71, y72, y73, y74, y75, y76, y77, y78, y79, y80, y81, y82, y83, y84, y85, y86, y87, y88, y89, y90, y91, y92, y93, y94, y95, y96, y97, y98, y99, y100, y101, y102, y103, y104, y105, y106, y107, y108, y109, y110, y111, y112, y113, y114, y115, y116, y117, y118, y119, y120, y121, y122, y123, y124, y125, y126, y127, y128, y129, y130, y131, y132, y133, y134, y135, y136, y137, y138, y139, y140, y141, y142, y143, y144, y145, y146, y147, y148, y149, y150, y151, y152, y153, y154, y155, y156, y157], []⟩ W := by
  conv => arg 2; whnf
  conv at h1 => enter [a', w', 1]; arg 2; whnf
  conv at h2 => enter [a', w', 1]; arg 2; whnf
  haveI bwW : Bel w W := Bel.step (w := w) baW.out
  have n0 := block_cell HB7.out 0 rfl
  have n1 := block_cell HB7.out 1 rfl
  have n2 := block_cell HB7.out 2 rfl
  have x0 := block_cell HBX.out 0 rfl
  have x1 := block_cell HBX.out 1 rfl
  have x2 := block_cell HBX.out 2 rfl
  have HPO := Lib.hid (okI_is hqo)
  clear hqo
  refine PrintLast.start_ (n := 15) (S := fun w' => w'.cell? ⟨w.heap.size, 0, none⟩ = some (.slice A0 d.now.st.length c0) ∧ w'.cell? ⟨w.heap.size, 1, none⟩ = some (.int .i64 d.now.step) ∧ w'.cell? ⟨w.heap.size, 2, none⟩ = some (.slice A2 d.now.word.length c2) ∧ w'.cell? ⟨g7, 0, none⟩ = some (.slice C0 q.st.length k0) ∧ w'.cell? ⟨g7, 1, none⟩ = some (.int .i64 q.step) ∧ w'.cell? ⟨g7, 2, none⟩ = some (.slice C2 q.word.length k2)) (ds := []) #[false, false, false, false, false, false, false, false, false, false, false, false, false, false, false] (by kernel_rfl) rfl rfl ⟨cell_at x0, cell_at x1, cell_at x2, cell_at n0, cell_at n1, cell_at n2⟩ (fun hHeld => ?_)
  refine PrintLast.pure_ (i := 0) (N := (some 124)) (v := ?_) (a' := ?_) #[true, false, false, false, false, false, false, false, false, false, false, false, false, false, false] rfl rfl (by kernel_rfl) (fun _ _ _ h => h) (Or.inl ⟨by rfl, ?_⟩) ?_ ?_
  rotate_left
  · (intro w'; go_simp; with_reducible rfl)
  rotate_left
  · (simp only [Act.put, List.setIfInBounds_toArray, List.set_cons_zero, List.set_cons_succ, PrintLast.i64_w, PrintLast.i32_w]; rfl)
  refine PrintLast.pure_ (i := 1) (N := (some 125)) (v := ?_) (a' := ?_) #[true, true, false, false, false, false, false, false, false, false, false, false, false, false, false] rfl rfl (by kernel_rfl) (fun _ _ _ h => h) (Or.inl ⟨by rfl, ?_⟩) ?_ ?_
  rotate_left
  · (intro w'; go_simp; with_reducible rfl)
  rotate_left
  · (simp only [Act.put, List.setIfInBounds_toArray, List.set_cons_zero, List.set_cons_succ, PrintLast.i64_w, PrintLast.i32_w]; rfl)
  refine PrintLast.take_ (i := 2) (N := (some 126)) (v := ?_) (a' := ?_) #[true, true, true, false, false, false, false, false, false, false, false, false, false, false, false] rfl rfl (by kernel_rfl) (fun _ _ _ h => h) (Or.inl ⟨by rfl, ?_⟩) hHeld ?_ ?_
  rotate_left
  · (rintro w' ⟨s0, s1, s2, s3, s4, s5⟩; go_simp; with_reducible rfl)
  rotate_left
  · (simp only [Act.put, List.setIfInBounds_toArray, List.set_cons_zero, List.set_cons_succ, PrintLast.i64_w, PrintLast.i32_w]; rfl)
  refine PrintLast.one_ (i := 3) (N := (some 127)) #[true, true, true, true, false, false, false, false, false, false, false, false, false, false, false] rfl rfl (by kernel_rfl) (by decide) (fun K hK => ?_)
  refine PrintLast.goes_ Tryd.func37 (by kernel_rfl) rfl #[.agg #[.slice C0 q.st.length k0, .int .i64 q.step, .slice C2 q.word.length k2]] (by rfl) rfl rfl (by (try simp only [List.map_toArray, List.map_cons, List.map_nil]); first | done | rfl) ?_
  refine (HPO.out _ _ (PlI.mk (OwnI.ints HS.out).at (OwnI.ints HV.out).at)).mono ?_
  rintro e w9 ⟨rfl, hb9⟩
  haveI : Bel W w9 := Bel.step (w := W) hb9
  refine ⟨_, rfl, ?_⟩
  refine hK.out _ _ ⟨cell_at x0, cell_at x1, cell_at x2, cell_at n0, cell_at n1, cell_at n2⟩ (fun hHeld => ?_)
  clear hK K
  refine PrintLast.norm_ (a' := ?_) ?_ ?_
  rotate_left
  · (show Act.put _ (some 127) _ = _; simp only [Act.put, List.setIfInBounds_toArray, List.set_cons_zero, List.set_cons_succ, PrintLast.i64_w, PrintLast.i32_w]; rfl)
  refine PrintLast.pure_ (i := 4) (N := (some 128)) (v := ?_) (a' := ?_) #[true, true, true, true, true, false, false, false, false, false, false, false, false, false, false] rfl rfl (by kernel_rfl) (fun _ _ _ h => h) (Or.inl ⟨by rfl, ?_⟩) ?_ ?_
  rotate_left
  · (intro w'; go_simp; with_reducible rfl)
  rotate_left
  · (simp only [Act.put, List.setIfInBounds_toArray, List.set_cons_zero, List.set_cons_succ, PrintLast.i64_w, PrintLast.i32_w]; rfl)
  refine PrintLast.pure_ (i := 5) (N := (some 129)) (v := ?_) (a' := ?_) #[true, true, true, true, true, true, false, false, false, false, false, false, false, false, false] rfl rfl (by kernel_rfl) (fun _ _ _ h => h) (Or.inl ⟨by rfl, ?_⟩) ?_ ?_
  rotate_left
  · (intro w'; go_simp; with_reducible rfl)
  rotate_left
  · (simp only [Act.put, List.setIfInBounds_toArray, List.set_cons_zero, List.set_cons_succ, PrintLast.i64_w, PrintLast.i32_w]; rfl)
  refine PrintLast.pure_ (i := 6) (N := (some 130)) (v := undef) (a' := ?_) #[true, true, true, true, true, true, true, false, false, false, false, false, false, false, false] rfl rfl (by kernel_rfl) (fun _ _ _ h => h) (Or.inr ⟨by rfl, rfl⟩) ?_ ?_
  rotate_left
  · (simp only [Act.put, List.setIfInBounds_toArray, List.set_cons_zero, List.set_cons_succ, PrintLast.i64_w, PrintLast.i32_w]; rfl)
  refine PrintLast.pure_ (i := 7) (N := (some 131)) (v := undef) (a' := ?_) #[true, true, true, true, true, true, true, true, false, false, false, false, false, false, false] rfl rfl (by kernel_rfl) (fun _ _ _ h => h) (Or.inr ⟨by rfl, rfl⟩) ?_ ?_
  rotate_left
  · (simp only [Act.put, List.setIfInBounds_toArray, List.set_cons_zero, List.set_cons_succ, PrintLast.i64_w, PrintLast.i32_w]; rfl)
  refine PrintLast.pure_ (i := 8) (N := (some 132)) (v := undef) (a' := ?_) #[true, true, true, true, true, true, true, true, true, false, false, false, false, false, false] rfl rfl (by kernel_rfl) (fun _ _ _ h => h) (Or.inr ⟨by rfl, rfl⟩) ?_ ?_
  rotate_left
  · (simp only [Act.put, List.setIfInBounds_toArray, List.set_cons_zero, List.set_cons_succ, PrintLast.i64_w, PrintLast.i32_w]; rfl)
  refine PrintLast.pure_ (i := 9) (N := (some 133)) (v := undef) (a' := ?_) #[true, true, true, true, true, true, true, true, true, true, false, false, false, false, false] rfl rfl (by kernel_rfl) (fun _ _ _ h => h) (Or.inr ⟨by rfl, rfl⟩) ?_ ?_
  rotate_left
  · (simp only [Act.put, List.setIfInBounds_toArray, List.set_cons_zero, List.set_cons_succ, PrintLast.i64_w, PrintLast.i32_w]; rfl)
  refine PrintLast.pure_ (i := 10) (N := (some 134)) (v := undef) (a' := ?_) #[true, true, true, true, true, true, true, true, true, true, true, false, false, false, false] rfl rfl (by kernel_rfl) (fun _ _ _ h => h) (Or.inr ⟨by rfl, rfl⟩) ?_ ?_
  rotate_left
  · (simp only [Act.put, List.setIfInBounds_toArray, List.set_cons_zero, List.set_cons_succ, PrintLast.i64_w, PrintLast.i32_w]; rfl)
  refine PrintLast.pure_ (i := 11) (N := (some 135)) (v := undef) (a' := ?_) #[true, true, true, true, true, true, true, true, true, true, true, true, false, false, false] rfl rfl (by kernel_rfl) (fun _ _ _ h => h) (Or.inr ⟨by rfl, rfl⟩) ?_ ?_
  rotate_left
  · (simp only [Act.put, List.setIfInBounds_toArray, List.set_cons_zero, List.set_cons_succ, PrintLast.i64_w, PrintLast.i32_w]; rfl)
  refine PrintLast.pure_ (i := 12) (N := (some 136)) (v := undef) (a' := ?_) #[true, true, true, true, true, true, true, true, true, true, true, true, true, false, false] rfl rfl (by kernel_rfl) (fun _ _ _ h => h) (Or.inr ⟨by rfl, rfl⟩) ?_ ?_
  rotate_left
  · (simp only [Act.put, List.setIfInBounds_toArray, List.set_cons_zero, List.set_cons_succ, PrintLast.i64_w, PrintLast.i32_w]; rfl)
  refine PrintLast.pure_ (i := 13) (N := (some 137)) (v := undef) (a' := ?_) #[true, true, true, true, true, true, true, true, true, true, true, true, true, true, false] rfl rfl (by kernel_rfl) (fun _ _ _ h => h) (Or.inr ⟨by rfl, rfl⟩) ?_ ?_
  rotate_left
  · (simp only [Act.put, List.setIfInBounds_toArray, List.set_cons_zero, List.set_cons_succ, PrintLast.i64_w, PrintLast.i32_w]; rfl)
  refine PrintLast.pure_ (i := 14) (N := (some 138)) (v := ?_) (a' := ?_) #[true, true, true, true, true, true, true, true, true, true, true, true, true, true, true] rfl rfl (by kernel_rfl) (fun _ _ _ h => h) (Or.inl ⟨by rfl, ?_⟩) ?_ ?_
  rotate_left
  · (intro w'; go_simp; with_reducible rfl)
  rotate_left
  · (simp only [Act.put, List.setIfInBounds_toArray, List.set_cons_zero, List.set_cons_succ, PrintLast.i64_w, PrintLast.i32_w]; rfl)
  refine PrintLast.done_ (by kernel_rfl) ?_
  haveI : Bel w w9 := Bel.step (w := w) (Bel.out : Below W.heap.size W w9)
  have RR := block_at (W := w9) HBR.out
  have r0 := block_cell RR 0 rfl
  have r1 := block_cell RR 1 rfl
  have r2 := block_cell RR 2 rfl
  have r3 := block_cell RR 3 rfl
  have f0 := block_frozen RR 0
  have f1 := block_frozen RR 1
  have f2 := block_frozen RR 2
  have f3 := block_frozen RR 3
  have OO := block_at (W := w9) HB6.out
  have o0 := block_cell OO 0 rfl
  have o1 := block_cell OO 1 rfl
  have o2 := block_cell OO 2 rfl
  have o3 := block_cell OO 3 rfl
  have HF := Lib.hid ((((HD1.out.kept (w1 := w9) (fun k _ hk => (Bel.out : Below W.heap.size W w9).block k (by have := HFM.out; omega))).weak.set4 RR (by decide) (by decide) (.slice B0 d.now.st.length e0) (.int .i64 d.now.step) (.slice B2 d.now.word.length e2) (.slice B3 d.past.length e3)).lo (lo' := w.heap.size) (by omega)).hi (hi' := (set4 w9 (w.heap.size + 2) (.slice B0 d.now.st.length e0) (.int .i64 d.now.step) (.slice B2 d.now.word.length e2) (.slice B3 d.past.length e3)).heap.size) (by rw [size_set4]; have := HFM.out; have := (Bel.out : Below W.heap.size W w9).size; omega))
  have HB : Hid (Below w.heap.size w (set4 w9 (w.heap.size + 2) (.slice B0 d.now.st.length e0) (.int .i64 d.now.step) (.slice B2 d.now.word.length e2) (.slice B3 d.past.length e3))) := below_set4 Bel.out (by omega) _ _ _ _
  clear RR OO x0 x1 x2 n0 n1 n2
  go_wp2
  exact bodyPost_ret (v := .tuple #[.agg #[.slice B0 d.now.st.length e0, .int .i64 d.now.step, .slice B2 d.now.word.length e2, .slice B3 d.past.length e3], .bool false]) (by simp [results, Tryd.results8, go_sem, r0, r1, r2, r3]) rfl ⟨_, by rw [HD.out.2], ⟨_, by rw [HD.out.1]; exact HF.out⟩, HB.out⟩

set_option maxHeartbeats 2000000 in
set_option maxRecDepth 1000000 in
theorem tail_same (d : Dk) (a : Dd) (q : Pl) (w wa W : World) (A0 A2 A3 : Option Addr) (c0 c2 c3 : Nat) (i0 : Ints w (.slice A0 d.now.st.length c0) d.now.st) (i2 : Ints w (.slice A2 d.now.word.length c2) d.now.word) (hs1 : d.now.st.length ≤ 3) (hs2 : d.now.word.length ≤ 6) (hs3 : d.past.length ≤ 8)
    (HSM : Hid (∀ j, j < d.past.length → (d.past.getD j z0).st.length ≤ 3 ∧ (d.past.getD j z0).word.length ≤ 6)) (HEN : Hid (Env w)) (ba : Bel w wa) (baW : Bel wa W) (hza : w.heap.size + 2 < wa.heap.size) (g6 g7 m lo hi : Nat) (f1 f2 : Nat → Nat)
    (B0 B2 B3 C0 C2 C3 : Option Addr) (e0 e2 e3 k0 k2 k3 : Nat)
    (HBX : Hid (W.heap[w.heap.size]? = some (.cells #[.slice A0 d.now.st.length c0, .int .i64 d.now.step, .slice A2 d.now.word.length c2, .slice A3 d.past.length c3] 28 (0, 0))))
    (HBR : Hid (W.heap[w.heap.size + 2]? = some (.cells #[.slice none 0 0, .int .i64 0, .slice none 0 0, .slice none 0 0] 28 (0, 0))))
    (HB6 : Hid (W.heap[g6]? = some (.cells #[.slice B0 d.now.st.length e0, .int .i64 d.now.step, .slice B2 d.now.word.length e2, .slice B3 d.past.length e3] 28 (0, 0))))
    (HB7 : Hid (W.heap[g7]? = some (.cells #[.slice C0 q.st.length k0, .int .i64 q.step, .slice C2 q.word.length k2, .slice C3 d.past.length k3] 28 (0, 0))))
    (HD1 : Hid (DkO W wa.heap.size m f1 (.agg #[.slice B0 d.now.st.length e0, .int .i64 d.now.step, .slice B2 d.now.word.length e2, .slice B3 d.past.length e3]) d)) (HFM : Hid (m ≤ W.heap.size))
    (HS : Hid (OwnI W 0 (.slice C0 q.st.length k0) q.st)) (HV : Hid (OwnI W 0 (.slice C2 q.word.length k2) q.word)) (HPs : Hid (OwnPs W lo hi f2 (.slice C3 d.past.length k3) d.past)) (HLO : Hid (wa.heap.size ≤ lo)) (HHI : Hid (hi ≤ W.heap.size))
    (HNE : Hid (g6 ≠ g7)) (HL7 : Hid (wa.heap.size ≤ g7))
    (y0 y1 y3 y5 y9 y10 y11 y12 y13 y14 y15 y16 y17 y18 y19 y20 y21 y22 y23 y24 y25 y26 y27 y28 y29 y30 y31 y32 y33 y34 y35 y36 y37 y38 y39 y40 y41 y42 y43 y44 y45 y46 y47 y48 y49 y50 y51 y52 y53 y54 y55 y56 y57 y58 y59 y60 y61 y62 y63 y64 y65 y66 y67 y68 y69 y70 y71 y72 y73 y74 y75 y76 y77 y78 y79 y80 y81 y82 y83 y84 y85 y86 y87 y88 y89 y90 y91 y92 y93 y94 y95 y96 y97 y98 y99 y100 y101 y102 y103 y104 y105 y106 y107 y108 y109 y110 y111 y112 y113 y114 y115 y116 y117 y118 y119 y120 y121 y122 y123 y124 y125 y126 y127 y128 y129 y130 y131 y132 y133 y134 y135 y136 y137 y138 y139 y140 y141 y142 y143 y144 y145 y146 y147 y148 y149 y150 y151 y152 y153 y154 y155 y156 y157 : Value) (K1 K2 : Act → World → Prop)
    (hqo : placeOk q = true) (HQT : Hid (placeT q = placeT d.now)) (HD : Hid (doDesk d a = d ∧ doOk d a = false))
    (h1 : ∀ a' w', Code.wp Tryd.prog c27 (Exit.then K2 (bodyPost Tryd.prog Tryd.f8 fun e w' => ∃ v', e = .returned (.tuple #[v', .bool (doOk d a)]) ∧ (∃ f, DkW w' w.heap.size w'.heap.size f v' (doDesk d a)) ∧ Below w.heap.size w w')) a' w' → K1 a' w')
    (h2 : ∀ a' w', Code.wp Tryd.prog d27 (bodyPost Tryd.prog Tryd.f8 fun e w' => ∃ v', e = .returned (.tuple #[v', .bool (doOk d a)]) ∧ (∃ f, DkW w' w.heap.size w'.heap.size f v' (doDesk d a)) ∧ Below w.heap.size w w') a' w' → K2 a' w') :
    Code.wp Tryd.prog r27 (Exit.then K1 (Exit.then K2 (bodyPost Tryd.prog Tryd.f8 fun e w' => ∃ v', e = .returned (.tuple #[v', .bool (doOk d a)]) ∧ (∃ f, DkW w' w.heap.size w'.heap.size f v' (doDesk d a)) ∧ Below w.heap.size w w'))) ⟨#[y0, y1, .pointer (some ⟨w.heap.size, 0, none⟩), y3, .pointer (some ⟨w.heap.size + 1 + 1, 0, none⟩), y5, .pointer (some ⟨g6, 0, none⟩), .pointer (some ⟨g7, 0, none⟩), .pointer (some ⟨g7, 0, none⟩), y9, y10, y11, y12, y13, y14, y15, y16, y17, y18, y19, y20, y21, y22, y23, y24, y25, y26, y27, y28, y29, y30, y31, y32, y33, y34, y35, y36, y37, y38, y39, y40, y41, y42, y43, y44, y45, y46, y47, y48, y49, y50, y51, y52, y53, y54, y55, y56, y57, y58, y59, y60, y61, y62, y63, y64, y65, y66, y67, y68, y69, y70, y71, y72, y73, y74, y75, y76, y77, y78, y79, y80, y81, y82, y83, y84, y85, y86, y87, y88, y89, y90, y91, y92, y93, y94, y95, y96, y97, y98, y99, y100, y101, y102, y103, y104, y105, y106, y107, y108, y109, y110, y111, y112, y113, y114, y115, y116, y117, y118, y119, y120, y121, y122, y123, y124, y125, y126, y127, y128, y129, y130, y131, y132, y133, y134, y135, y136, y137, y138, y139, y140, y141, y142, y143, y144, y145, y146, y147, y148, y149, y150, y151, y152, y153, y154, y155, y156, y157], []⟩ W := by
  conv => arg 2; whnf
  conv at h1 => enter [a', w', 1]; arg 2; whnf
  conv at h2 => enter [a', w', 1]; arg 2; whnf
  haveI bwW : Bel w W := Bel.step (w := w) baW.out
  have n0 := block_cell HB7.out 0 rfl
  have n1 := block_cell HB7.out 1 rfl
  have n2 := block_cell HB7.out 2 rfl
  have x0 := block_cell HBX.out 0 rfl
  have x1 := block_cell HBX.out 1 rfl
  have x2 := block_cell HBX.out 2 rfl
  have HPO := Lib.hid (okI_is hqo)
  clear hqo
  go_region_held3 (fun w' => w'.cell? ⟨w.heap.size, 0, none⟩ = some (.slice A0 d.now.st.length c0) ∧ w'.cell? ⟨w.heap.size, 1, none⟩ = some (.int .i64 d.now.step) ∧ w'.cell? ⟨w.heap.size, 2, none⟩ = some (.slice A2 d.now.word.length c2) ∧ w'.cell? ⟨g7, 0, none⟩ = some (.slice C0 q.st.length k0) ∧ w'.cell? ⟨g7, 1, none⟩ = some (.int .i64 q.step) ∧ w'.cell? ⟨g7, 2, none⟩ = some (.slice C2 q.word.length k2))
    (exact ⟨cell_at x0, cell_at x1, cell_at x2, cell_at n0, cell_at n1, cell_at n2⟩)
    (first
      | (go_at_call 37; refine (HPO.out _ _ (PlI.mk (OwnI.ints HS.out).at (OwnI.ints HV.out).at)).mono ?_; rintro e w9 ⟨rfl, hb9⟩; haveI : Bel W w9 := Bel.step (w := W) hb9; haveI : Bel w w9 := Bel.step (w := w) hb9)
      | (go_at_call_of 38 (Value.agg #[.slice C0 q.st.length k0, .int .i64 q.step, .slice C2 q.word.length k2]); refine (i_PlaceText _ q _ (PlI.mk (OwnI.ints HS.out).at (OwnI.ints HV.out).at) HEN.out.at).mono ?_; rintro e wb ⟨rfl, hbb⟩; haveI : Bel W wb := Bel.step (w := W) hbb; haveI : Bel w wb := Bel.step (w := w) hbb)
      | (go_at_call_of 38 (Value.agg #[.slice A0 d.now.st.length c0, .int .i64 d.now.step, .slice A2 d.now.word.length c2]); refine (i_PlaceText _ d.now _ (PlI.mk i0.at i2.at) HEN.out.at).mono ?_; rintro e wc ⟨rfl, hbc⟩; haveI : Bel W wc := Bel.step (w := W) hbc; haveI : Bel w wc := Bel.step (w := w) hbc))
  rw [show (placeT q == placeT d.now) = true from by simp [HQT.out]]
  haveI : Bel w wc := Bel.step (w := w) (Bel.out : Below W.heap.size W wc)
  have RR := block_at (W := wc) HBR.out
  have r0 := block_cell RR 0 rfl
  have r1 := block_cell RR 1 rfl
  have r2 := block_cell RR 2 rfl
  have r3 := block_cell RR 3 rfl
  have f0 := block_frozen RR 0
  have f1 := block_frozen RR 1
  have f2 := block_frozen RR 2
  have f3 := block_frozen RR 3
  have OO := block_at (W := wc) HB6.out
  have o0 := block_cell OO 0 rfl
  have o1 := block_cell OO 1 rfl
  have o2 := block_cell OO 2 rfl
  have o3 := block_cell OO 3 rfl
  have HF := Lib.hid ((((HD1.out.kept (w1 := wc) (fun k _ hk => (Bel.out : Below W.heap.size W wc).block k (by have := HFM.out; omega))).weak.set4 RR (by decide) (by decide) (.slice B0 d.now.st.length e0) (.int .i64 d.now.step) (.slice B2 d.now.word.length e2) (.slice B3 d.past.length e3)).lo (lo' := w.heap.size) (by omega)).hi (hi' := (set4 wc (w.heap.size + 2) (.slice B0 d.now.st.length e0) (.int .i64 d.now.step) (.slice B2 d.now.word.length e2) (.slice B3 d.past.length e3)).heap.size) (by rw [size_set4]; have := HFM.out; have := (Bel.out : Below W.heap.size W wc).size; omega))
  have HB : Hid (Below w.heap.size w (set4 wc (w.heap.size + 2) (.slice B0 d.now.st.length e0) (.int .i64 d.now.step) (.slice B2 d.now.word.length e2) (.slice B3 d.past.length e3))) := below_set4 Bel.out (by omega) _ _ _ _
  clear RR OO x0 x1 x2 n0 n1 n2
  go_wp2
  exact bodyPost_ret (v := .tuple #[.agg #[.slice B0 d.now.st.length e0, .int .i64 d.now.step, .slice B2 d.now.word.length e2, .slice B3 d.past.length e3], .bool false]) (by simp [results, Tryd.results8, go_sem, r0, r1, r2, r3]) rfl ⟨_, by rw [HD.out.2], ⟨_, by rw [HD.out.1]; exact HF.out⟩, HB.out⟩

end Go.Proofs.YtpfncjaclgcbnaaDoor.Ub
