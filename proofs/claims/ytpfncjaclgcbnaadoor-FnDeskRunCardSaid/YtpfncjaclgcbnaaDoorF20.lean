/- The program's DeskDo: what follows the switch, when it is done. -/
import Derived.Test.YtpfncjaclgcbnaaDoorF19
set_option linter.unusedVariables false
set_option linter.unusedSimpArgs false
namespace Go.Proofs.YtpfncjaclgcbnaaDoor.Ub
open Go.RowKit Go.Proofs.YtpfncjaclgcbnaaDoorW

theorem getD_small {ps : List Pl} (h : ∀ x ∈ ps, x.st.length ≤ 1000 ∧ x.word.length ≤ 1000) : ∀ j, j < ps.length → (ps.getD j z0).st.length ≤ 1000 ∧ (ps.getD j z0).word.length ≤ 1000 := fun j hj => by
  have e : ps.getD j z0 = ps[j] := by simp [List.getD, hj]
  rw [e]; exact h _ (List.getElem_mem hj)
theorem push_small {ps : List Pl} {p : Pl} (h : ∀ j, j < ps.length → (ps.getD j z0).st.length ≤ 3 ∧ (ps.getD j z0).word.length ≤ 6) (h1 : p.st.length ≤ 3) (h2 : p.word.length ≤ 6) (h3 : ps.length ≤ 8) :
    (pushPast ps p).length ≤ 1000 ∧ ∀ j, j < (pushPast ps p).length → ((pushPast ps p).getD j z0).st.length ≤ 1000 ∧ ((pushPast ps p).getD j z0).word.length ≤ 1000 := by
  have hin : ∀ x ∈ ps ++ [p], x.st.length ≤ 1000 ∧ x.word.length ≤ 1000 := fun x hx => by
    simp only [List.mem_append, List.mem_singleton] at hx
    rcases hx with hx | rfl
    · obtain ⟨j, hj, e⟩ := List.getElem_of_mem hx
      have := h j hj
      have e2 : ps.getD j z0 = x := by simp [List.getD, hj, e]
      rw [e2] at this; omega
    · omega
  by_cases hl : 8 < ps.length + 1
  · rw [pushPast_long hl]
    exact ⟨by simp; omega, getD_small fun x hx => hin x (List.mem_of_mem_drop hx)⟩
  · rw [pushPast_short hl]
    exact ⟨by simp; omega, getD_small hin⟩



set_option maxHeartbeats 4000000 in
set_option maxRecDepth 1000000 in
theorem tail_took (d : Dk) (a : Dd) (q : Pl) (w wa W : World) (A0 A2 A3 : Option Addr) (c0 c2 c3 : Nat) (i0 : Ints w (.slice A0 d.now.st.length c0) d.now.st) (i2 : Ints w (.slice A2 d.now.word.length c2) d.now.word) (hs1 : d.now.st.length ≤ 3) (hs2 : d.now.word.length ≤ 6) (hs3 : d.past.length ≤ 8)
    (HSM : Hid (∀ j, j < d.past.length → (d.past.getD j z0).st.length ≤ 3 ∧ (d.past.getD j z0).word.length ≤ 6)) (HEN : Hid (Env w)) (ba : Bel w wa) (baW : Bel wa W) (hza : w.heap.size + 2 < wa.heap.size) (g6 g7 m lo hi : Nat) (f1 f2 : Nat → Nat)
    (B0 B2 B3 C0 C2 C3 : Option Addr) (e0 e2 e3 k0 k2 k3 : Nat)
    (HBX : Hid (W.heap[w.heap.size]? = some (.cells #[.slice A0 d.now.st.length c0, .int .i64 d.now.step, .slice A2 d.now.word.length c2, .slice A3 d.past.length c3] 28 (0, 0))))
    (HBR : Hid (W.heap[w.heap.size + 2]? = some (.cells #[.slice none 0 0, .int .i64 0, .slice none 0 0, .slice none 0 0] 28 (0, 0))))
    (HB6 : Hid (W.heap[g6]? = some (.cells #[.slice B0 d.now.st.length e0, .int .i64 d.now.step, .slice B2 d.now.word.length e2, .slice B3 d.past.length e3] 28 (0, 0))))
    (HB7 : Hid (W.heap[g7]? = some (.cells #[.slice C0 q.st.length k0, .int .i64 q.step, .slice C2 q.word.length k2, .slice C3 d.past.length k3] 28 (0, 0))))
    (HD1 : Hid (DkO W wa.heap.size m f1 (.agg #[.slice B0 d.now.st.length e0, .int .i64 d.now.step, .slice B2 d.now.word.length e2, .slice B3 d.past.length e3]) d)) (HFM : Hid (m ≤ W.heap.size))
    (HS : Hid (OwnI W 0 (.slice C0 q.st.length k0) q.st)) (HV : Hid (OwnI W 0 (.slice C2 q.word.length k2) q.word)) (HPs : Hid (OwnPs W lo hi f2 (.slice C3 d.past.length k3) d.past)) (HLO : Hid (wa.heap.size ≤ lo)) (HHI : Hid (hi ≤ W.heap.size))
    (HNE : Hid (g6 ≠ g7)) (HL7 : Hid (wa.heap.size ≤ g7))
    (y0 y1 y3 y5 y9 y10 y11 y12 y13 y14 y15 y16 y17 y18 y19 y20 y21 y22 y23 y24 y25 y26 y27 y28 y29 y30 y31 y32 y33 y34 y35 y36 y37 y38 y39 y40 y41 y42 y43 y44 y45 y46 y47 y48 y49 y50 y51 y52 y53 y54 y55 y56 y57 y58 y59 y60 y61 y62 y63 y64 y65 y66 y67 y68 y69 y70 y71 y72 y73 y74 y75 y76 y77 y78 y79 y80 y81 y82 y83 y84 y85 y86 y87 y88 y89 y90 y91 y92 y93 y94 y95 y96 y97 y98 y99 y100 y101 y102 y103 y104 y105 y106 y107 y108 y109 y110 y111 y112 y113 y114 y115 y116 y117 y118 y119 y120 y121 y122 y123 y124 y125 y126 y127 y128 y129 y130 y131 y132 y133 y134 y135 y136 y137 y138 y139 y140 y141 y142 y143 y144 y145 y146 y147 y148 y149 y150 y151 y152 y153 y154 y155 y156 y157 : Value) (K1 K2 : Act → World → Prop)
    (hqo : placeOk q = true) (HQT : Hid (¬ placeT q = placeT d.now)) (HD : Hid (doDesk d a = ⟨q, pushPast d.past d.now⟩ ∧ doOk d a = true))
    (h1 : ∀ a' w', Code.wp Tryd.prog c27 (Exit.then K2 (bodyPost Tryd.prog Tryd.f8 fun e w' => ∃ v', e = .returned (.tuple #[v', .bool (doOk d a)]) ∧ (∃ f, DkW w' w.heap.size w'.heap.size f v' (doDesk d a)) ∧ Below w.heap.size w w')) a' w' → K1 a' w')
    (h2 : ∀ a' w', Code.wp Tryd.prog d27 (bodyPost Tryd.prog Tryd.f8 fun e w' => ∃ v', e = .returned (.tuple #[v', .bool (doOk d a)]) ∧ (∃ f, DkW w' w.heap.size w'.heap.size f v' (doDesk d a)) ∧ Below w.heap.size w w') a' w' → K2 a' w') :
    Code.wp Tryd.prog r27 (Exit.then K1 (Exit.then K2 (bodyPost Tryd.prog Tryd.f8 fun e w' => ∃ v', e = .returned (.tuple #[v', .bool (doOk d a)]) ∧ (∃ f, DkW w' w.heap.size w'.heap.size f v' (doDesk d a)) ∧ Below w.heap.size w w'))) ⟨#[y0, y1, .pointer (some ⟨w.heap.size, 0, none⟩), y3, .pointer (some ⟨w.heap.size + 1 + 1, 0, none⟩), y5, .pointer (some ⟨g6, 0, none⟩), .pointer (some ⟨g7, 0, none⟩), .pointer (some ⟨g7, 0, none⟩), y9, y10, y11, y12, y13, y14, y15, y16, y17, y18, y19, y20, y21, y22, y23, y24, y25, y26, y27, y28, y29, y30, y31, y32, y33, y34, y35, y36, y37, y38, y39, y40, y41, y42, y43, y44, y45, y46, y47, y48, y49, y50, y51, y52, y53, y54, y55, y56, y57, y58, y59, y60, y61, y62, y63, y64, y65, y66, y67, y68, y69, y70, y71, y72, y73, y74, y75, y76, y77, y78, y79, y80, y81, y82, y83, y84, y85, y86, y87, y88, y89, y90, y91, y92, y93, y94, y95, y96, y97, y98, y99, y100, y101, y102, y103, y104, y105, y106, y107, y108, y109, y110, y111, y112, y113, y114, y115, y116, y117, y118, y119, y120, y121, y122, y123, y124, y125, y126, y127, y128, y129, y130, y131, y132, y133, y134, y135, y136, y137, y138, y139, y140, y141, y142, y143, y144, y145, y146, y147, y148, y149, y150, y151, y152, y153, y154, y155, y156, y157], []⟩ W := by
  conv => arg 2; whnf
  conv at h1 => enter [a', w', 1]; arg 2; whnf
  conv at h2 => enter [a', w', 1]; arg 2; whnf
  haveI bwW : Bel w W := Bel.step (w := w) baW.out
  have n0 := block_cell HB7.out 0 rfl
  have n1 := block_cell HB7.out 1 rfl
  have n2 := block_cell HB7.out 2 rfl
  have x0 := block_cell HBX.out 0 rfl
  have x1 := block_cell HBX.out 1 rfl
  have x2 := block_cell HBX.out 2 rfl
  have HPO := Lib.hid (okI_is hqo)
  obtain ⟨hq1, hq2⟩ := place_small hqo
  have HPS0 := Lib.hid (push_small HSM.out hs1 hs2 hs3)
  clear hqo
  go_region_held3 (fun w' => w'.cell? ⟨w.heap.size, 0, none⟩ = some (.slice A0 d.now.st.length c0) ∧ w'.cell? ⟨w.heap.size, 1, none⟩ = some (.int .i64 d.now.step) ∧ w'.cell? ⟨w.heap.size, 2, none⟩ = some (.slice A2 d.now.word.length c2) ∧ w'.cell? ⟨g7, 0, none⟩ = some (.slice C0 q.st.length k0) ∧ w'.cell? ⟨g7, 1, none⟩ = some (.int .i64 q.step) ∧ w'.cell? ⟨g7, 2, none⟩ = some (.slice C2 q.word.length k2))
    (exact ⟨cell_at x0, cell_at x1, cell_at x2, cell_at n0, cell_at n1, cell_at n2⟩)
    (first
      | (go_at_call 37; refine (HPO.out _ _ (PlI.mk (OwnI.ints HS.out).at (OwnI.ints HV.out).at)).mono ?_; rintro e w9 ⟨rfl, hb9⟩; haveI : Bel W w9 := Bel.step (w := W) hb9; haveI : Bel w w9 := Bel.step (w := w) hb9)
      | (go_at_call_of 38 (Value.agg #[.slice C0 q.st.length k0, .int .i64 q.step, .slice C2 q.word.length k2]); refine (i_PlaceText _ q _ (PlI.mk (OwnI.ints HS.out).at (OwnI.ints HV.out).at) HEN.out.at).mono ?_; rintro e wb ⟨rfl, hbb⟩; haveI : Bel W wb := Bel.step (w := W) hbb; haveI : Bel w wb := Bel.step (w := w) hbb)
      | (go_at_call_of 38 (Value.agg #[.slice A0 d.now.st.length c0, .int .i64 d.now.step, .slice A2 d.now.word.length c2]); refine (i_PlaceText _ d.now _ (PlI.mk i0.at i2.at) HEN.out.at).mono ?_; rintro e wc ⟨rfl, hbc⟩; haveI : Bel W wc := Bel.step (w := W) hbc; haveI : Bel w wc := Bel.step (w := w) hbc))
  rw [show (placeT q == placeT d.now) = false from by simp [HQT.out]]
  have hz9 : W.heap.size ≤ wc.heap.size := (Bel.out : Below W.heap.size W wc).size
  have hz8 : wa.heap.size ≤ W.heap.size := baW.out.size
  have HZ9 := Lib.hid hz9; have HZ8 := Lib.hid hz8
  clear x0 x1 x2 n0 n1 n2 hz9 hz8
  have HOO := Lib.hid (block_at (W := wc) HB7.out)
  have HXX := Lib.hid (block_at (W := wc) HBX.out)
  have HRR := Lib.hid (block_at (W := wc) HBR.out)
  have n3 := block_cell HOO.out 3 rfl
  have x0 := block_cell HXX.out 0 rfl
  have x1 := block_cell HXX.out 1 rfl
  have x2 := block_cell HXX.out 2 rfl
  go_upto_region 29 with (fail)
  refine PrintLast.start_ (n := 9) (S := fun w' => w'.cell? ⟨g7, 3, none⟩ = some (.slice C3 d.past.length k3) ∧ w'.cell? ⟨w.heap.size, 0, none⟩ = some (.slice A0 d.now.st.length c0) ∧ w'.cell? ⟨w.heap.size, 1, none⟩ = some (.int .i64 d.now.step) ∧ w'.cell? ⟨w.heap.size, 2, none⟩ = some (.slice A2 d.now.word.length c2)) (ds := [8]) #[false, false, false, false, false, false, false, false, false] (by kernel_rfl) rfl rfl ⟨cell_at n3, cell_at x0, cell_at x1, cell_at x2⟩ (fun hHeld => ?_)
  refine PrintLast.pure_ (i := 0) (N := (some 140)) (v := ?_) (a' := ?_) #[true, false, false, false, false, false, false, false, false] rfl rfl (by kernel_rfl) (fun _ _ _ h => h) (Or.inl ⟨by rfl, ?_⟩) ?_ ?_
  rotate_left
  · (intro w'; go_simp; with_reducible rfl)
  rotate_left
  · (simp only [Act.put, List.setIfInBounds_toArray, List.set_cons_zero, List.set_cons_succ, PrintLast.i64_w, PrintLast.i32_w]; rfl)
  refine PrintLast.pure_ (i := 2) (N := (some 142)) (v := ?_) (a' := ?_) #[true, false, true, false, false, false, false, false, false] rfl rfl (by kernel_rfl) (fun _ _ _ h => h) (Or.inl ⟨by rfl, ?_⟩) ?_ ?_
  rotate_left
  · (intro w'; go_simp; with_reducible rfl)
  rotate_left
  · (simp only [Act.put, List.setIfInBounds_toArray, List.set_cons_zero, List.set_cons_succ, PrintLast.i64_w, PrintLast.i32_w]; rfl)
  refine PrintLast.take_ (i := 1) (N := (some 141)) (v := ?_) (a' := ?_) #[true, true, true, false, false, false, false, false, false] rfl rfl (by kernel_rfl) (fun _ _ _ h => h) (Or.inl ⟨by rfl, ?_⟩) hHeld ?_ ?_
  rotate_left
  · (rintro w' ⟨s0, s1, s2, s3⟩; go_simp; with_reducible rfl)
  rotate_left
  · (simp only [Act.put, List.setIfInBounds_toArray, List.set_cons_zero, List.set_cons_succ, PrintLast.i64_w, PrintLast.i32_w]; rfl)
  refine PrintLast.take_ (i := 3) (N := (some 143)) (v := ?_) (a' := ?_) #[true, true, true, true, false, false, false, false, false] rfl rfl (by kernel_rfl) (fun _ _ _ h => h) (Or.inl ⟨by rfl, ?_⟩) hHeld ?_ ?_
  rotate_left
  · (rintro w' ⟨s0, s1, s2, s3⟩; go_simp; with_reducible rfl)
  rotate_left
  · (simp only [Act.put, List.setIfInBounds_toArray, List.set_cons_zero, List.set_cons_succ, PrintLast.i64_w, PrintLast.i32_w]; rfl)
  refine PrintLast.one_ (i := 4) (N := (some 144)) #[true, true, true, true, true, false, false, false, false] rfl rfl (by kernel_rfl) (by decide) (fun K hK => ?_)
  refine PrintLast.goes_ Tryd.func39 (by kernel_rfl) rfl #[.agg #[.slice A0 d.now.st.length c0, .int .i64 d.now.step, .slice A2 d.now.word.length c2]] (by rfl) rfl rfl (by (try simp only [List.map_toArray, List.map_cons, List.map_nil]); first | done | rfl) ?_
  refine (i_copyPlace _ d.now _ (PlI.mk i0.at i2.at) (by omega) (by omega)).mono ?_
  rintro e wd ⟨vd, rfl, ⟨p0', p2', rfl, hP0, hP2, hap⟩, hbd⟩
  obtain ⟨P0, a0, rfl⟩ := hP0.ints.form
  obtain ⟨P2, a2, rfl⟩ := hP2.ints.form
  haveI bd : Bel wc wd := Bel.step (w := wc) hbd
  haveI bWd : Bel W wd := Bel.step (w := W) bd.out
  haveI bwd : Bel w wd := Bel.step (w := w) bWd.out
  refine ⟨_, rfl, ?_⟩
  refine hK.out _ _ ⟨cell_at n3, cell_at x0, cell_at x1, cell_at x2⟩ (fun hHeld => ?_)
  clear hK K
  refine PrintLast.norm_ (a' := ?_) ?_ ?_
  rotate_left
  · (show Act.put _ (some 144) _ = _; simp only [Act.put, List.setIfInBounds_toArray, List.set_cons_zero, List.set_cons_succ, PrintLast.i64_w, PrintLast.i32_w]; rfl)
  refine PrintLast.one_ (i := 5) (N := (some 145)) #[true, true, true, true, true, true, false, false, false] rfl rfl (by kernel_rfl) (by decide) (fun K hK => ?_)
  refine PrintLast.value_ (w1 := ?_) (v := ?_) (by rfl) rfl ?_ ?_
  rotate_left 2
  · (go_simp; constructor <;> rfl)
  refine hK.out _ _ ⟨cell_at n3, cell_at x0, cell_at x1, cell_at x2⟩ (fun hHeld => ?_)
  clear hK K
  refine PrintLast.norm_ (a' := ?_) ?_ ?_
  rotate_left
  · (show Act.put _ (some 145) _ = _; simp only [Act.put, List.setIfInBounds_toArray, List.set_cons_zero, List.set_cons_succ, PrintLast.i64_w, PrintLast.i32_w]; rfl)
  refine PrintLast.one_ (i := 6) (N := (some 146)) #[true, true, true, true, true, true, true, false, false] rfl rfl (by kernel_rfl) (by decide) (fun K hK => ?_)
  obtain ⟨es, hes1, hes2, hes3⟩ := HPs.out
  have hal : Bel wd (wd.alloc (.cells #[.slice P0 d.now.st.length a0, .int .i64 d.now.step, .slice P2 d.now.word.length a2] 25)) := Bel.alloc
  have hWal : Bel W (wd.alloc (.cells #[.slice P0 d.now.st.length a0, .int .i64 d.now.step, .slice P2 d.now.word.length a2] 25)) := Bel.step (w := W) hal.out
  have hown := own_below hes1 hWal.out
  have hzd : wc.heap.size ≤ wd.heap.size := bd.out.size
  have hlo2 : lo ≤ W.heap.size ∨ d.past.length = 0 := by
    rcases hes1.2 with ⟨_, e⟩ | ⟨g, _, _, _, hg, hh, _⟩
    · exact .inr e
    · have := (Array.getElem?_eq_some_iff.1 hh).1; exact .inl (by omega)
  refine app_step eP (by rfl) _ _ (by rfl) wa.heap.size (.slice C3 d.past.length k3) d.past.length es (by rfl) (own_lo hown HLO.out) wd.heap.size 1 1 #[.slice P0 d.now.st.length a0, .int .i64 d.now.step, .slice P2 d.now.word.length a2] (by rfl) (heap_alloc_new wd _) (by rfl) (by simp [Value.oneCell']) (by omega) (by omega) (by omega) (by have := HZ9.out; have := HZ8.out; simp; omega) ?_
  intro g cap w3 hown3 hgr hat
  have BO3 := block_other (hWal.out.block _ (Array.getElem?_eq_some_iff.1 HB7.out).1 |>.trans HB7.out) hown hgr (by decide)
  have BR3 := block_other (hWal.out.block _ (Array.getElem?_eq_some_iff.1 HBR.out).1 |>.trans HBR.out) hown hgr (by decide)
  have BX3 := block_other (hWal.out.block _ (Array.getElem?_eq_some_iff.1 HBX.out).1 |>.trans HBX.out) hown hgr (by decide)
  have HPS := HasPs.push (p := d.now) (own_lo hown HLO.out) (fun j hj => by
      obtain ⟨z0', z2', k0', k1', k2', k3', k4'⟩ := hes3 j hj
      exact ⟨z0', z2', k0', k1', k2', (k3'.kept (fun i _ hi => hWal.out.block i (by have := HHI.out; omega))).lo HLO.out, (k4'.kept (fun i _ hi => hWal.out.block i (by have := HHI.out; omega))).lo HLO.out⟩)
    (OwnI.at hP0 (b := hal)) (OwnI.at hP2 (b := hal)) (by have := HZ9.out; have := HZ8.out; simp; omega) (by have := HZ9.out; have := HZ8.out; simp; omega) hgr hown3
  have hS3 := own_other (OwnI.at HS.out (b := hWal)) hown hgr (by decide)
  have hV3 := own_other (OwnI.at HV.out (b := hWal)) hown hgr (by decide)
  have hB3 : Below w.heap.size w w3 := Below.grown (bwd.out.trans (hal.out.mono bwd.out.size)) hgr (by have := HZ9.out; have := HZ8.out; simp; omega) (fun k e => by have := (World.ownsRow.lt (own_lo hown HLO.out) k e).1; omega)
  have hgc : d.past.length + 1 ≤ cap := by
    obtain ⟨_, ⟨e, _⟩ | ⟨_, _, _, e, _, _, hc, _⟩⟩ := hown3
    · cases e
    · cases e; exact hc
  have HX := Lib.hid (Fin.mk BO3 BR3 HPS hS3 hV3 hB3)
  have n3' := block_cell BO3 3 rfl
  have p3 := block_frozen BO3 3
  refine hK.out _ _ ⟨block_cell BO3 3 rfl, block_cell BX3 0 rfl, block_cell BX3 1 rfl, block_cell BX3 2 rfl⟩ (fun hHeld => ?_)
  clear BO3 BR3 BX3 HPS hS3 hV3 hB3 hown hown3 hgr hat x0 x1 x2 n3 hP0 hP2 hap hbd hal hWal hes1 hes2 hes3 hlo2
  clear hK K
  refine PrintLast.norm_ (a' := ?_) ?_ ?_
  rotate_left
  · (show Act.put _ (some 146) _ = _; simp only [Act.put, List.setIfInBounds_toArray, List.set_cons_zero, List.set_cons_succ, PrintLast.i64_w, PrintLast.i32_w]; rfl)
  refine PrintLast.pure_ (i := 7) (N := (some 147)) (v := ?_) (a' := ?_) #[true, true, true, true, true, true, true, true, false] rfl rfl (by kernel_rfl) (fun _ _ _ h => h) (Or.inl ⟨by rfl, ?_⟩) ?_ ?_
  rotate_left
  · (intro w'; go_simp; with_reducible rfl)
  rotate_left
  · (simp only [Act.put, List.setIfInBounds_toArray, List.set_cons_zero, List.set_cons_succ, PrintLast.i64_w, PrintLast.i32_w]; rfl)
  refine PrintLast.last_ (i := 8) (N := none) #[true, true, true, true, true, true, true, true, true] rfl rfl (by kernel_rfl) (by decide) (fun K hK => ?_)
  refine PrintLast.skip_ (w1 := ?_) (by rfl) rfl ?_ ?_
  rotate_left
  · (go_simp; rfl)
  refine hK.out _ _ ?_
  clear hK K
  refine PrintLast.done_ (by kernel_rfl) ?_
  have RNE : Hid (w.heap.size + 2 ≠ g7) := by show _ ≠ _; have := HL7.out; omega
  have RLE : Hid (w.heap.size ≤ g7) := by show _ ≤ _; have := HL7.out; omega
  obtain ⟨W10, hW10⟩ : ∃ W10, W10 = w3.setCell ⟨g7, 3, none⟩ (.slice (some ⟨g, 0, none⟩) (d.past.length + 1) cap) := ⟨_, rfl⟩
  rw [← hW10]
  have HY := Lib.hid (HX.out.set RNE.out RLE.out 3 (.slice (some ⟨g, 0, none⟩) (d.past.length + 1) cap))
  rw [← hW10] at HY
  clear hW10 n3' p3
  have o3 : W10.cell? ⟨g7, 3, none⟩ = some (.slice (some ⟨g, 0, none⟩) (d.past.length + 1) cap) := block_cell HY.out.out 3 rfl
  have p3 := block_frozen HY.out.out 3
  by_cases hl : 8 < d.past.length + 1
  · have h1c : 1 < cap := by omega
    have HPP := Lib.hid (pushPast_long (p := d.now) hl)
    go_upto_region 32 with (fail)
    obtain ⟨W12, hW12⟩ : ∃ W12, W12 = W10.setCell ⟨g7, 3, none⟩ (.slice (some ⟨g, 3, none⟩) d.past.length (cap - 1)) := ⟨_, rfl⟩
    rw [← hW12]
    have HF := Lib.hid (HY.out.set RNE.out RLE.out 3 (.slice (some ⟨g, 3, none⟩) d.past.length (cap - 1)))
    rw [← hW12] at HF
    clear hW12
    clear o3 p3
    have o0 : W12.cell? ⟨g7, 0, none⟩ = some (.slice C0 q.st.length k0) := block_cell HF.out.out 0 rfl
    have o1 : W12.cell? ⟨g7, 1, none⟩ = some (.int .i64 q.step) := block_cell HF.out.out 1 rfl
    have o2 : W12.cell? ⟨g7, 2, none⟩ = some (.slice C2 q.word.length k2) := block_cell HF.out.out 2 rfl
    have o3 : W12.cell? ⟨g7, 3, none⟩ = some (.slice (some ⟨g, 3, none⟩) d.past.length (cap - 1)) := block_cell HF.out.out 3 rfl
    have HDI : Hid (DkI W12 (.agg #[.slice C0 q.st.length k0, .int .i64 q.step, .slice C2 q.word.length k2, (.slice (some ⟨g, 3, none⟩) d.past.length (cap - 1))]) ⟨q, pushPast d.past d.now⟩) := (by
      show DkI _ _ _
      rw [HPP.out]; exact DkI.mk (d := ⟨q, _⟩) (OwnI.ints HF.out.st) (OwnI.ints HF.out.word) HF.out.past.pls.drop1)
    go_wp2_with fail
    refine (i_copyDesk _ ⟨q, pushPast d.past d.now⟩ _ HDI.out (by show q.st.length ≤ 1000; omega) (by show q.word.length ≤ 1000; omega) HPS0.out.1 HPS0.out.2).mono ?_
    rintro e w13 ⟨v', rfl, ⟨f, hDk⟩, hb13⟩
    obtain ⟨z0', z2', z3', rfl, hT0, hT2, hTP⟩ := hDk
    obtain ⟨E0, s0, rfl⟩ := hT0.ints.form
    obtain ⟨E2, s2, rfl⟩ := hT2.ints.form
    obtain ⟨E3, s3, rfl⟩ := hTP.pls.form
    haveI : Bel W12 w13 := Bel.step (w := W12) hb13
    have RR := block_at (W := w13) HF.out.res
    have r0 := block_cell RR 0 rfl
    have r1 := block_cell RR 1 rfl
    have r2 := block_cell RR 2 rfl
    have r3 := block_cell RR 3 rfl
    have f0 := block_frozen RR 0
    have f1 := block_frozen RR 1
    have f2 := block_frozen RR 2
    have f3 := block_frozen RR 3
    have hz12 : w.heap.size ≤ W12.heap.size := HF.out.below.size
    have HD4 := Lib.hid ((((DkO.of (d := ⟨q, pushPast d.past d.now⟩) hT0 hT2 hTP).weak.set4 RR (by decide) (by decide) (.slice E0 q.st.length s0) (.int .i64 q.step) (.slice E2 q.word.length s2) (.slice E3 (pushPast d.past d.now).length s3)).lo hz12).hi (hi' := (set4 w13 (w.heap.size + 2) (.slice E0 q.st.length s0) (.int .i64 q.step) (.slice E2 q.word.length s2) (.slice E3 (pushPast d.past d.now).length s3)).heap.size) (by rw [size_set4]; omega))
    have HB4 := Lib.hid (below_set4 (HF.out.below.trans (hb13.mono HF.out.below.size)) (g := w.heap.size + 2) (by omega) (.slice E0 q.st.length s0) (.int .i64 q.step) (.slice E2 q.word.length s2) (.slice E3 (pushPast d.past d.now).length s3))
    clear RR hT0 hT2 hTP hb13 o0 o1 o2 o3
    go_wp2
    exact bodyPost_ret (v := .tuple #[.agg #[.slice E0 q.st.length s0, .int .i64 q.step, .slice E2 q.word.length s2, .slice E3 (pushPast d.past d.now).length s3], .bool true]) (by simp [results, Tryd.results8, go_sem, r0, r1, r2, r3]) rfl ⟨_, by rw [HD.out.2], ⟨_, by rw [HD.out.1]; exact HD4.out⟩, HB4.out⟩
  · have HPP := Lib.hid (pushPast_short (p := d.now) hl)
    go_upto_region 32 with (fail)
    obtain ⟨W12, hW12⟩ : ∃ W12, W12 = W10 := ⟨_, rfl⟩
    rw [← hW12]
    have HF := HY
    rw [← hW12] at HF
    clear hW12
    clear o3 p3
    have o0 : W12.cell? ⟨g7, 0, none⟩ = some (.slice C0 q.st.length k0) := block_cell HF.out.out 0 rfl
    have o1 : W12.cell? ⟨g7, 1, none⟩ = some (.int .i64 q.step) := block_cell HF.out.out 1 rfl
    have o2 : W12.cell? ⟨g7, 2, none⟩ = some (.slice C2 q.word.length k2) := block_cell HF.out.out 2 rfl
    have o3 : W12.cell? ⟨g7, 3, none⟩ = some (.slice (some ⟨g, 0, none⟩) (d.past.length + 1) cap) := block_cell HF.out.out 3 rfl
    have HDI : Hid (DkI W12 (.agg #[.slice C0 q.st.length k0, .int .i64 q.step, .slice C2 q.word.length k2, (.slice (some ⟨g, 0, none⟩) (d.past.length + 1) cap)]) ⟨q, pushPast d.past d.now⟩) := (by
      show DkI _ _ _
      rw [HPP.out]; exact DkI.mk (d := ⟨q, _⟩) (OwnI.ints HF.out.st) (OwnI.ints HF.out.word) HF.out.past.pls)
    go_wp2_with fail
    refine (i_copyDesk _ ⟨q, pushPast d.past d.now⟩ _ HDI.out (by show q.st.length ≤ 1000; omega) (by show q.word.length ≤ 1000; omega) HPS0.out.1 HPS0.out.2).mono ?_
    rintro e w13 ⟨v', rfl, ⟨f, hDk⟩, hb13⟩
    obtain ⟨z0', z2', z3', rfl, hT0, hT2, hTP⟩ := hDk
    obtain ⟨E0, s0, rfl⟩ := hT0.ints.form
    obtain ⟨E2, s2, rfl⟩ := hT2.ints.form
    obtain ⟨E3, s3, rfl⟩ := hTP.pls.form
    haveI : Bel W12 w13 := Bel.step (w := W12) hb13
    have RR := block_at (W := w13) HF.out.res
    have r0 := block_cell RR 0 rfl
    have r1 := block_cell RR 1 rfl
    have r2 := block_cell RR 2 rfl
    have r3 := block_cell RR 3 rfl
    have f0 := block_frozen RR 0
    have f1 := block_frozen RR 1
    have f2 := block_frozen RR 2
    have f3 := block_frozen RR 3
    have hz12 : w.heap.size ≤ W12.heap.size := HF.out.below.size
    have HD4 := Lib.hid ((((DkO.of (d := ⟨q, pushPast d.past d.now⟩) hT0 hT2 hTP).weak.set4 RR (by decide) (by decide) (.slice E0 q.st.length s0) (.int .i64 q.step) (.slice E2 q.word.length s2) (.slice E3 (pushPast d.past d.now).length s3)).lo hz12).hi (hi' := (set4 w13 (w.heap.size + 2) (.slice E0 q.st.length s0) (.int .i64 q.step) (.slice E2 q.word.length s2) (.slice E3 (pushPast d.past d.now).length s3)).heap.size) (by rw [size_set4]; omega))
    have HB4 := Lib.hid (below_set4 (HF.out.below.trans (hb13.mono HF.out.below.size)) (g := w.heap.size + 2) (by omega) (.slice E0 q.st.length s0) (.int .i64 q.step) (.slice E2 q.word.length s2) (.slice E3 (pushPast d.past d.now).length s3))
    clear RR hT0 hT2 hTP hb13 o0 o1 o2 o3
    go_wp2
    exact bodyPost_ret (v := .tuple #[.agg #[.slice E0 q.st.length s0, .int .i64 q.step, .slice E2 q.word.length s2, .slice E3 (pushPast d.past d.now).length s3], .bool true]) (by simp [results, Tryd.results8, go_sem, r0, r1, r2, r3]) rfl ⟨_, by rw [HD.out.2], ⟨_, by rw [HD.out.1]; exact HD4.out⟩, HB4.out⟩

end Go.Proofs.YtpfncjaclgcbnaaDoor.Ub
