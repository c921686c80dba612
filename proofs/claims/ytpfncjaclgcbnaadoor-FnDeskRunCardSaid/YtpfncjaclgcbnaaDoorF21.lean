/- Contract of the program's DeskDo. -/
import Derived.Test.YtpfncjaclgcbnaaDoorF20
set_option linter.unusedVariables false
set_option linter.unusedSimpArgs false
namespace Go.Proofs.YtpfncjaclgcbnaaDoor.Ub
open Go.RowKit Go.Proofs.YtpfncjaclgcbnaaDoorW


/-- One row of numbers grows: the places stay, for their blocks bear other tags. -/
theorem ownPs_apart {w w1 : World} {lo hi : Nat} {f : Nat → Nat} {t : Nat} {v u : Value} {ps : List Pl} {xs : List Int} (h : OwnPs w lo hi f v ps) (ho : OwnT w lo hi f t u xs) (hg : w.grownBy w1 u.ownBlock) (ht : t < 2) : OwnPs w1 lo hi f v ps := by
  obtain ⟨es, h1, h2, h3⟩ := h
  refine ⟨es, own_other h1 ho.1 hg (by decide), h2, fun j hj => ?_⟩
  obtain ⟨x0, x2, k0, k1, k2, k3, k4⟩ := h3 j hj
  have keep : ∀ {s : Nat} {x : Value} {ys : List Int}, 2 ≤ s → OwnT w lo hi f s x ys → OwnT w1 lo hi f s x ys := fun {s x ys} hs hx =>
    ⟨World.ownsRow.kept hx.1 hg (by
      cases hv : x.ownBlock with
      | none => exact .inl rfl
      | some k => exact .inr (fun e2 => by have a1 := (hx.2 k hv).1; have a2 := (ho.2 k e2.symm).1; omega)), hx.2⟩
  exact ⟨x0, x2, k0, k1, k2, keep (by omega) k3, keep (by omega) k4⟩
theorem tail_any (d : Dk) (a : Dd) (q : Pl) (w wa W : World) (A0 A2 A3 : Option Addr) (c0 c2 c3 : Nat) (i0 : Ints w (.slice A0 d.now.st.length c0) d.now.st) (i2 : Ints w (.slice A2 d.now.word.length c2) d.now.word) (hs1 : d.now.st.length ≤ 3) (hs2 : d.now.word.length ≤ 6) (hs3 : d.past.length ≤ 8)
    (HSM : Hid (∀ j, j < d.past.length → (d.past.getD j z0).st.length ≤ 3 ∧ (d.past.getD j z0).word.length ≤ 6)) (HEN : Hid (Env w)) (ba : Bel w wa) (baW : Bel wa W) (hza : w.heap.size + 2 < wa.heap.size) (g6 g7 m lo hi : Nat) (f1 f2 : Nat → Nat)
    (B0 B2 B3 C0 C2 C3 : Option Addr) (e0 e2 e3 k0 k2 k3 : Nat)
    (HBX : Hid (W.heap[w.heap.size]? = some (.cells #[.slice A0 d.now.st.length c0, .int .i64 d.now.step, .slice A2 d.now.word.length c2, .slice A3 d.past.length c3] 28 (0, 0))))
    (HBR : Hid (W.heap[w.heap.size + 2]? = some (.cells #[.slice none 0 0, .int .i64 0, .slice none 0 0, .slice none 0 0] 28 (0, 0))))
    (HB6 : Hid (W.heap[g6]? = some (.cells #[.slice B0 d.now.st.length e0, .int .i64 d.now.step, .slice B2 d.now.word.length e2, .slice B3 d.past.length e3] 28 (0, 0))))
    (HB7 : Hid (W.heap[g7]? = some (.cells #[.slice C0 q.st.length k0, .int .i64 q.step, .slice C2 q.word.length k2, .slice C3 d.past.length k3] 28 (0, 0))))
    (HD1 : Hid (DkO W wa.heap.size m f1 (.agg #[.slice B0 d.now.st.length e0, .int .i64 d.now.step, .slice B2 d.now.word.length e2, .slice B3 d.past.length e3]) d)) (HFM : Hid (m ≤ W.heap.size))
    (HS : Hid (OwnI W 0 (.slice C0 q.st.length k0) q.st)) (HV : Hid (OwnI W 0 (.slice C2 q.word.length k2) q.word)) (HPs : Hid (OwnPs W lo hi f2 (.slice C3 d.past.length k3) d.past)) (HLO : Hid (wa.heap.size ≤ lo)) (HHI : Hid (hi ≤ W.heap.size))
    (HNE : Hid (g6 ≠ g7)) (HL7 : Hid (wa.heap.size ≤ g7))
    (y0 y1 y3 y5 y9 y10 y11 y12 y13 y14 y15 y16 y17 y18 y19 y20 y21 y22 y23 y24 y25 y26 y27 y28 y29 y30 y31 y32 y33 y34 y35 y36 y37 y38 y39 y40 y41 y42 y43 y44 y45 y46 y47 y48 y49 y50 y51 y52 y53 y54 y55 y56 y57 y58 y59 y60 y61 y62 y63 y64 y65 y66 y67 y68 y69 y70 y71 y72 y73 y74 y75 y76 y77 y78 y79 y80 y81 y82 y83 y84 y85 y86 y87 y88 y89 y90 y91 y92 y93 y94 y95 y96 y97 y98 y99 y100 y101 y102 y103 y104 y105 y106 y107 y108 y109 y110 y111 y112 y113 y114 y115 y116 y117 y118 y119 y120 y121 y122 y123 y124 y125 y126 y127 y128 y129 y130 y131 y132 y133 y134 y135 y136 y137 y138 y139 y140 y141 y142 y143 y144 y145 y146 y147 y148 y149 y150 y151 y152 y153 y154 y155 y156 y157 : Value) (K1 K2 : Act → World → Prop)
    (hok : deskOk d = true) (hbk : backOk d a = false) (hq : madeOf d.now a = q)
    (h1 : ∀ a' w', Code.wp Tryd.prog c27 (Exit.then K2 (bodyPost Tryd.prog Tryd.f8 fun e w' => ∃ v', e = .returned (.tuple #[v', .bool (doOk d a)]) ∧ (∃ f, DkW w' w.heap.size w'.heap.size f v' (doDesk d a)) ∧ Below w.heap.size w w')) a' w' → K1 a' w')
    (h2 : ∀ a' w', Code.wp Tryd.prog d27 (bodyPost Tryd.prog Tryd.f8 fun e w' => ∃ v', e = .returned (.tuple #[v', .bool (doOk d a)]) ∧ (∃ f, DkW w' w.heap.size w'.heap.size f v' (doDesk d a)) ∧ Below w.heap.size w w') a' w' → K2 a' w') :
    Code.wp Tryd.prog r27 (Exit.then K1 (Exit.then K2 (bodyPost Tryd.prog Tryd.f8 fun e w' => ∃ v', e = .returned (.tuple #[v', .bool (doOk d a)]) ∧ (∃ f, DkW w' w.heap.size w'.heap.size f v' (doDesk d a)) ∧ Below w.heap.size w w'))) ⟨#[y0, y1, .pointer (some ⟨w.heap.size, 0, none⟩), y3, .pointer (some ⟨w.heap.size + 1 + 1, 0, none⟩), y5, .pointer (some ⟨g6, 0, none⟩), .pointer (some ⟨g7, 0, none⟩), .pointer (some ⟨g7, 0, none⟩), y9, y10, y11, y12, y13, y14, y15, y16, y17, y18, y19, y20, y21, y22, y23, y24, y25, y26, y27, y28, y29, y30, y31, y32, y33, y34, y35, y36, y37, y38, y39, y40, y41, y42, y43, y44, y45, y46, y47, y48, y49, y50, y51, y52, y53, y54, y55, y56, y57, y58, y59, y60, y61, y62, y63, y64, y65, y66, y67, y68, y69, y70, y71, y72, y73, y74, y75, y76, y77, y78, y79, y80, y81, y82, y83, y84, y85, y86, y87, y88, y89, y90, y91, y92, y93, y94, y95, y96, y97, y98, y99, y100, y101, y102, y103, y104, y105, y106, y107, y108, y109, y110, y111, y112, y113, y114, y115, y116, y117, y118, y119, y120, y121, y122, y123, y124, y125, y126, y127, y128, y129, y130, y131, y132, y133, y134, y135, y136, y137, y138, y139, y140, y141, y142, y143, y144, y145, y146, y147, y148, y149, y150, y151, y152, y153, y154, y155, y156, y157], []⟩ W := by
  by_cases hqo : placeOk q = true
  · by_cases ht : placeT q = placeT d.now
    · exact tail_same d a q w wa W A0 A2 A3 c0 c2 c3 i0 i2 hs1 hs2 hs3 HSM HEN ba baW hza g6 g7 m lo hi f1 f2 B0 B2 B3 C0 C2 C3 e0 e2 e3 k0 k2 k3 HBX HBR HB6 HB7 HD1 HFM HS HV HPs HLO HHI HNE HL7 y0 y1 y3 y5 y9 y10 y11 y12 y13 y14 y15 y16 y17 y18 y19 y20 y21 y22 y23 y24 y25 y26 y27 y28 y29 y30 y31 y32 y33 y34 y35 y36 y37 y38 y39 y40 y41 y42 y43 y44 y45 y46 y47 y48 y49 y50 y51 y52 y53 y54 y55 y56 y57 y58 y59 y60 y61 y62 y63 y64 y65 y66 y67 y68 y69 y70 y71 y72 y73 y74 y75 y76 y77 y78 y79 y80 y81 y82 y83 y84 y85 y86 y87 y88 y89 y90 y91 y92 y93 y94 y95 y96 y97 y98 y99 y100 y101 y102 y103 y104 y105 y106 y107 y108 y109 y110 y111 y112 y113 y114 y115 y116 y117 y118 y119 y120 y121 y122 y123 y124 y125 y126 y127 y128 y129 y130 y131 y132 y133 y134 y135 y136 y137 y138 y139 y140 y141 y142 y143 y144 y145 y146 y147 y148 y149 y150 y151 y152 y153 y154 y155 y156 y157 K1 K2 hqo (Lib.hid ht) (Lib.hid (do_not hok hbk (by rw [hq]; simp [took, ht]))) h1 h2
    · have h := do_took hok hbk (by rw [hq]; simp [took, hqo, ht])
      rw [hq] at h
      exact tail_took d a q w wa W A0 A2 A3 c0 c2 c3 i0 i2 hs1 hs2 hs3 HSM HEN ba baW hza g6 g7 m lo hi f1 f2 B0 B2 B3 C0 C2 C3 e0 e2 e3 k0 k2 k3 HBX HBR HB6 HB7 HD1 HFM HS HV HPs HLO HHI HNE HL7 y0 y1 y3 y5 y9 y10 y11 y12 y13 y14 y15 y16 y17 y18 y19 y20 y21 y22 y23 y24 y25 y26 y27 y28 y29 y30 y31 y32 y33 y34 y35 y36 y37 y38 y39 y40 y41 y42 y43 y44 y45 y46 y47 y48 y49 y50 y51 y52 y53 y54 y55 y56 y57 y58 y59 y60 y61 y62 y63 y64 y65 y66 y67 y68 y69 y70 y71 y72 y73 y74 y75 y76 y77 y78 y79 y80 y81 y82 y83 y84 y85 y86 y87 y88 y89 y90 y91 y92 y93 y94 y95 y96 y97 y98 y99 y100 y101 y102 y103 y104 y105 y106 y107 y108 y109 y110 y111 y112 y113 y114 y115 y116 y117 y118 y119 y120 y121 y122 y123 y124 y125 y126 y127 y128 y129 y130 y131 y132 y133 y134 y135 y136 y137 y138 y139 y140 y141 y142 y143 y144 y145 y146 y147 y148 y149 y150 y151 y152 y153 y154 y155 y156 y157 K1 K2 hqo (Lib.hid ht) (Lib.hid h) h1 h2
  · exact tail_bad d a q w wa W A0 A2 A3 c0 c2 c3 i0 i2 hs1 hs2 hs3 HSM HEN ba baW hza g6 g7 m lo hi f1 f2 B0 B2 B3 C0 C2 C3 e0 e2 e3 k0 k2 k3 HBX HBR HB6 HB7 HD1 HFM HS HV HPs HLO HHI HNE HL7 y0 y1 y3 y5 y9 y10 y11 y12 y13 y14 y15 y16 y17 y18 y19 y20 y21 y22 y23 y24 y25 y26 y27 y28 y29 y30 y31 y32 y33 y34 y35 y36 y37 y38 y39 y40 y41 y42 y43 y44 y45 y46 y47 y48 y49 y50 y51 y52 y53 y54 y55 y56 y57 y58 y59 y60 y61 y62 y63 y64 y65 y66 y67 y68 y69 y70 y71 y72 y73 y74 y75 y76 y77 y78 y79 y80 y81 y82 y83 y84 y85 y86 y87 y88 y89 y90 y91 y92 y93 y94 y95 y96 y97 y98 y99 y100 y101 y102 y103 y104 y105 y106 y107 y108 y109 y110 y111 y112 y113 y114 y115 y116 y117 y118 y119 y120 y121 y122 y123 y124 y125 y126 y127 y128 y129 y130 y131 y132 y133 y134 y135 y136 y137 y138 y139 y140 y141 y142 y143 y144 y145 y146 y147 y148 y149 y150 y151 y152 y153 y154 y155 y156 y157 K1 K2 (eq_false_of_ne_true hqo) (Lib.hid (do_not hok hbk (by rw [hq]; simp [took, eq_false_of_ne_true hqo]))) h1 h2

set_option maxHeartbeats 2000000 in
set_option maxRecDepth 1000000 in
theorem i_again (d : Dk)  (w : World) (A0 A2 A3 : Option Addr) (c0 c2 c3 : Nat) (i0 : Ints w (.slice A0 d.now.st.length c0) d.now.st) (i2 : Ints w (.slice A2 d.now.word.length c2) d.now.word) (i3 : Pls w (.slice A3 d.past.length c3) d.past) (he : Env w) (hok : deskOk d = true)  :
    Calls Tryd.prog 8 #[.agg #[.slice A0 d.now.st.length c0, .int .i64 d.now.step, .slice A2 d.now.word.length c2, .slice A3 d.past.length c3], .agg #[.int .i64 3, .int .i64 0, .int .i64 0]] w
      fun e w' => ∃ v', e = .returned (.tuple #[v', .bool (doOk d ⟨3, 0, 0⟩)]) ∧ (∃ f, DkW w' w.heap.size w'.heap.size f v' (doDesk d ⟨3, 0, 0⟩)) ∧ Below w.heap.size w w' := by
  have HEN := Lib.hid he
  have HOK := Lib.hid hok
  have hn : (!deskOk d) = false := by simp [hok]
  obtain ⟨hs1, hs2, hs3, hs4⟩ := desk_small hok
  have HSM := Lib.hid hs4
  have HMADE := Lib.hid (made_again (p := d.now) (a := ⟨3, 0, 0⟩) rfl rfl rfl)
  clear hok hs4 he 
  go_enter Tryd.func8, Tryd.ntmps8
  go_wp2_with fail
  refine (i_DeskOk _ d _ (DkI.mk i0.at i2.at i3.at)).mono ?_
  rintro e wa ⟨rfl, hba⟩
  haveI ba : Bel w wa := Bel.step (w := w) hba
  have BXa : wa.heap[w.heap.size]? = some (.cells #[.slice A0 d.now.st.length c0, .int .i64 d.now.step, .slice A2 d.now.word.length c2, .slice A3 d.past.length c3] 28 (0, 0)) := (hba.block _ (by simp <;> omega)).trans ((heap_alloc_old _ _ (by simp <;> omega)).trans ((heap_alloc_old _ _ (by simp)).trans (heap_alloc_new w _)))
  have BDa : wa.heap[w.heap.size + 1]? = some (.cells #[.int .i64 3, .int .i64 0, .int .i64 0] 30 (0, 0)) := (hba.block _ (by simp <;> omega)).trans ((heap_alloc_old _ _ (by simp)).trans (by simpa using heap_alloc_new (w.alloc (.cells #[.slice A0 d.now.st.length c0, .int .i64 d.now.step, .slice A2 d.now.word.length c2, .slice A3 d.past.length c3] 28)) _))
  have BRa : wa.heap[w.heap.size + 2]? = some (.cells #[.slice none 0 0, .int .i64 0, .slice none 0 0, .slice none 0 0] 28 (0, 0)) := (hba.block _ (by simp)).trans (by simpa using heap_alloc_new ((w.alloc (.cells #[.slice A0 d.now.st.length c0, .int .i64 d.now.step, .slice A2 d.now.word.length c2, .slice A3 d.past.length c3] 28)).alloc (.cells #[.int .i64 3, .int .i64 0, .int .i64 0] 30)) _)
  have hza : w.heap.size + 2 < wa.heap.size := by have := hba.size; simp at this; omega
  clear hba
  go_upto_region 3 with (fail)
  refine copies d w wa A0 A2 A3 c0 c2 c3 i0 i2 i3 hs1 hs2 hs3 HSM ba BXa _ _ _ _ _ _ _ _ _ (fun _ _ d _ _ h => (by cases d <;> exact h)) ?_
  rintro t wj hF
  obtain ⟨B0, e0, B2, e2, B3, e3, C0, k0, C2, k2, C3, k3, g6, g7⟩ := t
  obtain ⟨fbel, fb6, fb7, fne, fl6, fl7, m, f1, f2, fm0, fm, F1, F2⟩ := hF
  simp only [Two.v1, Two.v2] at *
  obtain ⟨W5, hW5⟩ : ∃ W5, W5 = set4 (set4 wj g6 (.slice B0 d.now.st.length e0) (.int .i64 d.now.step) (.slice B2 d.now.word.length e2) (.slice B3 d.past.length e3)) g7 (.slice C0 d.now.st.length k0) (.int .i64 d.now.step) (.slice C2 d.now.word.length k2) (.slice C3 d.past.length k3) := ⟨_, rfl⟩
  rw [← hW5]
  haveI bj : Bel wa wj := ⟨fbel⟩
  have b6 := block_far4 (block_set4 fb6 (.slice B0 d.now.st.length e0) (.int .i64 d.now.step) (.slice B2 d.now.word.length e2) (.slice B3 d.past.length e3)) fne (.slice C0 d.now.st.length k0) (.int .i64 d.now.step) (.slice C2 d.now.word.length k2) (.slice C3 d.past.length k3)
  have fb7' := block_far4 fb7 fne.symm (.slice B0 d.now.st.length e0) (.int .i64 d.now.step) (.slice B2 d.now.word.length e2) (.slice B3 d.past.length e3)
  have b7 := block_set4 fb7' (.slice C0 d.now.st.length k0) (.int .i64 d.now.step) (.slice C2 d.now.word.length k2) (.slice C3 d.past.length k3)
  have far : ∀ {k : Nat} {o : Obj}, k < wa.heap.size → wa.heap[k]? = some o → W5.heap[k]? = some o := fun {k o} hk ho => by
    rw [hW5]; exact block_far4 (block_far4 (block_at ho) (by omega) _ _ _ _) (by omega) _ _ _ _
  have BX := far (by omega) BXa
  have BD := far (by omega) BDa
  have BR := far (by omega) BRa
  have HD1 : Hid (DkO W5 wa.heap.size m f1 (.agg #[.slice B0 d.now.st.length e0, .int .i64 d.now.step, .slice B2 d.now.word.length e2, .slice B3 d.past.length e3]) d) := (by
    show DkO _ _ _ _ _ _
    rw [hW5]; exact DkO.set4 (DkO.set4 F1 fb6 (by decide) (by decide) _ _ _ _) fb7' (by decide) (by decide) _ _ _ _)
  have HD2 : Hid (DkO W5 m wj.heap.size f2 (.agg #[.slice C0 d.now.st.length k0, .int .i64 d.now.step, .slice C2 d.now.word.length k2, .slice C3 d.past.length k3]) d) := (by
    show DkO _ _ _ _ _ _
    rw [hW5]; exact DkO.set4 (DkO.set4 F2 fb6 (by decide) (by decide) _ _ _ _) fb7' (by decide) (by decide) _ _ _ _)
  haveI ba5 : Bel wa W5 := ⟨by rw [hW5]; exact below_set4 (below_set4 fbel fl6 _ _ _ _) fl7 _ _ _ _⟩
  haveI bw5 : Bel w W5 := Bel.step (w := w) ba5.out
  have HZJ : Hid (W5.heap.size = wj.heap.size) := by show _ = _; rw [hW5]; simp [size_set4]
  have HFM := Lib.hid fm; have HFN := Lib.hid fm0
  rw [← hW5] at b6 b7
  have HNE := Lib.hid fne; have HL6 := Lib.hid fl6; have HL7 := Lib.hid fl7
  clear hW5 far fb6 fb7 fb7' F1 F2 bj fbel fm fm0 BXa BDa BRa fne
  have HBX := Lib.hid BX; have HBD := Lib.hid BD; have HBR := Lib.hid BR; have HB6 := Lib.hid b6; have HB7 := Lib.hid b7
  clear BX BD BR b6 b7
  have d0 := block_cell HBD.out 0 rfl
  have d1 := block_cell HBD.out 1 rfl
  have d2 := block_cell HBD.out 2 rfl
  have b0 := block_frozen HB7.out 0
  have b1 := block_frozen HB7.out 1
  have b2 := block_frozen HB7.out 2
  have n0 := block_cell HB7.out 0 rfl
  have n1 := block_cell HB7.out 1 rfl
  have n2 := block_cell HB7.out 2 rfl
  go_upto_region 27 with (fail)
  have HDW1 := HD1; have HPW := Lib.hid HD2.out.parts.2.2; have HBW7 := HB7; have HBW6 := HB6; have HBWX := HBX; have HBWR := HBR; have HZW : Hid (wj.heap.size ≤ W5.heap.size) := by (show _ ≤ _; have := HZJ.out; omega)
  have HBWB := Lib.hid ba5.out
  obtain ⟨WX, hWX⟩ : ∃ WX, WX = W5.setCell ⟨g7, 2, none⟩ (.slice none 0 0) := ⟨_, rfl⟩
  rw [← hWX]
  have hz5 : wa.heap.size ≤ g7 := HL7.out
  have H7 : Hid (WX.heap[g7]? = some (.cells #[.slice C0 (d.now.st).length k0, .int .i64 (d.now.step), .slice none (([] : List Int)).length 0, .slice C3 d.past.length k3] 28 (0, 0))) := by show _ = _; rw [hWX]; exact block_set HBW7.out 2 _
  have H6 := Lib.hid (block_far (p := ⟨g7, 2, none⟩) (u := (.slice none 0 0)) HBW6.out HNE.out)
  have HX := Lib.hid (block_far (p := ⟨g7, 2, none⟩) (u := (.slice none 0 0)) HBWX.out (by simp; omega))
  have HR := Lib.hid (block_far (p := ⟨g7, 2, none⟩) (u := (.slice none 0 0)) HBWR.out (by simp; omega))
  have H1 := Lib.hid (HDW1.out.set HBW7.out (by decide) (by decide) 2 (.slice none 0 0))
  have HP := Lib.hid (OwnPs.set HPW.out HBW7.out (by decide) (by decide) 2 (.slice none 0 0))
  rw [← hWX] at H6 HX HR H1 HP
  have HSZ : Hid (wj.heap.size ≤ WX.heap.size) := by show _ ≤ _; rw [hWX]; have := HZW.out; simp; omega
  have HBel : Bel wa WX := ⟨by rw [hWX]; exact HBWB.out.setCell (p := ⟨g7, 2, none⟩) hz5 _⟩
  have HS : Hid (OwnI WX 0 (.slice C0 (d.now.st).length k0) (d.now.st)) := (by show OwnI _ _ _ _; rw [hWX]; exact OwnI.set1 (OwnI.mono HD2.out.parts.1.1 (Nat.zero_le _)) HB7.out (by decide) 2 _)
  have HV : Hid (OwnI WX 0 (.slice none (([] : List Int)).length 0) (([] : List Int))) := (by show OwnI _ _ _ _; rw [hWX]; exact OwnI.nil _ _)
  refine tail_any d ⟨3, 0, 0⟩ ⟨d.now.st, d.now.step, ([] : List Int)⟩ w wa WX A0 A2 A3 c0 c2 c3 i0 i2 hs1 hs2 hs3 HSM HEN ba HBel hza g6 g7 m m wj.heap.size f1 f2 B0 B2 B3 C0 none C3 e0 e2 e3 k0 0 k3 HX HR H6 H7 H1 (Nat.le_trans HFM.out HSZ.out) HS HV HP HFN HSZ HNE HL7 _ _ _ _ _ _ _ _ _ _ _ _ _ _ _ _ _ _ _ _ _ _ _ _ _ _ _ _ _ _ _ _ _ _ _ _ _ _ _ _ _ _ _ _ _ _ _ _ _ _ _ _ _ _ _ _ _ _ _ _ _ _ _ _ _ _ _ _ _ _ _ _ _ _ _ _ _ _ _ _ _ _ _ _ _ _ _ _ _ _ _ _ _ _ _ _ _ _ _ _ _ _ _ _ _ _ _ _ _ _ _ _ _ _ _ _ _ _ _ _ _ _ _ _ _ _ _ _ _ _ _ _ _ _ _ _ _ _ _ _ _ _ _ _ _ _ _ _ _ _ _ _ _ _ _ HOK.out (back_kind (by simp)) HMADE.out ?_ ?_
  · assumption
  · assumption

set_option maxHeartbeats 2000000 in
set_option maxRecDepth 1000000 in
theorem i_step (d : Dk) (aa : Int) (w : World) (A0 A2 A3 : Option Addr) (c0 c2 c3 : Nat) (i0 : Ints w (.slice A0 d.now.st.length c0) d.now.st) (i2 : Ints w (.slice A2 d.now.word.length c2) d.now.word) (i3 : Pls w (.slice A3 d.past.length c3) d.past) (he : Env w) (hok : deskOk d = true) (hw : d.now.word.length = 0) :
    Calls Tryd.prog 8 #[.agg #[.slice A0 d.now.st.length c0, .int .i64 d.now.step, .slice A2 d.now.word.length c2, .slice A3 d.past.length c3], .agg #[.int .i64 1, .int .i64 aa, .int .i64 0]] w
      fun e w' => ∃ v', e = .returned (.tuple #[v', .bool (doOk d ⟨1, aa, 0⟩)]) ∧ (∃ f, DkW w' w.heap.size w'.heap.size f v' (doDesk d ⟨1, aa, 0⟩)) ∧ Below w.heap.size w w' := by
  have HEN := Lib.hid he
  have HOK := Lib.hid hok
  have hn : (!deskOk d) = false := by simp [hok]
  obtain ⟨hs1, hs2, hs3, hs4⟩ := desk_small hok
  have HSM := Lib.hid hs4
  have HMADE : Hid (madeOf d.now ⟨1, aa, 0⟩ = ⟨d.now.st, aa, d.now.word⟩) := by show _ = _; rw [made_step rfl rfl hw, List.length_eq_zero_iff.1 hw]
  have hwn : ¬ 0 < d.now.word.length := by omega
  clear hok hs4 he hw
  go_enter Tryd.func8, Tryd.ntmps8
  go_wp2_with fail
  refine (i_DeskOk _ d _ (DkI.mk i0.at i2.at i3.at)).mono ?_
  rintro e wa ⟨rfl, hba⟩
  haveI ba : Bel w wa := Bel.step (w := w) hba
  have BXa : wa.heap[w.heap.size]? = some (.cells #[.slice A0 d.now.st.length c0, .int .i64 d.now.step, .slice A2 d.now.word.length c2, .slice A3 d.past.length c3] 28 (0, 0)) := (hba.block _ (by simp <;> omega)).trans ((heap_alloc_old _ _ (by simp <;> omega)).trans ((heap_alloc_old _ _ (by simp)).trans (heap_alloc_new w _)))
  have BDa : wa.heap[w.heap.size + 1]? = some (.cells #[.int .i64 1, .int .i64 aa, .int .i64 0] 30 (0, 0)) := (hba.block _ (by simp <;> omega)).trans ((heap_alloc_old _ _ (by simp)).trans (by simpa using heap_alloc_new (w.alloc (.cells #[.slice A0 d.now.st.length c0, .int .i64 d.now.step, .slice A2 d.now.word.length c2, .slice A3 d.past.length c3] 28)) _))
  have BRa : wa.heap[w.heap.size + 2]? = some (.cells #[.slice none 0 0, .int .i64 0, .slice none 0 0, .slice none 0 0] 28 (0, 0)) := (hba.block _ (by simp)).trans (by simpa using heap_alloc_new ((w.alloc (.cells #[.slice A0 d.now.st.length c0, .int .i64 d.now.step, .slice A2 d.now.word.length c2, .slice A3 d.past.length c3] 28)).alloc (.cells #[.int .i64 1, .int .i64 aa, .int .i64 0] 30)) _)
  have hza : w.heap.size + 2 < wa.heap.size := by have := hba.size; simp at this; omega
  clear hba
  go_upto_region 3 with (fail)
  refine copies d w wa A0 A2 A3 c0 c2 c3 i0 i2 i3 hs1 hs2 hs3 HSM ba BXa _ _ _ _ _ _ _ _ _ (fun _ _ d _ _ h => (by cases d <;> exact h)) ?_
  rintro t wj hF
  obtain ⟨B0, e0, B2, e2, B3, e3, C0, k0, C2, k2, C3, k3, g6, g7⟩ := t
  obtain ⟨fbel, fb6, fb7, fne, fl6, fl7, m, f1, f2, fm0, fm, F1, F2⟩ := hF
  simp only [Two.v1, Two.v2] at *
  obtain ⟨W5, hW5⟩ : ∃ W5, W5 = set4 (set4 wj g6 (.slice B0 d.now.st.length e0) (.int .i64 d.now.step) (.slice B2 d.now.word.length e2) (.slice B3 d.past.length e3)) g7 (.slice C0 d.now.st.length k0) (.int .i64 d.now.step) (.slice C2 d.now.word.length k2) (.slice C3 d.past.length k3) := ⟨_, rfl⟩
  rw [← hW5]
  haveI bj : Bel wa wj := ⟨fbel⟩
  have b6 := block_far4 (block_set4 fb6 (.slice B0 d.now.st.length e0) (.int .i64 d.now.step) (.slice B2 d.now.word.length e2) (.slice B3 d.past.length e3)) fne (.slice C0 d.now.st.length k0) (.int .i64 d.now.step) (.slice C2 d.now.word.length k2) (.slice C3 d.past.length k3)
  have fb7' := block_far4 fb7 fne.symm (.slice B0 d.now.st.length e0) (.int .i64 d.now.step) (.slice B2 d.now.word.length e2) (.slice B3 d.past.length e3)
  have b7 := block_set4 fb7' (.slice C0 d.now.st.length k0) (.int .i64 d.now.step) (.slice C2 d.now.word.length k2) (.slice C3 d.past.length k3)
  have far : ∀ {k : Nat} {o : Obj}, k < wa.heap.size → wa.heap[k]? = some o → W5.heap[k]? = some o := fun {k o} hk ho => by
    rw [hW5]; exact block_far4 (block_far4 (block_at ho) (by omega) _ _ _ _) (by omega) _ _ _ _
  have BX := far (by omega) BXa
  have BD := far (by omega) BDa
  have BR := far (by omega) BRa
  have HD1 : Hid (DkO W5 wa.heap.size m f1 (.agg #[.slice B0 d.now.st.length e0, .int .i64 d.now.step, .slice B2 d.now.word.length e2, .slice B3 d.past.length e3]) d) := (by
    show DkO _ _ _ _ _ _
    rw [hW5]; exact DkO.set4 (DkO.set4 F1 fb6 (by decide) (by decide) _ _ _ _) fb7' (by decide) (by decide) _ _ _ _)
  have HD2 : Hid (DkO W5 m wj.heap.size f2 (.agg #[.slice C0 d.now.st.length k0, .int .i64 d.now.step, .slice C2 d.now.word.length k2, .slice C3 d.past.length k3]) d) := (by
    show DkO _ _ _ _ _ _
    rw [hW5]; exact DkO.set4 (DkO.set4 F2 fb6 (by decide) (by decide) _ _ _ _) fb7' (by decide) (by decide) _ _ _ _)
  haveI ba5 : Bel wa W5 := ⟨by rw [hW5]; exact below_set4 (below_set4 fbel fl6 _ _ _ _) fl7 _ _ _ _⟩
  haveI bw5 : Bel w W5 := Bel.step (w := w) ba5.out
  have HZJ : Hid (W5.heap.size = wj.heap.size) := by show _ = _; rw [hW5]; simp [size_set4]
  have HFM := Lib.hid fm; have HFN := Lib.hid fm0
  rw [← hW5] at b6 b7
  have HNE := Lib.hid fne; have HL6 := Lib.hid fl6; have HL7 := Lib.hid fl7
  clear hW5 far fb6 fb7 fb7' F1 F2 bj fbel fm fm0 BXa BDa BRa fne
  have HBX := Lib.hid BX; have HBD := Lib.hid BD; have HBR := Lib.hid BR; have HB6 := Lib.hid b6; have HB7 := Lib.hid b7
  clear BX BD BR b6 b7
  have d0 := block_cell HBD.out 0 rfl
  have d1 := block_cell HBD.out 1 rfl
  have d2 := block_cell HBD.out 2 rfl
  have b0 := block_frozen HB7.out 0
  have b1 := block_frozen HB7.out 1
  have b2 := block_frozen HB7.out 2
  have n0 := block_cell HB7.out 0 rfl
  have n1 := block_cell HB7.out 1 rfl
  have n2 := block_cell HB7.out 2 rfl
  go_upto_region 27 with (fail)
  have HDW1 := HD1; have HPW := Lib.hid HD2.out.parts.2.2; have HBW7 := HB7; have HBW6 := HB6; have HBWX := HBX; have HBWR := HBR; have HZW : Hid (wj.heap.size ≤ W5.heap.size) := by (show _ ≤ _; have := HZJ.out; omega)
  have HBWB := Lib.hid ba5.out
  obtain ⟨WX, hWX⟩ : ∃ WX, WX = W5.setCell ⟨g7, 1, none⟩ (.int .i64 aa) := ⟨_, rfl⟩
  rw [← hWX]
  have hz5 : wa.heap.size ≤ g7 := HL7.out
  have H7 : Hid (WX.heap[g7]? = some (.cells #[.slice C0 (d.now.st).length k0, .int .i64 (aa), .slice C2 (d.now.word).length k2, .slice C3 d.past.length k3] 28 (0, 0))) := by show _ = _; rw [hWX]; exact block_set HBW7.out 1 _
  have H6 := Lib.hid (block_far (p := ⟨g7, 1, none⟩) (u := (.int .i64 aa)) HBW6.out HNE.out)
  have HX := Lib.hid (block_far (p := ⟨g7, 1, none⟩) (u := (.int .i64 aa)) HBWX.out (by simp; omega))
  have HR := Lib.hid (block_far (p := ⟨g7, 1, none⟩) (u := (.int .i64 aa)) HBWR.out (by simp; omega))
  have H1 := Lib.hid (HDW1.out.set HBW7.out (by decide) (by decide) 1 (.int .i64 aa))
  have HP := Lib.hid (OwnPs.set HPW.out HBW7.out (by decide) (by decide) 1 (.int .i64 aa))
  rw [← hWX] at H6 HX HR H1 HP
  have HSZ : Hid (wj.heap.size ≤ WX.heap.size) := by show _ ≤ _; rw [hWX]; have := HZW.out; simp; omega
  have HBel : Bel wa WX := ⟨by rw [hWX]; exact HBWB.out.setCell (p := ⟨g7, 1, none⟩) hz5 _⟩
  have HS : Hid (OwnI WX 0 (.slice C0 (d.now.st).length k0) (d.now.st)) := (by show OwnI _ _ _ _; rw [hWX]; exact OwnI.set1 (OwnI.mono HD2.out.parts.1.1 (Nat.zero_le _)) HB7.out (by decide) 1 _)
  have HV : Hid (OwnI WX 0 (.slice C2 (d.now.word).length k2) (d.now.word)) := (by show OwnI _ _ _ _; rw [hWX]; exact OwnI.set1 (OwnI.mono HD2.out.parts.2.1.1 (Nat.zero_le _)) HB7.out (by decide) 1 _)
  refine tail_any d ⟨1, aa, 0⟩ ⟨d.now.st, aa, d.now.word⟩ w wa WX A0 A2 A3 c0 c2 c3 i0 i2 hs1 hs2 hs3 HSM HEN ba HBel hza g6 g7 m m wj.heap.size f1 f2 B0 B2 B3 C0 C2 C3 e0 e2 e3 k0 k2 k3 HX HR H6 H7 H1 (Nat.le_trans HFM.out HSZ.out) HS HV HP HFN HSZ HNE HL7 _ _ _ _ _ _ _ _ _ _ _ _ _ _ _ _ _ _ _ _ _ _ _ _ _ _ _ _ _ _ _ _ _ _ _ _ _ _ _ _ _ _ _ _ _ _ _ _ _ _ _ _ _ _ _ _ _ _ _ _ _ _ _ _ _ _ _ _ _ _ _ _ _ _ _ _ _ _ _ _ _ _ _ _ _ _ _ _ _ _ _ _ _ _ _ _ _ _ _ _ _ _ _ _ _ _ _ _ _ _ _ _ _ _ _ _ _ _ _ _ _ _ _ _ _ _ _ _ _ _ _ _ _ _ _ _ _ _ _ _ _ _ _ _ _ _ _ _ _ _ _ _ _ _ _ HOK.out (back_kind (by simp)) HMADE.out ?_ ?_
  · assumption
  · assumption

set_option maxHeartbeats 2000000 in
set_option maxRecDepth 1000000 in
theorem i_put (d : Dk) (aa bb : Int) (w : World) (A0 A2 A3 : Option Addr) (c0 c2 c3 : Nat) (i0 : Ints w (.slice A0 d.now.st.length c0) d.now.st) (i2 : Ints w (.slice A2 d.now.word.length c2) d.now.word) (i3 : Pls w (.slice A3 d.past.length c3) d.past) (he : Env w) (hok : deskOk d = true) (hp : putFine d.now.st aa bb = true) (hw : d.now.word.length = 0) :
    Calls Tryd.prog 8 #[.agg #[.slice A0 d.now.st.length c0, .int .i64 d.now.step, .slice A2 d.now.word.length c2, .slice A3 d.past.length c3], .agg #[.int .i64 0, .int .i64 aa, .int .i64 bb]] w
      fun e w' => ∃ v', e = .returned (.tuple #[v', .bool (doOk d ⟨0, aa, bb⟩)]) ∧ (∃ f, DkW w' w.heap.size w'.heap.size f v' (doDesk d ⟨0, aa, bb⟩)) ∧ Below w.heap.size w w' := by
  have HEN := Lib.hid he
  have HOK := Lib.hid hok
  have hn : (!deskOk d) = false := by simp [hok]
  obtain ⟨hs1, hs2, hs3, hs4⟩ := desk_small hok
  have HSM := Lib.hid hs4
  have HMADE : Hid (madeOf d.now ⟨0, aa, bb⟩ = ⟨putList d.now.st aa bb, d.now.step, d.now.word⟩) := by show _ = _; rw [made_put rfl hw, List.length_eq_zero_iff.1 hw]
  have hwn : ¬ 0 < d.now.word.length := by omega
  have HPI := Lib.hid (PutIn_is hp)
  clear hok hs4 he hw hp
  go_enter Tryd.func8, Tryd.ntmps8
  go_wp2_with fail
  refine (i_DeskOk _ d _ (DkI.mk i0.at i2.at i3.at)).mono ?_
  rintro e wa ⟨rfl, hba⟩
  haveI ba : Bel w wa := Bel.step (w := w) hba
  have BXa : wa.heap[w.heap.size]? = some (.cells #[.slice A0 d.now.st.length c0, .int .i64 d.now.step, .slice A2 d.now.word.length c2, .slice A3 d.past.length c3] 28 (0, 0)) := (hba.block _ (by simp <;> omega)).trans ((heap_alloc_old _ _ (by simp <;> omega)).trans ((heap_alloc_old _ _ (by simp)).trans (heap_alloc_new w _)))
  have BDa : wa.heap[w.heap.size + 1]? = some (.cells #[.int .i64 0, .int .i64 aa, .int .i64 bb] 30 (0, 0)) := (hba.block _ (by simp <;> omega)).trans ((heap_alloc_old _ _ (by simp)).trans (by simpa using heap_alloc_new (w.alloc (.cells #[.slice A0 d.now.st.length c0, .int .i64 d.now.step, .slice A2 d.now.word.length c2, .slice A3 d.past.length c3] 28)) _))
  have BRa : wa.heap[w.heap.size + 2]? = some (.cells #[.slice none 0 0, .int .i64 0, .slice none 0 0, .slice none 0 0] 28 (0, 0)) := (hba.block _ (by simp)).trans (by simpa using heap_alloc_new ((w.alloc (.cells #[.slice A0 d.now.st.length c0, .int .i64 d.now.step, .slice A2 d.now.word.length c2, .slice A3 d.past.length c3] 28)).alloc (.cells #[.int .i64 0, .int .i64 aa, .int .i64 bb] 30)) _)
  have hza : w.heap.size + 2 < wa.heap.size := by have := hba.size; simp at this; omega
  clear hba
  go_upto_region 3 with (fail)
  refine copies d w wa A0 A2 A3 c0 c2 c3 i0 i2 i3 hs1 hs2 hs3 HSM ba BXa _ _ _ _ _ _ _ _ _ (fun _ _ d _ _ h => (by cases d <;> exact h)) ?_
  rintro t wj hF
  obtain ⟨B0, e0, B2, e2, B3, e3, C0, k0, C2, k2, C3, k3, g6, g7⟩ := t
  obtain ⟨fbel, fb6, fb7, fne, fl6, fl7, m, f1, f2, fm0, fm, F1, F2⟩ := hF
  simp only [Two.v1, Two.v2] at *
  obtain ⟨W5, hW5⟩ : ∃ W5, W5 = set4 (set4 wj g6 (.slice B0 d.now.st.length e0) (.int .i64 d.now.step) (.slice B2 d.now.word.length e2) (.slice B3 d.past.length e3)) g7 (.slice C0 d.now.st.length k0) (.int .i64 d.now.step) (.slice C2 d.now.word.length k2) (.slice C3 d.past.length k3) := ⟨_, rfl⟩
  rw [← hW5]
  haveI bj : Bel wa wj := ⟨fbel⟩
  have b6 := block_far4 (block_set4 fb6 (.slice B0 d.now.st.length e0) (.int .i64 d.now.step) (.slice B2 d.now.word.length e2) (.slice B3 d.past.length e3)) fne (.slice C0 d.now.st.length k0) (.int .i64 d.now.step) (.slice C2 d.now.word.length k2) (.slice C3 d.past.length k3)
  have fb7' := block_far4 fb7 fne.symm (.slice B0 d.now.st.length e0) (.int .i64 d.now.step) (.slice B2 d.now.word.length e2) (.slice B3 d.past.length e3)
  have b7 := block_set4 fb7' (.slice C0 d.now.st.length k0) (.int .i64 d.now.step) (.slice C2 d.now.word.length k2) (.slice C3 d.past.length k3)
  have far : ∀ {k : Nat} {o : Obj}, k < wa.heap.size → wa.heap[k]? = some o → W5.heap[k]? = some o := fun {k o} hk ho => by
    rw [hW5]; exact block_far4 (block_far4 (block_at ho) (by omega) _ _ _ _) (by omega) _ _ _ _
  have BX := far (by omega) BXa
  have BD := far (by omega) BDa
  have BR := far (by omega) BRa
  have HD1 : Hid (DkO W5 wa.heap.size m f1 (.agg #[.slice B0 d.now.st.length e0, .int .i64 d.now.step, .slice B2 d.now.word.length e2, .slice B3 d.past.length e3]) d) := (by
    show DkO _ _ _ _ _ _
    rw [hW5]; exact DkO.set4 (DkO.set4 F1 fb6 (by decide) (by decide) _ _ _ _) fb7' (by decide) (by decide) _ _ _ _)
  have HD2 : Hid (DkO W5 m wj.heap.size f2 (.agg #[.slice C0 d.now.st.length k0, .int .i64 d.now.step, .slice C2 d.now.word.length k2, .slice C3 d.past.length k3]) d) := (by
    show DkO _ _ _ _ _ _
    rw [hW5]; exact DkO.set4 (DkO.set4 F2 fb6 (by decide) (by decide) _ _ _ _) fb7' (by decide) (by decide) _ _ _ _)
  haveI ba5 : Bel wa W5 := ⟨by rw [hW5]; exact below_set4 (below_set4 fbel fl6 _ _ _ _) fl7 _ _ _ _⟩
  haveI bw5 : Bel w W5 := Bel.step (w := w) ba5.out
  have HZJ : Hid (W5.heap.size = wj.heap.size) := by show _ = _; rw [hW5]; simp [size_set4]
  have HFM := Lib.hid fm; have HFN := Lib.hid fm0
  rw [← hW5] at b6 b7
  have HNE := Lib.hid fne; have HL6 := Lib.hid fl6; have HL7 := Lib.hid fl7
  clear hW5 far fb6 fb7 fb7' F1 F2 bj fbel fm fm0 BXa BDa BRa fne
  have HBX := Lib.hid BX; have HBD := Lib.hid BD; have HBR := Lib.hid BR; have HB6 := Lib.hid b6; have HB7 := Lib.hid b7
  clear BX BD BR b6 b7
  have d0 := block_cell HBD.out 0 rfl
  have d1 := block_cell HBD.out 1 rfl
  have d2 := block_cell HBD.out 2 rfl
  have b0 := block_frozen HB7.out 0
  have b1 := block_frozen HB7.out 1
  have b2 := block_frozen HB7.out 2
  have n0 := block_cell HB7.out 0 rfl
  have n1 := block_cell HB7.out 1 rfl
  have n2 := block_cell HB7.out 2 rfl
  go_upto_region 10 with (fail)
  go_region_held3 (fun w' => w'.cell? ⟨g7, 0, none⟩ = some (.slice C0 d.now.st.length k0) ∧ w'.cell? ⟨w.heap.size + 1, 1, none⟩ = some (.int .i64 aa) ∧ w'.cell? ⟨w.heap.size + 1, 2, none⟩ = some (.int .i64 bb))
    (exact ⟨cell_at n0, cell_at d1, cell_at d2⟩)
    ((go_at_call 35; refine (HPI.out _ _ (OwnI.ints HD2.out.parts.1.1).at).mono ?_; rintro e w8 ⟨vu, rfl, hU, hb8⟩; obtain ⟨U0, u0, rfl⟩ := hU.ints.form; haveI b58 : Bel W5 w8 := Bel.step (w := W5) hb8))
  haveI ba8 : Bel wa w8 := Bel.step (w := wa) b58.out
  have HBW7 := Lib.hid (block_at (W := w8) HB7.out)
  have HU := Lib.hid hU
  clear hU n0 n1 n2 b0 b1 b2 d0 d1 d2
  have b0 := block_frozen HBW7.out 0
  have n0 := block_cell HBW7.out 0 rfl
  have n1 := block_cell HBW7.out 1 rfl
  have n2 := block_cell HBW7.out 2 rfl
  go_upto_region 27 with (fail)
  have HDW1 := Lib.hid (HD1.out.kept (w1 := w8) (fun k _ hk => b58.out.block k (by have := HZJ.out; have := HFM.out; omega)))
  have HPW := Lib.hid (OwnPs.kept (w1 := w8) HD2.out.parts.2.2 (fun k _ hk => b58.out.block k (by have := HZJ.out; omega)))
  have HBW6 := Lib.hid (block_at (W := w8) HB6.out)
  have HBWX := Lib.hid (block_at (W := w8) HBX.out)
  have HBWR := Lib.hid (block_at (W := w8) HBR.out)
  have HZW : Hid (wj.heap.size ≤ w8.heap.size) := by (show _ ≤ _; have := HZJ.out; have := b58.out.size; omega)
  have HBWB := Lib.hid ba8.out
  obtain ⟨WX, hWX⟩ : ∃ WX, WX = w8.setCell ⟨g7, 0, none⟩ (.slice U0 (putList d.now.st aa bb).length u0) := ⟨_, rfl⟩
  rw [← hWX]
  have hz5 : wa.heap.size ≤ g7 := HL7.out
  have H7 : Hid (WX.heap[g7]? = some (.cells #[.slice U0 (putList d.now.st aa bb).length u0, .int .i64 (d.now.step), .slice C2 (d.now.word).length k2, .slice C3 d.past.length k3] 28 (0, 0))) := by show _ = _; rw [hWX]; exact block_set HBW7.out 0 _
  have H6 := Lib.hid (block_far (p := ⟨g7, 0, none⟩) (u := (.slice U0 (putList d.now.st aa bb).length u0)) HBW6.out HNE.out)
  have HX := Lib.hid (block_far (p := ⟨g7, 0, none⟩) (u := (.slice U0 (putList d.now.st aa bb).length u0)) HBWX.out (by simp; omega))
  have HR := Lib.hid (block_far (p := ⟨g7, 0, none⟩) (u := (.slice U0 (putList d.now.st aa bb).length u0)) HBWR.out (by simp; omega))
  have H1 := Lib.hid (HDW1.out.set HBW7.out (by decide) (by decide) 0 (.slice U0 (putList d.now.st aa bb).length u0))
  have HP := Lib.hid (OwnPs.set HPW.out HBW7.out (by decide) (by decide) 0 (.slice U0 (putList d.now.st aa bb).length u0))
  rw [← hWX] at H6 HX HR H1 HP
  have HSZ : Hid (wj.heap.size ≤ WX.heap.size) := by show _ ≤ _; rw [hWX]; have := HZW.out; simp; omega
  have HBel : Bel wa WX := ⟨by rw [hWX]; exact HBWB.out.setCell (p := ⟨g7, 0, none⟩) hz5 _⟩
  have HS : Hid (OwnI WX 0 (.slice U0 (putList d.now.st aa bb).length u0) (putList d.now.st aa bb)) := (by show OwnI _ _ _ _; rw [hWX]; exact OwnI.set1 (OwnI.mono HU.out (Nat.zero_le _)) HBW7.out (by decide) 0 _)
  have HV : Hid (OwnI WX 0 (.slice C2 (d.now.word).length k2) (d.now.word)) := (by show OwnI _ _ _ _; rw [hWX]; exact OwnI.set1 (OwnI.mono (OwnI.at HD2.out.parts.2.1.1 (w1 := w8)) (Nat.zero_le _)) HBW7.out (by decide) 0 _)
  refine tail_any d ⟨0, aa, bb⟩ ⟨putList d.now.st aa bb, d.now.step, d.now.word⟩ w wa WX A0 A2 A3 c0 c2 c3 i0 i2 hs1 hs2 hs3 HSM HEN ba HBel hza g6 g7 m m wj.heap.size f1 f2 B0 B2 B3 U0 C2 C3 e0 e2 e3 u0 k2 k3 HX HR H6 H7 H1 (Nat.le_trans HFM.out HSZ.out) HS HV HP HFN HSZ HNE HL7 _ _ _ _ _ _ _ _ _ _ _ _ _ _ _ _ _ _ _ _ _ _ _ _ _ _ _ _ _ _ _ _ _ _ _ _ _ _ _ _ _ _ _ _ _ _ _ _ _ _ _ _ _ _ _ _ _ _ _ _ _ _ _ _ _ _ _ _ _ _ _ _ _ _ _ _ _ _ _ _ _ _ _ _ _ _ _ _ _ _ _ _ _ _ _ _ _ _ _ _ _ _ _ _ _ _ _ _ _ _ _ _ _ _ _ _ _ _ _ _ _ _ _ _ _ _ _ _ _ _ _ _ _ _ _ _ _ _ _ _ _ _ _ _ _ _ _ _ _ _ _ _ _ _ _ HOK.out (back_kind (by simp)) HMADE.out ?_ ?_
  · assumption
  · assumption

set_option maxHeartbeats 2000000 in
set_option maxRecDepth 1000000 in
theorem i_draw (d : Dk) (aa : Int) (w : World) (A0 A2 A3 : Option Addr) (c0 c2 c3 : Nat) (i0 : Ints w (.slice A0 d.now.st.length c0) d.now.st) (i2 : Ints w (.slice A2 d.now.word.length c2) d.now.word) (i3 : Pls w (.slice A3 d.past.length c3) d.past) (he : Env w) (hok : deskOk d = true)  :
    Calls Tryd.prog 8 #[.agg #[.slice A0 d.now.st.length c0, .int .i64 d.now.step, .slice A2 d.now.word.length c2, .slice A3 d.past.length c3], .agg #[.int .i64 2, .int .i64 aa, .int .i64 0]] w
      fun e w' => ∃ v', e = .returned (.tuple #[v', .bool (doOk d ⟨2, aa, 0⟩)]) ∧ (∃ f, DkW w' w.heap.size w'.heap.size f v' (doDesk d ⟨2, aa, 0⟩)) ∧ Below w.heap.size w w' := by
  have HEN := Lib.hid he
  have HOK := Lib.hid hok
  have hn : (!deskOk d) = false := by simp [hok]
  obtain ⟨hs1, hs2, hs3, hs4⟩ := desk_small hok
  have HSM := Lib.hid hs4
  have HMADE := Lib.hid (made_draw (p := d.now) (a := ⟨2, aa, 0⟩) rfl rfl)
  clear hok hs4 he 
  go_enter Tryd.func8, Tryd.ntmps8
  go_wp2_with fail
  refine (i_DeskOk _ d _ (DkI.mk i0.at i2.at i3.at)).mono ?_
  rintro e wa ⟨rfl, hba⟩
  haveI ba : Bel w wa := Bel.step (w := w) hba
  have BXa : wa.heap[w.heap.size]? = some (.cells #[.slice A0 d.now.st.length c0, .int .i64 d.now.step, .slice A2 d.now.word.length c2, .slice A3 d.past.length c3] 28 (0, 0)) := (hba.block _ (by simp <;> omega)).trans ((heap_alloc_old _ _ (by simp <;> omega)).trans ((heap_alloc_old _ _ (by simp)).trans (heap_alloc_new w _)))
  have BDa : wa.heap[w.heap.size + 1]? = some (.cells #[.int .i64 2, .int .i64 aa, .int .i64 0] 30 (0, 0)) := (hba.block _ (by simp <;> omega)).trans ((heap_alloc_old _ _ (by simp)).trans (by simpa using heap_alloc_new (w.alloc (.cells #[.slice A0 d.now.st.length c0, .int .i64 d.now.step, .slice A2 d.now.word.length c2, .slice A3 d.past.length c3] 28)) _))
  have BRa : wa.heap[w.heap.size + 2]? = some (.cells #[.slice none 0 0, .int .i64 0, .slice none 0 0, .slice none 0 0] 28 (0, 0)) := (hba.block _ (by simp)).trans (by simpa using heap_alloc_new ((w.alloc (.cells #[.slice A0 d.now.st.length c0, .int .i64 d.now.step, .slice A2 d.now.word.length c2, .slice A3 d.past.length c3] 28)).alloc (.cells #[.int .i64 2, .int .i64 aa, .int .i64 0] 30)) _)
  have hza : w.heap.size + 2 < wa.heap.size := by have := hba.size; simp at this; omega
  clear hba
  go_upto_region 3 with (fail)
  refine copies d w wa A0 A2 A3 c0 c2 c3 i0 i2 i3 hs1 hs2 hs3 HSM ba BXa _ _ _ _ _ _ _ _ _ (fun _ _ d _ _ h => (by cases d <;> exact h)) ?_
  rintro t wj hF
  obtain ⟨B0, e0, B2, e2, B3, e3, C0, k0, C2, k2, C3, k3, g6, g7⟩ := t
  obtain ⟨fbel, fb6, fb7, fne, fl6, fl7, m, f1, f2, fm0, fm, F1, F2⟩ := hF
  simp only [Two.v1, Two.v2] at *
  obtain ⟨W5, hW5⟩ : ∃ W5, W5 = set4 (set4 wj g6 (.slice B0 d.now.st.length e0) (.int .i64 d.now.step) (.slice B2 d.now.word.length e2) (.slice B3 d.past.length e3)) g7 (.slice C0 d.now.st.length k0) (.int .i64 d.now.step) (.slice C2 d.now.word.length k2) (.slice C3 d.past.length k3) := ⟨_, rfl⟩
  rw [← hW5]
  haveI bj : Bel wa wj := ⟨fbel⟩
  have b6 := block_far4 (block_set4 fb6 (.slice B0 d.now.st.length e0) (.int .i64 d.now.step) (.slice B2 d.now.word.length e2) (.slice B3 d.past.length e3)) fne (.slice C0 d.now.st.length k0) (.int .i64 d.now.step) (.slice C2 d.now.word.length k2) (.slice C3 d.past.length k3)
  have fb7' := block_far4 fb7 fne.symm (.slice B0 d.now.st.length e0) (.int .i64 d.now.step) (.slice B2 d.now.word.length e2) (.slice B3 d.past.length e3)
  have b7 := block_set4 fb7' (.slice C0 d.now.st.length k0) (.int .i64 d.now.step) (.slice C2 d.now.word.length k2) (.slice C3 d.past.length k3)
  have far : ∀ {k : Nat} {o : Obj}, k < wa.heap.size → wa.heap[k]? = some o → W5.heap[k]? = some o := fun {k o} hk ho => by
    rw [hW5]; exact block_far4 (block_far4 (block_at ho) (by omega) _ _ _ _) (by omega) _ _ _ _
  have BX := far (by omega) BXa
  have BD := far (by omega) BDa
  have BR := far (by omega) BRa
  have HD1 : Hid (DkO W5 wa.heap.size m f1 (.agg #[.slice B0 d.now.st.length e0, .int .i64 d.now.step, .slice B2 d.now.word.length e2, .slice B3 d.past.length e3]) d) := (by
    show DkO _ _ _ _ _ _
    rw [hW5]; exact DkO.set4 (DkO.set4 F1 fb6 (by decide) (by decide) _ _ _ _) fb7' (by decide) (by decide) _ _ _ _)
  have HD2 : Hid (DkO W5 m wj.heap.size f2 (.agg #[.slice C0 d.now.st.length k0, .int .i64 d.now.step, .slice C2 d.now.word.length k2, .slice C3 d.past.length k3]) d) := (by
    show DkO _ _ _ _ _ _
    rw [hW5]; exact DkO.set4 (DkO.set4 F2 fb6 (by decide) (by decide) _ _ _ _) fb7' (by decide) (by decide) _ _ _ _)
  haveI ba5 : Bel wa W5 := ⟨by rw [hW5]; exact below_set4 (below_set4 fbel fl6 _ _ _ _) fl7 _ _ _ _⟩
  haveI bw5 : Bel w W5 := Bel.step (w := w) ba5.out
  have HZJ : Hid (W5.heap.size = wj.heap.size) := by show _ = _; rw [hW5]; simp [size_set4]
  have HFM := Lib.hid fm; have HFN := Lib.hid fm0
  rw [← hW5] at b6 b7
  have HNE := Lib.hid fne; have HL6 := Lib.hid fl6; have HL7 := Lib.hid fl7
  clear hW5 far fb6 fb7 fb7' F1 F2 bj fbel fm fm0 BXa BDa BRa fne
  have HBX := Lib.hid BX; have HBD := Lib.hid BD; have HBR := Lib.hid BR; have HB6 := Lib.hid b6; have HB7 := Lib.hid b7
  clear BX BD BR b6 b7
  have d0 := block_cell HBD.out 0 rfl
  have d1 := block_cell HBD.out 1 rfl
  have d2 := block_cell HBD.out 2 rfl
  have n2 := block_cell HB7.out 2 rfl
  go_upto_region 19 with (fail)
  refine PrintLast.start_ (n := 12) (S := fun w' => w'.cell? ⟨g7, 2, none⟩ = some (.slice C2 d.now.word.length k2) ∧ w'.cell? ⟨w.heap.size + 1, 1, none⟩ = some (.int .i64 aa)) (ds := [11]) #[false, false, false, false, false, false, false, false, false, false, false, false] (by kernel_rfl) rfl rfl ⟨cell_at n2, cell_at d1⟩ (fun hHeld => ?_)
  refine PrintLast.pure_ (i := 0) (N := (some 88)) (v := ?_) (a' := ?_) #[true, false, false, false, false, false, false, false, false, false, false, false] rfl rfl (by kernel_rfl) (fun _ _ _ h => h) (Or.inl ⟨by rfl, ?_⟩) ?_ ?_
  rotate_left
  · (intro w'; go_simp; with_reducible rfl)
  rotate_left
  · (simp only [Act.put, List.setIfInBounds_toArray, List.set_cons_zero, List.set_cons_succ, PrintLast.i64_w, PrintLast.i32_w]; rfl)
  refine PrintLast.pure_ (i := 1) (N := (some 89)) (v := ?_) (a' := ?_) #[true, true, false, false, false, false, false, false, false, false, false, false] rfl rfl (by kernel_rfl) (fun _ _ _ h => h) (Or.inl ⟨by rfl, ?_⟩) ?_ ?_
  rotate_left
  · (intro w'; go_simp; with_reducible rfl)
  rotate_left
  · (simp only [Act.put, List.setIfInBounds_toArray, List.set_cons_zero, List.set_cons_succ, PrintLast.i64_w, PrintLast.i32_w]; rfl)
  refine PrintLast.pure_ (i := 2) (N := (some 90)) (v := ?_) (a' := ?_) #[true, true, true, false, false, false, false, false, false, false, false, false] rfl rfl (by kernel_rfl) (fun _ _ _ h => h) (Or.inl ⟨by rfl, ?_⟩) ?_ ?_
  rotate_left
  · (intro w'; go_simp; with_reducible rfl)
  rotate_left
  · (simp only [Act.put, List.setIfInBounds_toArray, List.set_cons_zero, List.set_cons_succ, PrintLast.i64_w, PrintLast.i32_w]; rfl)
  refine PrintLast.pure_ (i := 3) (N := (some 91)) (v := ?_) (a' := ?_) #[true, true, true, true, false, false, false, false, false, false, false, false] rfl rfl (by kernel_rfl) (fun _ _ _ h => h) (Or.inl ⟨by rfl, ?_⟩) ?_ ?_
  rotate_left
  · (intro w'; go_simp; with_reducible rfl)
  rotate_left
  · (simp only [Act.put, List.setIfInBounds_toArray, List.set_cons_zero, List.set_cons_succ, PrintLast.i64_w, PrintLast.i32_w]; rfl)
  refine PrintLast.pure_ (i := 5) (N := (some 93)) (v := ?_) (a' := ?_) #[true, true, true, true, false, true, false, false, false, false, false, false] rfl rfl (by kernel_rfl) (fun _ _ _ h => h) (Or.inl ⟨by rfl, ?_⟩) ?_ ?_
  rotate_left
  · (intro w'; go_simp; with_reducible rfl)
  rotate_left
  · (simp only [Act.put, List.setIfInBounds_toArray, List.set_cons_zero, List.set_cons_succ, PrintLast.i64_w, PrintLast.i32_w]; rfl)
  refine PrintLast.take_ (i := 4) (N := (some 92)) (v := ?_) (a' := ?_) #[true, true, true, true, true, true, false, false, false, false, false, false] rfl rfl (by kernel_rfl) (fun _ _ _ h => h) (Or.inl ⟨by rfl, ?_⟩) hHeld ?_ ?_
  rotate_left
  · (rintro w' ⟨s0, s1⟩; go_simp; with_reducible rfl)
  rotate_left
  · (simp only [Act.put, List.setIfInBounds_toArray, List.set_cons_zero, List.set_cons_succ, PrintLast.i64_w, PrintLast.i32_w]; rfl)
  refine PrintLast.take_ (i := 6) (N := (some 94)) (v := ?_) (a' := ?_) #[true, true, true, true, true, true, true, false, false, false, false, false] rfl rfl (by kernel_rfl) (fun _ _ _ h => h) (Or.inl ⟨by rfl, ?_⟩) hHeld ?_ ?_
  rotate_left
  · (rintro w' ⟨s0, s1⟩; go_simp; with_reducible rfl)
  rotate_left
  · (simp only [Act.put, List.setIfInBounds_toArray, List.set_cons_zero, List.set_cons_succ, PrintLast.i64_w, PrintLast.i32_w]; rfl)
  refine PrintLast.one_ (i := 7) (N := (some 95)) #[true, true, true, true, true, true, true, true, false, false, false, false] rfl rfl (by kernel_rfl) (by decide) (fun K hK => ?_)
  refine PrintLast.value_ (w1 := ?_) (v := ?_) (by rfl) rfl ?_ ?_
  rotate_left 2
  · (go_simp; constructor <;> rfl)
  refine hK.out _ _ ⟨cell_at n2, cell_at d1⟩ (fun hHeld => ?_)
  clear hK K
  refine PrintLast.norm_ (a' := ?_) ?_ ?_
  rotate_left
  · (show Act.put _ (some 95) _ = _; simp only [Act.put, List.setIfInBounds_toArray, List.set_cons_zero, List.set_cons_succ, PrintLast.i64_w, PrintLast.i32_w]; rfl)
  refine PrintLast.one_ (i := 8) (N := (some 96)) #[true, true, true, true, true, true, true, true, true, false, false, false] rfl rfl (by kernel_rfl) (by decide) (fun K hK => ?_)
  have hal : Bel W5 (W5.drew.alloc (.cells #[.int .i64 aa] 3)) := Bel.alloc
  obtain ⟨⟨hT0, hT0b⟩, ⟨hT2, hT2b⟩, hPs⟩ := HD2.out.parts
  have hown : OwnI _ m (.slice C2 d.now.word.length k2) d.now.word := OwnI.at hT2 (b := hal)
  have hown0 := OwnI.at hT0 (b := hal)
  refine app_step eI (by rfl) _ _ (by rfl) m (.slice C2 d.now.word.length k2) d.now.word.length (nums d.now.word) (by rfl) hown W5.drew.heap.size 1 1 #[.int .i64 aa] (by rfl) (heap_alloc_new W5.drew _) (by rfl) (by simp [Value.oneCell']) (by omega) (by omega) (by omega) (by have := HFM.out; have := HZJ.out; simp; omega) ?_
  intro g cap w3 hown3 hgr hat
  have hzz : ((W5.alloc (.cells #[.int .i64 aa] 3)).drew).heap.size = (W5.drew.alloc (.cells #[.int .i64 aa] 3)).heap.size := rfl
  have HBW7 := Lib.hid (block_other (block_at (b := hal) HB7.out) hown hgr (by decide))
  have HBW6 := Lib.hid (block_other (block_at (b := hal) HB6.out) hown hgr (by decide))
  have HBWX := Lib.hid (block_other (block_at (b := hal) HBX.out) hown hgr (by decide))
  have HBWR := Lib.hid (block_other (block_at (b := hal) HBR.out) hown hgr (by decide))
  have HBWD := Lib.hid (block_other (block_at (b := hal) HBD.out) hown hgr (by decide))
  have hlo2 : ∀ i, (Value.slice C2 d.now.word.length k2).ownBlock = some i → m ≤ i := fun i e => (World.ownsRow.lt hT2 i e).1
  have HDW1 := Lib.hid (HD1.out.kept (w1 := w3) (fun k _ hk => (hgr.block _ (by have := HZJ.out; have := HFM.out; have := hal.out.size; omega) (fun e => by have := hlo2 _ e.symm; omega)).trans (hal.out.block k (by have := HZJ.out; have := HFM.out; omega))))
  have hPal := OwnPs.kept (w1 := W5.drew.alloc (.cells #[.int .i64 aa] 3)) hPs (fun k _ hk => hal.out.block k (by have := HZJ.out; omega))
  have HPW := Lib.hid (ownPs_apart (t := 1) hPal ⟨hown, hT2b⟩ hgr (by decide))
  have HZW : Hid (wj.heap.size ≤ w3.heap.size) := by (show _ ≤ _; have := HZJ.out; have := hal.out.size; have := hgr.size; omega)
  have HBWB := Lib.hid (Below.grown (ba5.out.trans (hal.out.mono ba5.out.size)) hgr (by have := HZJ.out; have := ba5.out.size; have := hal.out.size; omega) (fun k e => by have := hlo2 k e; have := HFN.out; omega))
  have HST := Lib.hid (World.ownsRow.kept hown0 hgr (by
    cases hv : (Value.slice C0 d.now.st.length k0).ownBlock with
    | none => exact .inl rfl
    | some k => exact .inr (fun e2 => by have h1 := (hT0b k hv).1; have h2 := (hT2b k e2.symm).1; omega)))
  have HWD := Lib.hid (OwnI.push hown3 rfl)
  have n2' := block_cell HBW7.out 2 rfl
  have b2' := block_frozen HBW7.out 2
  refine hK.out _ _ ⟨n2', block_cell HBWD.out 1 rfl⟩ (fun hHeld => ?_)
  clear hown hown0 hown3 hgr hat hzz hPal hlo2 hT0 hT0b hT2 hT2b hPs hal n2
  clear hK K
  refine PrintLast.norm_ (a' := ?_) ?_ ?_
  rotate_left
  · (show Act.put _ (some 96) _ = _; simp only [Act.put, List.setIfInBounds_toArray, List.set_cons_zero, List.set_cons_succ, PrintLast.i64_w, PrintLast.i32_w]; rfl)
  refine PrintLast.pure_ (i := 9) (N := (some 97)) (v := ?_) (a' := ?_) #[true, true, true, true, true, true, true, true, true, true, false, false] rfl rfl (by kernel_rfl) (fun _ _ _ h => h) (Or.inl ⟨by rfl, ?_⟩) ?_ ?_
  rotate_left
  · (intro w'; go_simp; with_reducible rfl)
  rotate_left
  · (simp only [Act.put, List.setIfInBounds_toArray, List.set_cons_zero, List.set_cons_succ, PrintLast.i64_w, PrintLast.i32_w]; rfl)
  refine PrintLast.pure_ (i := 10) (N := (some 98)) (v := ?_) (a' := ?_) #[true, true, true, true, true, true, true, true, true, true, true, false] rfl rfl (by kernel_rfl) (fun _ _ _ h => h) (Or.inl ⟨by rfl, ?_⟩) ?_ ?_
  rotate_left
  · (intro w'; go_simp; with_reducible rfl)
  rotate_left
  · (simp only [Act.put, List.setIfInBounds_toArray, List.set_cons_zero, List.set_cons_succ, PrintLast.i64_w, PrintLast.i32_w]; rfl)
  refine PrintLast.last_ (i := 11) (N := none) #[true, true, true, true, true, true, true, true, true, true, true, true] rfl rfl (by kernel_rfl) (by decide) (fun K hK => ?_)
  refine PrintLast.skip_ (w1 := ?_) (by rfl) rfl ?_ ?_
  rotate_left
  · (go_simp; rfl)
  refine hK.out _ _ ?_
  clear hK K
  refine PrintLast.done_ (by kernel_rfl) ?_
  clear n2' b2' d0 d1 d2
  go_upto_region 27 with (fail)
  rw [show d.now.word.length + 1 = (d.now.word ++ [aa]).length by simp] at HWD ⊢
  obtain ⟨WX, hWX⟩ : ∃ WX, WX = w3.setCell ⟨g7, 2, none⟩ (.slice (some ⟨g, 0, none⟩) (d.now.word ++ [aa]).length cap) := ⟨_, rfl⟩
  rw [← hWX]
  have hz5 : wa.heap.size ≤ g7 := HL7.out
  have H7 : Hid (WX.heap[g7]? = some (.cells #[.slice C0 (d.now.st).length k0, .int .i64 (d.now.step), .slice (some ⟨g, 0, none⟩) ((d.now.word ++ [aa])).length cap, .slice C3 d.past.length k3] 28 (0, 0))) := by show _ = _; rw [hWX]; exact block_set HBW7.out 2 _
  have H6 := Lib.hid (block_far (p := ⟨g7, 2, none⟩) (u := (.slice (some ⟨g, 0, none⟩) (d.now.word ++ [aa]).length cap)) HBW6.out HNE.out)
  have HX := Lib.hid (block_far (p := ⟨g7, 2, none⟩) (u := (.slice (some ⟨g, 0, none⟩) (d.now.word ++ [aa]).length cap)) HBWX.out (by simp; omega))
  have HR := Lib.hid (block_far (p := ⟨g7, 2, none⟩) (u := (.slice (some ⟨g, 0, none⟩) (d.now.word ++ [aa]).length cap)) HBWR.out (by simp; omega))
  have H1 := Lib.hid (HDW1.out.set HBW7.out (by decide) (by decide) 2 (.slice (some ⟨g, 0, none⟩) (d.now.word ++ [aa]).length cap))
  have HP := Lib.hid (OwnPs.set HPW.out HBW7.out (by decide) (by decide) 2 (.slice (some ⟨g, 0, none⟩) (d.now.word ++ [aa]).length cap))
  rw [← hWX] at H6 HX HR H1 HP
  have HSZ : Hid (wj.heap.size ≤ WX.heap.size) := by show _ ≤ _; rw [hWX]; have := HZW.out; simp; omega
  have HBel : Bel wa WX := ⟨by rw [hWX]; exact HBWB.out.setCell (p := ⟨g7, 2, none⟩) hz5 _⟩
  have HS : Hid (OwnI WX 0 (.slice C0 (d.now.st).length k0) (d.now.st)) := (by show OwnI _ _ _ _; rw [hWX]; exact OwnI.set1 (OwnI.mono HST.out (Nat.zero_le _)) HBW7.out (by decide) 2 _)
  have HV : Hid (OwnI WX 0 (.slice (some ⟨g, 0, none⟩) ((d.now.word ++ [aa])).length cap) ((d.now.word ++ [aa]))) := (by show OwnI _ _ _ _; rw [hWX]; exact OwnI.set1 (OwnI.mono HWD.out (Nat.zero_le _)) HBW7.out (by decide) 2 _)
  refine tail_any d ⟨2, aa, 0⟩ ⟨d.now.st, d.now.step, (d.now.word ++ [aa])⟩ w wa WX A0 A2 A3 c0 c2 c3 i0 i2 hs1 hs2 hs3 HSM HEN ba HBel hza g6 g7 m m wj.heap.size f1 f2 B0 B2 B3 C0 (some ⟨g, 0, none⟩) C3 e0 e2 e3 k0 cap k3 HX HR H6 H7 H1 (Nat.le_trans HFM.out HSZ.out) HS HV HP HFN HSZ HNE HL7 _ _ _ _ _ _ _ _ _ _ _ _ _ _ _ _ _ _ _ _ _ _ _ _ _ _ _ _ _ _ _ _ _ _ _ _ _ _ _ _ _ _ _ _ _ _ _ _ _ _ _ _ _ _ _ _ _ _ _ _ _ _ _ _ _ _ _ _ _ _ _ _ _ _ _ _ _ _ _ _ _ _ _ _ _ _ _ _ _ _ _ _ _ _ _ _ _ _ _ _ _ _ _ _ _ _ _ _ _ _ _ _ _ _ _ _ _ _ _ _ _ _ _ _ _ _ _ _ _ _ _ _ _ _ _ _ _ _ _ _ _ _ _ _ _ _ _ _ _ _ _ _ _ _ _ HOK.out (back_kind (by simp)) HMADE.out ?_ ?_
  · assumption
  · assumption
theorem i_DeskDo (v : Value) (d : Dk) (a : Dd) (w : World) (h : DkI w v d) (he : Env w) :
    Calls Tryd.prog 8 #[v, ddV a] w fun e w' => ∃ v', e = .returned (.tuple #[v', .bool (doOk d a)]) ∧ (∃ f, DkW w' w.heap.size w'.heap.size f v' (doDesk d a)) ∧ Below w.heap.size w w' := by
  obtain ⟨A0, c0, A2, c2, A3, c3, rfl, i0, i2, i3⟩ := h.open
  by_cases hok : deskOk d = true
  · obtain ⟨kd, aa, bb⟩ := a
    by_cases k0 : kd = 0
    · subst k0
      by_cases hp : putFine d.now.st aa bb = true
      · by_cases hw : d.now.word.length = 0
        · exact i_put d aa bb w A0 A2 A3 c0 c2 c3 i0 i2 i3 he hok hp hw
        · exact i_put_word d aa bb w A0 A2 A3 c0 c2 c3 i0 i2 i3 hok hp (by omega)
      · exact i_put_no d aa bb w A0 A2 A3 c0 c2 c3 i0 i2 i3 hok (eq_false_of_ne_true hp)
    · by_cases hb : bb = 0
      · subst hb
        by_cases k1 : kd = 1
        · subst k1
          by_cases hw : d.now.word.length = 0
          · exact i_step d aa w A0 A2 A3 c0 c2 c3 i0 i2 i3 he hok hw
          · exact i_step_word d aa w A0 A2 A3 c0 c2 c3 i0 i2 i3 hok (by omega)
        · by_cases k2 : kd = 2
          · subst k2
            exact i_draw d aa w A0 A2 A3 c0 c2 c3 i0 i2 i3 he hok
          · by_cases kn : kd < 0
            · exact i_do_neg d kd aa w A0 A2 A3 c0 c2 c3 i0 i2 i3 hok kn
            · by_cases ha : aa = 0
              · subst ha
                by_cases k3 : kd = 3
                · subst k3
                  exact i_again d w A0 A2 A3 c0 c2 c3 i0 i2 i3 he hok
                · by_cases k4 : kd = 4
                  · subst k4
                    by_cases hp : 0 < d.past.length
                    · exact i_do_back d w A0 A2 A3 c0 c2 c3 i0 i2 i3 hok hp
                    · exact i_back_none d w A0 A2 A3 c0 c2 c3 i0 i2 i3 hok hp
                  · exact i_do_big d kd w A0 A2 A3 c0 c2 c3 i0 i2 i3 hok (by omega)
              · exact i_do_a d kd aa w A0 A2 A3 c0 c2 c3 i0 i2 i3 hok (by omega) ha
      · exact i_do_b d ⟨kd, aa, bb⟩ w A0 A2 A3 c0 c2 c3 i0 i2 i3 hok k0 hb
  · exact i_do_none d a w A0 A2 A3 c0 c2 c3 i0 i2 i3 (eq_false_of_ne_true hok)
end Go.Proofs.YtpfncjaclgcbnaaDoor.Ub
