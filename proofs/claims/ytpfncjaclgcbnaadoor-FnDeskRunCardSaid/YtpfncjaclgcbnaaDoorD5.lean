/- Contract of what draws deeds. -/
import Derived.Test.YtpfncjaclgcbnaaDoorD4
import Derived.Test.YtpfncjaclgcbnaaDoorF19
set_option linter.unusedVariables false
set_option linter.unusedSimpArgs false
namespace Go.Proofs.YtpfncjaclgcbnaaDoor.Ub
open Go.RowKit Go.Proofs.YtpfncjaclgcbnaaDoorW

def DeedP (g P : Nat) (w : World) (e : Ending) (w' : World) : Prop := ∃ a : Dd, e = .returned (ddV a) ∧ Rd w' g (P + 10) ∧ w.grownBy w' (some g)
noncomputable def t10 : Code := (Tryd.f33.body.bind (tailAt 10)).getD .skip
noncomputable def r10 : Code := fstC (fstC t10)
noncomputable def c10 : Code := sndC (fstC t10)
noncomputable def d10 : Code := sndC t10
theorem rd_set3 {w : World} {g P ga : Nat} (h : Rd w g P) (hg : g < ga) (u0 u1 u2 : Value) : Rd (((w.setCell ⟨ga, 0, none⟩ u0).setCell ⟨ga, 1, none⟩ u1).setCell ⟨ga, 2, none⟩ u2) g P :=
  h.kept (fun i hi => by rw [Below.heap_setCell _ _ _ _ (by simp; omega), Below.heap_setCell _ _ _ _ (by simp; omega), Below.heap_setCell _ _ _ _ (by simp; omega)])
theorem rd_set1 {w : World} {g P ga : Nat} (h : Rd w g P) (hg : g < ga) (j : Nat) (u : Value) : Rd (w.setCell ⟨ga, j, none⟩ u) g P :=
  h.kept (fun i hi => Below.heap_setCell _ _ _ _ (by simp; omega))

set_option maxHeartbeats 4000000 in
set_option maxRecDepth 1000000 in
theorem deed_tail (g P P0 : Nat) (w W : World) (ga gr : Nat) (x y z : Int) (hP : P + 3 ≤ P0 + 10) (hP0 : P0 ≤ 90000) (hg : g < w.heap.size) (hr : w.heap.size ≤ gr) (ha : w.heap.size ≤ ga) (hne : gr ≠ ga) (HBA : Hid (W.heap[ga]? = some (.cells #[.int .i64 x, .int .i64 y, .int .i64 z] 30 (0, 0))))
    (HBR : Hid (W.heap[gr]? = some (.cells #[.int .i64 0, .int .i64 0, .int .i64 0] 30 (0, 0)))) (HR : Hid (Rd W g P)) (HG : Hid (Gr g w W))
    (y1 y2 y3 y6 y7 y8 y9 y10 y11 y12 y13 y14 y15 y16 y17 y18 y19 y20 y21 y22 y23 y24 y25 y26 y27 y28 y29 y30 y31 y32 y33 y34 y35 y36 y37 y38 y39 y40 y41 y42 y43 y44 y45 y46 y47 y48 y49 y50 y51 y52 y53 y54 y55 y56 y57 y58 y59 y60 : Value) (K1 K2 : Act → World → Prop)
    (h1 : ∀ a' w', Code.wp Tryd.prog c10 (Exit.then K2 (bodyPost Tryd.prog Tryd.f33 (DeedP g P0 w))) a' w' → K1 a' w')
    (h2 : ∀ a' w', Code.wp Tryd.prog d10 (bodyPost Tryd.prog Tryd.f33 (DeedP g P0 w)) a' w' → K2 a' w') :
    Code.wp Tryd.prog r10 (Exit.then K1 (Exit.then K2 (bodyPost Tryd.prog Tryd.f33 (DeedP g P0 w)))) ⟨#[.pointer (some ⟨g, 0, none⟩), y1, y2, y3, .pointer (some ⟨gr, 0, none⟩), .pointer (some ⟨ga, 0, none⟩), y6, y7, y8, y9, y10, y11, y12, y13, y14, y15, y16, y17, y18, y19, y20, y21, y22, y23, y24, y25, y26, y27, y28, y29, y30, y31, y32, y33, y34, y35, y36, y37, y38, y39, y40, y41, y42, y43, y44, y45, y46, y47, y48, y49, y50, y51, y52, y53, y54, y55, y56, y57, y58, y59, y60], []⟩ W := by
  conv => arg 2; whnf
  conv at h1 => enter [a', w', 1]; arg 2; whnf
  conv at h2 => enter [a', w', 1]; arg 2; whnf
  go_wp2_with fail
  refine (s_odd g P 40 _ HR.out (by omega) (by omega) (by omega)).mono ?_
  rintro e w1 ⟨b, rfl, hR1, hG1⟩
  have hga : ga ≠ g := by omega
  have hgr : gr ≠ g := by omega
  replace HBA := Lib.hid ((⟨hG1⟩ : Gr g W w1).block HBA.out hga)
  replace HBR := Lib.hid ((⟨hG1⟩ : Gr g W w1).block HBR.out hgr)
  replace HG := Lib.hid (HG.out.trans ⟨hG1⟩)
  have HR := Lib.hid hR1
  clear hR1 hG1
  cases b with
  | false =>
    have a0 := block_cell HBA.out 0 rfl
    have a1 := block_cell HBA.out 1 rfl
    have a2 := block_cell HBA.out 2 rfl
    have q0 := block_cell HBR.out 0 rfl
    have q1 := block_cell HBR.out 1 rfl
    have q2 := block_cell HBR.out 2 rfl
    have f0 := block_frozen HBR.out 0
    have f1 := block_frozen HBR.out 1
    have f2 := block_frozen HBR.out 2
    have HFR := Lib.hid (rd_set3 HR.out (by omega : g < gr) (.int .i64 x) (.int .i64 y) (.int .i64 z))
    have HFG := Lib.hid (((HG.out.set (p := ⟨gr, 0, none⟩) hr (.int .i64 x)).set (p := ⟨gr, 1, none⟩) hr (.int .i64 y)).set (p := ⟨gr, 2, none⟩) hr (.int .i64 z))
    go_wp2
    exact bodyPost_ret (v := .agg #[.int .i64 x, .int .i64 y, .int .i64 z]) (by simp [results, Tryd.results33, go_sem, q0, q1, q2]) rfl ⟨⟨x, y, z⟩, rfl, HFR.out.mono (by omega), HFG.out.out⟩
  | true =>
    go_wp2_with fail
    refine (s_pick g _ 2 _ HR.out (by omega) (by omega) (by omega)).mono ?_
    rintro e w2 ⟨k, rfl, hk, hR2, hG2⟩
    replace HBA := Lib.hid ((⟨hG2⟩ : Gr g w1 w2).block HBA.out hga)
    replace HBR := Lib.hid ((⟨hG2⟩ : Gr g w1 w2).block HBR.out hgr)
    replace HG := Lib.hid (HG.out.trans ⟨hG2⟩)
    replace HR := Lib.hid hR2
    have hk2 : (k : Int) < 2 := hk (by omega)
    clear hR2 hG2 hk
    have hk01 : k = 0 ∨ k = 1 := by omega
    rcases hk01 with rfl | rfl
    · go_wp2_with fail
      obtain ⟨w3, hw3⟩ : ∃ w3, w3 = w2.alloc (.cells #[.int .i64 (-100), .int .i64 100] 3) := ⟨_, rfl⟩
      rw [← hw3]
      have hb3 : Below w2.heap.size w2 w3 := by rw [hw3]; exact (Bel.alloc (w := w2) (W := w2)).out
      have BT := heap_alloc_new w2 (.cells #[.int .i64 (-100), .int .i64 100] 3)
      rw [← hw3] at BT
      refine (s_pick g _ 2 _ (HR.out.bel hb3) (by omega) (by omega) (by omega)).mono ?_
      rintro e w4 ⟨k, rfl, hk, hR4, hG4⟩
      have hG34 : Gr g w2 w4 := (Gr.of_bel hb3).trans ⟨hG4⟩
      have BT4 := (⟨hG4⟩ : Gr g w3 w4).block BT (by have := HR.out.lt; omega)
      replace HBA := Lib.hid (hG34.block HBA.out hga)
      replace HBR := Lib.hid (hG34.block HBR.out hgr)
      replace HG := Lib.hid (HG.out.trans hG34)
      replace HR := Lib.hid hR4
      have hk2 : (k : Int) < 2 := hk (by omega)
      obtain ⟨tv, htv⟩ : ∃ tv : Int, w4.cell? ⟨w2.heap.size, k, none⟩ = some (.int .i64 tv) := by
        have hk01 : k = 0 ∨ k = 1 := by omega
        rcases hk01 with rfl | rfl <;> exact ⟨_, block_cell BT4 _ rfl⟩
      clear hR4 hG4 hk hG34 BT BT4 hb3 hw3
      have a0 := block_cell HBA.out 0 rfl
      have a1 := block_cell HBA.out 1 rfl
      have a2 := block_cell HBA.out 2 rfl
      have f1 := block_frozen HBA.out 1
      go_upto_region 15 with (fail)
      clear a0 a1 a2 f1 htv
      obtain ⟨W5, hW5⟩ : ∃ W5, W5 = w4.setCell ⟨ga, 1, none⟩ (.int .i64 tv) := ⟨_, rfl⟩
      rw [← hW5]
      replace HR := Lib.hid (rd_set1 HR.out (by omega : g < ga) 1 (.int .i64 tv))
      replace HBR := Lib.hid (block_far (p := ⟨ga, 1, none⟩) (u := .int .i64 tv) HBR.out hne)
      replace HG := Lib.hid (HG.out.set (p := ⟨ga, 1, none⟩) ha (.int .i64 tv))
      replace HBA := Lib.hid (block_set HBA.out 1 (.int .i64 tv))
      rw [← hW5] at HR HBR HG HBA
      clear hW5
      have a0 : W5.cell? ⟨ga, 0, none⟩ = some (.int .i64 x) := block_cell HBA.out 0 rfl
      have a1 : W5.cell? ⟨ga, 1, none⟩ = some (.int .i64 tv) := block_cell HBA.out 1 rfl
      have a2 : W5.cell? ⟨ga, 2, none⟩ = some (.int .i64 z) := block_cell HBA.out 2 rfl
      have q0 := block_cell HBR.out 0 rfl
      have q1 := block_cell HBR.out 1 rfl
      have q2 := block_cell HBR.out 2 rfl
      have f0 := block_frozen HBR.out 0
      have f1 := block_frozen HBR.out 1
      have f2 := block_frozen HBR.out 2
      have HFR := Lib.hid (rd_set3 HR.out (by omega : g < gr) (.int .i64 x) (.int .i64 tv) (.int .i64 z))
      have HFG := Lib.hid (((HG.out.set (p := ⟨gr, 0, none⟩) hr (.int .i64 x)).set (p := ⟨gr, 1, none⟩) hr (.int .i64 tv)).set (p := ⟨gr, 2, none⟩) hr (.int .i64 z))
      go_wp2
      exact bodyPost_ret (v := .agg #[.int .i64 x, .int .i64 tv, .int .i64 z]) (by simp [results, Tryd.results33, go_sem, q0, q1, q2]) rfl ⟨⟨x, tv, z⟩, rfl, HFR.out.mono (by omega), HFG.out.out⟩
    · have a0 := block_cell HBA.out 0 rfl
      have a1 := block_cell HBA.out 1 rfl
      have a2 := block_cell HBA.out 2 rfl
      have f2 := block_frozen HBA.out 2
      go_upto_region 15 with (fail)
      clear a0 a1 a2 f2
      obtain ⟨W5, hW5⟩ : ∃ W5, W5 = w2.setCell ⟨ga, 2, none⟩ (.int .i64 99) := ⟨_, rfl⟩
      rw [← hW5]
      replace HR := Lib.hid (rd_set1 HR.out (by omega : g < ga) 2 (.int .i64 99))
      replace HBR := Lib.hid (block_far (p := ⟨ga, 2, none⟩) (u := .int .i64 99) HBR.out hne)
      replace HG := Lib.hid (HG.out.set (p := ⟨ga, 2, none⟩) ha (.int .i64 99))
      replace HBA := Lib.hid (block_set HBA.out 2 (.int .i64 99))
      rw [← hW5] at HR HBR HG HBA
      clear hW5
      have a0 : W5.cell? ⟨ga, 0, none⟩ = some (.int .i64 x) := block_cell HBA.out 0 rfl
      have a1 : W5.cell? ⟨ga, 1, none⟩ = some (.int .i64 y) := block_cell HBA.out 1 rfl
      have a2 : W5.cell? ⟨ga, 2, none⟩ = some (.int .i64 99) := block_cell HBA.out 2 rfl
      have q0 := block_cell HBR.out 0 rfl
      have q1 := block_cell HBR.out 1 rfl
      have q2 := block_cell HBR.out 2 rfl
      have f0 := block_frozen HBR.out 0
      have f1 := block_frozen HBR.out 1
      have f2 := block_frozen HBR.out 2
      have HFR := Lib.hid (rd_set3 HR.out (by omega : g < gr) (.int .i64 x) (.int .i64 y) (.int .i64 99))
      have HFG := Lib.hid (((HG.out.set (p := ⟨gr, 0, none⟩) hr (.int .i64 x)).set (p := ⟨gr, 1, none⟩) hr (.int .i64 y)).set (p := ⟨gr, 2, none⟩) hr (.int .i64 99))
      go_wp2
      exact bodyPost_ret (v := .agg #[.int .i64 x, .int .i64 y, .int .i64 99]) (by simp [results, Tryd.results33, go_sem, q0, q1, q2]) rfl ⟨⟨x, y, 99⟩, rfl, HFR.out.mono (by omega), HFG.out.out⟩


set_option maxHeartbeats 4000000 in
set_option maxRecDepth 1000000 in
theorem s_l20Deed (g P n n2 c0 c2 : Nat) (A0 A2 : Option Addr) (st : Int) (w : World) (h : Rd w g P) (hP : P ≤ 80000) (hn : n ≤ 1000) :
    Calls Tryd.prog 33 #[.pointer (some ⟨g, 0, none⟩), .agg #[.slice A0 n c0, .int .i64 st, .slice A2 n2 c2]] w (DeedP g P w) := by
  have hgw : g < w.heap.size := h.lt
  obtain ⟨W0, hW0⟩ : ∃ W0, W0 = (w.alloc (.cells #[.slice A0 n c0, .int .i64 st, .slice A2 n2 c2] 25)).alloc (.cells #[.int .i64 0, .int .i64 0, .int .i64 0] 30) := ⟨_, rfl⟩
  have hb0 : Below w.heap.size w W0 := by rw [hW0]; exact ((Below.refl _ _).alloc (Nat.le_refl _) _).alloc (by simp) _
  have BP0 : W0.heap[w.heap.size]? = some (.cells #[.slice A0 n c0, .int .i64 st, .slice A2 n2 c2] 25 (0, 0)) := by rw [hW0]; exact (heap_alloc_old _ _ (by simp)).trans (heap_alloc_new w _)
  have BR0 : W0.heap[w.heap.size + 1]? = some (.cells #[.int .i64 0, .int .i64 0, .int .i64 0] 30 (0, 0)) := by rw [hW0]; simpa using heap_alloc_new (w.alloc (.cells #[.slice A0 n c0, .int .i64 st, .slice A2 n2 c2] 25)) _
  have hz0 : W0.heap.size = w.heap.size + 2 := by rw [hW0]; simp
  have hR0 : Rd W0 g P := h.bel hb0
  go_enter Tryd.func33, Tryd.ntmps33
  go_upto_region 1 with (fail)
  rw [← hW0]
  clear hW0
  refine deed1 g P W0 hR0 (by omega) _ _ _ _ _ _ _ _ _ _ _ _ _ _ _ _ _ _ _ _ _ _ _ _ _ _ _ _ _ _ _ _ _ _ _ _ _ _ _ _ _ _ _ _ _ _ _ _ _ _ _ _ _ _ _ _ _ _ _ _ _ (fun _ _ d _ _ h => (by cases d <;> exact h)) ?_
  intro ga kd v6 v7 v8 v9 v10 v11 v12 v13 v14 v15 v16 w1 hga hba hR1 hG1
  have HGA : Hid (w.heap.size ≤ ga) := by show _ ≤ _; omega
  have HGG : Hid (g < ga) := by show _ < _; omega
  have HNE : Hid (w.heap.size + 1 ≠ ga) := by show _ ≠ _; omega
  have HPA : Hid (w.heap.size ≠ ga) := by show _ ≠ _; omega
  have HNA : Hid (ga ≠ g) := by show _ ≠ _; omega
  have HNP : Hid (w.heap.size ≠ g) := by show _ ≠ _; omega
  have HNR : Hid (w.heap.size + 1 ≠ g) := by show _ ≠ _; omega
  have HBA := Lib.hid hba
  have HBP := Lib.hid (hG1.block BP0 HNP.out)
  have HBR := Lib.hid (hG1.block BR0 HNR.out)
  have HR := Lib.hid hR1
  have HG := Lib.hid ((Gr.of_bel hb0).trans hG1)
  clear hba BP0 BR0 hR1 hG1 hb0 hz0 hR0 h hga
  by_cases k0 : kd = 0
  · subst k0
    have a0 := block_cell HBA.out 0 rfl
    have a1 := block_cell HBA.out 1 rfl
    have a2 := block_cell HBA.out 2 rfl
    have e1 := block_frozen HBA.out 1
    have e2 := block_frozen HBA.out 2
    have p0 := block_cell HBP.out 0 rfl
    go_wp2_with fail
    refine (s_pick g _ (max (n : Int) 1) _ HR.out (by omega) (by omega) (by omega)).mono ?_
    rintro e w2 ⟨x, rfl, _, hR2, hG2⟩
    clear a0 a1 a2 e1 e2 p0
    replace HBA := Lib.hid ((⟨hG2⟩ : Gr g w1 w2).block HBA.out HNA.out)
    replace HBP := Lib.hid ((⟨hG2⟩ : Gr g w1 w2).block HBP.out HNP.out)
    replace HBR := Lib.hid ((⟨hG2⟩ : Gr g w1 w2).block HBR.out HNR.out)
    replace HG := Lib.hid (HG.out.trans ⟨hG2⟩)
    replace HR := Lib.hid hR2
    clear hR2 hG2
    have a0 := block_cell HBA.out 0 rfl
    have a1 := block_cell HBA.out 1 rfl
    have a2 := block_cell HBA.out 2 rfl
    have e1 := block_frozen HBA.out 1
    have e2 := block_frozen HBA.out 2
    have p0 := block_cell HBP.out 0 rfl
    go_upto_region 5 with (fail)
    obtain ⟨w3, hW5⟩ : ∃ W5, W5 = w2.setCell ⟨ga, 1, none⟩ (.int .i64 x) := ⟨_, rfl⟩
    rw [← hW5]
    replace HR := Lib.hid (rd_set1 HR.out HGG.out 1 (.int .i64 x))
    replace HBR := Lib.hid (block_far (p := ⟨ga, 1, none⟩) (u := (.int .i64 x)) HBR.out HNE.out)
    replace HBP := Lib.hid (block_far (p := ⟨ga, 1, none⟩) (u := (.int .i64 x)) HBP.out HPA.out)
    replace HG := Lib.hid (HG.out.set (p := ⟨ga, 1, none⟩) HGA.out (.int .i64 x))
    replace HBA := Lib.hid (block_set HBA.out 1 (.int .i64 x))
    rw [← hW5] at HR HBR HBP HG HBA
    clear hW5 a0 a1 a2 e1 e2 p0
    have a0 : w3.cell? ⟨ga, 0, none⟩ = some (.int .i64 0) := block_cell HBA.out 0 rfl
    have a1 : w3.cell? ⟨ga, 1, none⟩ = some (.int .i64 x) := block_cell HBA.out 1 rfl
    have a2 : w3.cell? ⟨ga, 2, none⟩ = some (.int .i64 0) := block_cell HBA.out 2 rfl
    have e1 := block_frozen HBA.out 1
    have e2 := block_frozen HBA.out 2
    have p0 := block_cell HBP.out 0 rfl
    go_wp2_with fail
    refine (s_pick g _ 7 _ HR.out (by omega) (by omega) (by omega)).mono ?_
    rintro e w4 ⟨y, rfl, hy, hR2, hG2⟩
    have hy7 : (y : Int) < 7 := hy (by omega)
    clear a0 a1 a2 e1 e2 p0 hy
    replace HBA := Lib.hid ((⟨hG2⟩ : Gr g w3 w4).block HBA.out HNA.out)
    replace HBP := Lib.hid ((⟨hG2⟩ : Gr g w3 w4).block HBP.out HNP.out)
    replace HBR := Lib.hid ((⟨hG2⟩ : Gr g w3 w4).block HBR.out HNR.out)
    replace HG := Lib.hid (HG.out.trans ⟨hG2⟩)
    replace HR := Lib.hid hR2
    clear hR2 hG2
    have a0 := block_cell HBA.out 0 rfl
    have a1 := block_cell HBA.out 1 rfl
    have a2 := block_cell HBA.out 2 rfl
    have e1 := block_frozen HBA.out 1
    have e2 := block_frozen HBA.out 2
    have p0 := block_cell HBP.out 0 rfl
    go_upto_region 10 with (fail)
    obtain ⟨w5, hW5⟩ : ∃ W5, W5 = w4.setCell ⟨ga, 2, none⟩ (.int .i64 ((y : Int) - 3)) := ⟨_, rfl⟩
    rw [← hW5]
    replace HR := Lib.hid (rd_set1 HR.out HGG.out 2 (.int .i64 ((y : Int) - 3)))
    replace HBR := Lib.hid (block_far (p := ⟨ga, 2, none⟩) (u := (.int .i64 ((y : Int) - 3))) HBR.out HNE.out)
    replace HBP := Lib.hid (block_far (p := ⟨ga, 2, none⟩) (u := (.int .i64 ((y : Int) - 3))) HBP.out HPA.out)
    replace HG := Lib.hid (HG.out.set (p := ⟨ga, 2, none⟩) HGA.out (.int .i64 ((y : Int) - 3)))
    replace HBA := Lib.hid (block_set HBA.out 2 (.int .i64 ((y : Int) - 3)))
    rw [← hW5] at HR HBR HBP HG HBA
    clear hW5 a0 a1 a2 e1 e2 p0
    refine deed_tail g _ P w w5 ga (w.heap.size + 1) _ _ _ (by omega) (by omega) hgw (by omega) HGA.out HNE.out HBA HBR HR HG _ _ _ _ _ _ _ _ _ _ _ _ _ _ _ _ _ _ _ _ _ _ _ _ _ _ _ _ _ _ _ _ _ _ _ _ _ _ _ _ _ _ _ _ _ _ _ _ _ _ _ _ _ _ _ _ _ _ _ _ ?_ ?_
    · assumption
    · assumption
  · have z0 : (kd == 0) = false := by simp [k0]
    by_cases k1 : kd = 1
    · subst k1
      have a0 := block_cell HBA.out 0 rfl
      have a1 := block_cell HBA.out 1 rfl
      have a2 := block_cell HBA.out 2 rfl
      have e1 := block_frozen HBA.out 1
      have e2 := block_frozen HBA.out 2
      have p0 := block_cell HBP.out 0 rfl
      go_wp2_with fail
      refine (s_pick g _ 5 _ HR.out (by omega) (by omega) (by omega)).mono ?_
      rintro e w2 ⟨x, rfl, hx, hR2, hG2⟩
      have hx5 : (x : Int) < 5 := hx (by omega)
      clear a0 a1 a2 e1 e2 p0 hx
      replace HBA := Lib.hid ((⟨hG2⟩ : Gr g w1 w2).block HBA.out HNA.out)
      replace HBP := Lib.hid ((⟨hG2⟩ : Gr g w1 w2).block HBP.out HNP.out)
      replace HBR := Lib.hid ((⟨hG2⟩ : Gr g w1 w2).block HBR.out HNR.out)
      replace HG := Lib.hid (HG.out.trans ⟨hG2⟩)
      replace HR := Lib.hid hR2
      clear hR2 hG2
      have a0 := block_cell HBA.out 0 rfl
      have a1 := block_cell HBA.out 1 rfl
      have a2 := block_cell HBA.out 2 rfl
      have e1 := block_frozen HBA.out 1
      have e2 := block_frozen HBA.out 2
      have p0 := block_cell HBP.out 0 rfl
      go_upto_region 10 with (fail)
      obtain ⟨w3, hW5⟩ : ∃ W5, W5 = w2.setCell ⟨ga, 1, none⟩ (.int .i64 ((x : Int) - 1)) := ⟨_, rfl⟩
      rw [← hW5]
      replace HR := Lib.hid (rd_set1 HR.out HGG.out 1 (.int .i64 ((x : Int) - 1)))
      replace HBR := Lib.hid (block_far (p := ⟨ga, 1, none⟩) (u := (.int .i64 ((x : Int) - 1))) HBR.out HNE.out)
      replace HBP := Lib.hid (block_far (p := ⟨ga, 1, none⟩) (u := (.int .i64 ((x : Int) - 1))) HBP.out HPA.out)
      replace HG := Lib.hid (HG.out.set (p := ⟨ga, 1, none⟩) HGA.out (.int .i64 ((x : Int) - 1)))
      replace HBA := Lib.hid (block_set HBA.out 1 (.int .i64 ((x : Int) - 1)))
      rw [← hW5] at HR HBR HBP HG HBA
      clear hW5 a0 a1 a2 e1 e2 p0
      refine deed_tail g _ P w w3 ga (w.heap.size + 1) _ _ _ (by omega) (by omega) hgw (by omega) HGA.out HNE.out HBA HBR HR HG _ _ _ _ _ _ _ _ _ _ _ _ _ _ _ _ _ _ _ _ _ _ _ _ _ _ _ _ _ _ _ _ _ _ _ _ _ _ _ _ _ _ _ _ _ _ _ _ _ _ _ _ _ _ _ _ _ _ _ _ ?_ ?_
      · assumption
      · assumption
    · have z1 : (kd == 1) = false := by simp [k1]
      by_cases k2 : kd = 2
      · subst k2
        have a0 := block_cell HBA.out 0 rfl
        have a1 := block_cell HBA.out 1 rfl
        have a2 := block_cell HBA.out 2 rfl
        have e1 := block_frozen HBA.out 1
        have e2 := block_frozen HBA.out 2
        have p0 := block_cell HBP.out 0 rfl
        go_wp2_with fail
        refine (s_pick g _ (max (n : Int) 1) _ HR.out (by omega) (by omega) (by omega)).mono ?_
        rintro e w2 ⟨x, rfl, _, hR2, hG2⟩
        clear a0 a1 a2 e1 e2 p0
        replace HBA := Lib.hid ((⟨hG2⟩ : Gr g w1 w2).block HBA.out HNA.out)
        replace HBP := Lib.hid ((⟨hG2⟩ : Gr g w1 w2).block HBP.out HNP.out)
        replace HBR := Lib.hid ((⟨hG2⟩ : Gr g w1 w2).block HBR.out HNR.out)
        replace HG := Lib.hid (HG.out.trans ⟨hG2⟩)
        replace HR := Lib.hid hR2
        clear hR2 hG2
        have a0 := block_cell HBA.out 0 rfl
        have a1 := block_cell HBA.out 1 rfl
        have a2 := block_cell HBA.out 2 rfl
        have e1 := block_frozen HBA.out 1
        have e2 := block_frozen HBA.out 2
        have p0 := block_cell HBP.out 0 rfl
        go_upto_region 10 with (fail)
        obtain ⟨w3, hW5⟩ : ∃ W5, W5 = w2.setCell ⟨ga, 1, none⟩ (.int .i64 x) := ⟨_, rfl⟩
        rw [← hW5]
        replace HR := Lib.hid (rd_set1 HR.out HGG.out 1 (.int .i64 x))
        replace HBR := Lib.hid (block_far (p := ⟨ga, 1, none⟩) (u := (.int .i64 x)) HBR.out HNE.out)
        replace HBP := Lib.hid (block_far (p := ⟨ga, 1, none⟩) (u := (.int .i64 x)) HBP.out HPA.out)
        replace HG := Lib.hid (HG.out.set (p := ⟨ga, 1, none⟩) HGA.out (.int .i64 x))
        replace HBA := Lib.hid (block_set HBA.out 1 (.int .i64 x))
        rw [← hW5] at HR HBR HBP HG HBA
        clear hW5 a0 a1 a2 e1 e2 p0
        refine deed_tail g _ P w w3 ga (w.heap.size + 1) _ _ _ (by omega) (by omega) hgw (by omega) HGA.out HNE.out HBA HBR HR HG _ _ _ _ _ _ _ _ _ _ _ _ _ _ _ _ _ _ _ _ _ _ _ _ _ _ _ _ _ _ _ _ _ _ _ _ _ _ _ _ _ _ _ _ _ _ _ _ _ _ _ _ _ _ _ _ _ _ _ _ ?_ ?_
        · assumption
        · assumption
      · have z2 : (kd == 2) = false := by simp [k2]
        have a0 := block_cell HBA.out 0 rfl
        have a1 := block_cell HBA.out 1 rfl
        have a2 := block_cell HBA.out 2 rfl
        have e1 := block_frozen HBA.out 1
        have e2 := block_frozen HBA.out 2
        have p0 := block_cell HBP.out 0 rfl
        go_upto_region 10 with (fail)
        clear a0 a1 a2 e1 e2 p0
        refine deed_tail g _ P w w1 ga (w.heap.size + 1) _ _ _ (by omega) (by omega) hgw (by omega) HGA.out HNE.out HBA HBR HR HG _ _ _ _ _ _ _ _ _ _ _ _ _ _ _ _ _ _ _ _ _ _ _ _ _ _ _ _ _ _ _ _ _ _ _ _ _ _ _ _ _ _ _ _ _ _ _ _ _ _ _ _ _ _ _ _ _ _ _ _ ?_ ?_
        · assumption
        · assumption
end Go.Proofs.YtpfncjaclgcbnaaDoor.Ub
