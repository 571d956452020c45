/- The machine's Check and New. -/
import Derived.Test.YtbhkfdjofopfkaaMaH
import Derived.Deep.DeepCutAuto
namespace Go.Proofs.Ytbhkfdjofopfkaa.MemA
open Go.RowKit Go.Proofs.YtbhkfdjofopfkaaW.PrintWords Go.Proofs.YtbhkfdjofopfkaaW.PrintLast
set_option linter.unusedVariables false
set_option linter.unusedSimpArgs false
/-- May an image be? -/
def mayI (c d : ByteArray) (g e f : Int) : Bool := decide ((4 ≤ c.size ∧ c.size ≤ 1048576 ∧ c.size % 4 = 0) ∧ (0 ≤ g ∧ g ≤ 65536 ∧ (d.size : Int) ≤ g) ∧ (0 ≤ e ∧ e % 4 = 0 ∧ e < (c.size : Int)) ∧ (0 ≤ f ∧ f ≤ 65536))
abbrev imV (c d : ByteArray) (g e f : Int) : Value := .agg #[.string c, .string d, .int .i64 g, .int .i64 e, .int .i64 f]
def cB (c : ByteArray) : Bool := decide (4 ≤ c.size ∧ c.size ≤ 1048576 ∧ c.size % 4 = 0)
def gB (d : ByteArray) (g : Int) : Bool := decide (0 ≤ g ∧ g ≤ 65536 ∧ (d.size : Int) ≤ g)
def eB (c : ByteArray) (e : Int) : Bool := decide (0 ≤ e ∧ e % 4 = 0 ∧ e < (c.size : Int))
def fB (f : Int) : Bool := decide (0 ≤ f ∧ f ≤ 65536)
theorem mayI_B (c d : ByteArray) (g e f : Int) : mayI c d g e f = (cB c && (gB d g && (eB c e && fB f))) := by
  unfold mayI cB gB eB fB
  rw [Bool.eq_iff_iff]
  simp only [Bool.and_eq_true, decide_eq_true_eq]
set_option maxHeartbeats 8000000 in
set_option maxRecDepth 100000 in
theorem mayR (c d : ByteArray) (g e f : Int) (w : World) : Calls Try.prog 30 #[imV c d g e f] w fun e' w' => e' = .returned (.bool (mayI c d g e f)) ∧ Below w.heap.size w w' := by
  have hM := Aside0.mk (mayI_B c d g e f)
  have hb : Aside0 (Below w.heap.size w (w.alloc (.cells #[.string c, .string d, .int .i64 g, .int .i64 e, .int .i64 f] 23))) := ⟨below_alloc (Below.refl _ _) _⟩
  have hr : Aside0 ((w.alloc (.cells #[.string c, .string d, .int .i64 g, .int .i64 e, .int .i64 f] 23)).heap[w.heap.size]? = some (.cells #[.string c, .string d, .int .i64 g, .int .i64 e, .int .i64 f] 23 (0, 0))) := ⟨blk_new w _⟩
  go_enter Try.func30, Try.ntmps30
  go_upto_region 2 with (fail)
  generalize w.alloc (.cells #[.string c, .string d, .int .i64 g, .int .i64 e, .int .i64 f] 23) = W at *
  have y0 := (blk_cell hr.out 0).trans (show _ = some (.string c) from rfl)
  have y1 := (blk_cell hr.out 1).trans (show _ = some (.string d) from rfl)
  have y2 := (blk_cell hr.out 2).trans (show _ = some (.int .i64 g) from rfl)
  have y3 := (blk_cell hr.out 3).trans (show _ = some (.int .i64 e) from rfl)
  have y4 := (blk_cell hr.out 4).trans (show _ = some (.int .i64 f) from rfl)
  go_cut [4] (fun s4 wx => s4 = .bool (cB c) ∧ W = wx)
  case first =>
    by_cases h0 : (4 : Int) ≤ (c.size : Int)
    · skip
      by_cases h1 : (c.size : Int) ≤ 1048576
      · skip
        by_cases h2 : (c.size : Int) % 4 = 0
        · have r2 : ((c.size : Int) % 4 == 0) = true := by rw [h2]; rfl
          have s2 : ((c.size : Int) % 4 != 0) = false := by rw [h2]; rfl
          have hT : Aside0 (cB c = true) := ⟨by unfold cB; first | exact decide_eq_true (by omega) | exact decide_eq_false (by omega)⟩
          skip
          go_wp2_with fail
          go_meet
          exact ⟨by rw [hT.out], rfl⟩
        · have r2 : ((c.size : Int) % 4 == 0) = false := by rw [beq_eq_false_iff_ne]; exact h2
          have s2 : ((c.size : Int) % 4 != 0) = true := by simpa using h2
          have hT : Aside0 (cB c = false) := ⟨by unfold cB; first | exact decide_eq_true (by omega) | exact decide_eq_false (by omega)⟩
          skip
          go_wp2_with fail
          go_meet
          exact ⟨by rw [hT.out], rfl⟩
      · skip
        have hT : Aside0 (cB c = false) := ⟨by unfold cB; first | exact decide_eq_true (by omega) | exact decide_eq_false (by omega)⟩
        skip
        go_wp2_with fail
        go_meet
        exact ⟨by rw [hT.out], rfl⟩
    · skip
      have hT : Aside0 (cB c = false) := ⟨by unfold cB; first | exact decide_eq_true (by omega) | exact decide_eq_false (by omega)⟩
      skip
      go_wp2_with fail
      go_meet
      exact ⟨by rw [hT.out], rfl⟩
  case rest =>
  obtain ⟨rfl, rfl⟩ := hcut
  go_upto_region 3 with (fail)
  go_cut [5] (fun s5 wx => s5 = .bool (gB d g) ∧ W = wx)
  case first =>
    by_cases h0 : 0 ≤ g
    · skip
      by_cases h1 : g ≤ 65536
      · skip
        by_cases h2 : (d.size : Int) ≤ g
        · skip
          have hT : Aside0 (gB d g = true) := ⟨by unfold gB; first | exact decide_eq_true (by omega) | exact decide_eq_false (by omega)⟩
          skip
          go_wp2_with fail
          go_meet
          exact ⟨by rw [hT.out], rfl⟩
        · skip
          have hT : Aside0 (gB d g = false) := ⟨by unfold gB; first | exact decide_eq_true (by omega) | exact decide_eq_false (by omega)⟩
          skip
          go_wp2_with fail
          go_meet
          exact ⟨by rw [hT.out], rfl⟩
      · skip
        have hT : Aside0 (gB d g = false) := ⟨by unfold gB; first | exact decide_eq_true (by omega) | exact decide_eq_false (by omega)⟩
        skip
        go_wp2_with fail
        go_meet
        exact ⟨by rw [hT.out], rfl⟩
    · skip
      have hT : Aside0 (gB d g = false) := ⟨by unfold gB; first | exact decide_eq_true (by omega) | exact decide_eq_false (by omega)⟩
      skip
      go_wp2_with fail
      go_meet
      exact ⟨by rw [hT.out], rfl⟩
  case rest =>
  obtain ⟨rfl, rfl⟩ := hcut
  go_upto_region 4 with (fail)
  go_cut [6] (fun s6 wx => s6 = .bool (eB c e) ∧ W = wx)
  case first =>
    by_cases h0 : 0 ≤ e
    · skip
      by_cases h1 : e % 4 = 0
      · have r1 : (e % 4 == 0) = true := by rw [h1]; rfl
        have s1 : (e % 4 != 0) = false := by rw [h1]; rfl
        by_cases h2 : e < (c.size : Int)
        · skip
          have hT : Aside0 (eB c e = true) := ⟨by unfold eB; first | exact decide_eq_true (by omega) | exact decide_eq_false (by omega)⟩
          skip
          go_wp2_with fail
          go_meet
          exact ⟨by rw [hT.out], rfl⟩
        · skip
          have hT : Aside0 (eB c e = false) := ⟨by unfold eB; first | exact decide_eq_true (by omega) | exact decide_eq_false (by omega)⟩
          skip
          go_wp2_with fail
          go_meet
          exact ⟨by rw [hT.out], rfl⟩
      · have r1 : (e % 4 == 0) = false := by rw [beq_eq_false_iff_ne]; exact h1
        have s1 : (e % 4 != 0) = true := by simpa using h1
        have hT : Aside0 (eB c e = false) := ⟨by unfold eB; first | exact decide_eq_true (by omega) | exact decide_eq_false (by omega)⟩
        skip
        go_wp2_with fail
        go_meet
        exact ⟨by rw [hT.out], rfl⟩
    · skip
      have hT : Aside0 (eB c e = false) := ⟨by unfold eB; first | exact decide_eq_true (by omega) | exact decide_eq_false (by omega)⟩
      skip
      go_wp2_with fail
      go_meet
      exact ⟨by rw [hT.out], rfl⟩
  case rest =>
  obtain ⟨rfl, rfl⟩ := hcut
  go_upto_region 5 with (fail)
  generalize cB c = p1 at *
  generalize gB d g = p2 at *
  generalize eB c e = p3 at *
  have hF : Aside0 (fB f = decide (0 ≤ f ∧ f ≤ 65536)) := ⟨rfl⟩
  generalize fB f = p4 at *
  by_cases f0 : 0 ≤ f
  · by_cases f1 : f ≤ 65536
    · have hp4 : Aside0 (p4 = true) := ⟨by rw [hF.out]; exact decide_eq_true ⟨f0, f1⟩⟩
      cases p1 <;> cases p2 <;> cases p3 <;> (go_wp2_with fail; go_ret; exact ⟨by rw [hM.out, hp4.out]; rfl, hb.out⟩)
    · have hp4 : Aside0 (p4 = false) := ⟨by rw [hF.out]; exact decide_eq_false (by omega)⟩
      cases p1 <;> cases p2 <;> cases p3 <;> (go_wp2_with fail; go_ret; exact ⟨by rw [hM.out, hp4.out]; rfl, hb.out⟩)
  · have hp4 : Aside0 (p4 = false) := ⟨by rw [hF.out]; exact decide_eq_false (by omega)⟩
    cases p1 <;> cases p2 <;> cases p3 <;> (go_wp2_with fail; go_ret; exact ⟨by rw [hM.out, hp4.out]; rfl, hb.out⟩)
set_option maxHeartbeats 8000000 in
set_option maxRecDepth 100000 in
theorem checkP (c d : ByteArray) (g e f : Int) (w : World) : Calls Try.prog 22 #[imV c d g e f] w fun e' w' => e' = .returned (.int .i64 (er (mayI c d g e f))) ∧ Below w.heap.size w w' := by
  have hM := Aside0.mk (mayI_B c d g e f)
  have hb : Aside0 (Below w.heap.size w (w.alloc (.cells #[.string c, .string d, .int .i64 g, .int .i64 e, .int .i64 f] 23))) := ⟨below_alloc (Below.refl _ _) _⟩
  have hr : Aside0 ((w.alloc (.cells #[.string c, .string d, .int .i64 g, .int .i64 e, .int .i64 f] 23)).heap[w.heap.size]? = some (.cells #[.string c, .string d, .int .i64 g, .int .i64 e, .int .i64 f] 23 (0, 0))) := ⟨blk_new w _⟩
  go_enter Try.func22, Try.ntmps22
  go_upto_region 1 with (fail)
  generalize w.alloc (.cells #[.string c, .string d, .int .i64 g, .int .i64 e, .int .i64 f] 23) = W at *
  have y0 := (blk_cell hr.out 0).trans (show _ = some (.string c) from rfl)
  have y1 := (blk_cell hr.out 1).trans (show _ = some (.string d) from rfl)
  have y2 := (blk_cell hr.out 2).trans (show _ = some (.int .i64 g) from rfl)
  have y3 := (blk_cell hr.out 3).trans (show _ = some (.int .i64 e) from rfl)
  have y4 := (blk_cell hr.out 4).trans (show _ = some (.int .i64 f) from rfl)
  go_upto_region 3 with (fail)
  go_cut [7] (fun s7 wx => s7 = .bool (!(cB c)) ∧ W = wx)
  case first =>
    by_cases h0 : (4 : Int) ≤ (c.size : Int)
    · skip
      by_cases h1 : (c.size : Int) ≤ 1048576
      · skip
        by_cases h2 : (c.size : Int) % 4 = 0
        · have r2 : ((c.size : Int) % 4 == 0) = true := by rw [h2]; rfl
          have s2 : ((c.size : Int) % 4 != 0) = false := by rw [h2]; rfl
          have hT : Aside0 (cB c = true) := ⟨by unfold cB; first | exact decide_eq_true (by omega) | exact decide_eq_false (by omega)⟩
          skip
          go_wp2_with fail
          go_meet
          exact ⟨by rw [hT.out]; first | rfl | (simp; omega) | (simp; done), rfl⟩
        · have r2 : ((c.size : Int) % 4 == 0) = false := by rw [beq_eq_false_iff_ne]; exact h2
          have s2 : ((c.size : Int) % 4 != 0) = true := by simpa using h2
          have hT : Aside0 (cB c = false) := ⟨by unfold cB; first | exact decide_eq_true (by omega) | exact decide_eq_false (by omega)⟩
          skip
          go_wp2_with fail
          go_meet
          exact ⟨by rw [hT.out]; first | rfl | (simp; omega) | (simp; done), rfl⟩
      · skip
        have hT : Aside0 (cB c = false) := ⟨by unfold cB; first | exact decide_eq_true (by omega) | exact decide_eq_false (by omega)⟩
        skip
        go_wp2_with fail
        go_meet
        exact ⟨by rw [hT.out]; first | rfl | (simp; omega) | (simp; done), rfl⟩
    · skip
      have hT : Aside0 (cB c = false) := ⟨by unfold cB; first | exact decide_eq_true (by omega) | exact decide_eq_false (by omega)⟩
      skip
      go_wp2_with fail
      go_meet
      exact ⟨by rw [hT.out]; first | rfl | (simp; omega) | (simp; done), rfl⟩
  case rest =>
  obtain ⟨rfl, rfl⟩ := hcut
  by_cases q1 : cB c = true
  case neg =>
    have k1 := Aside0.mk (Bool.not_eq_true _ ▸ q1)
    have hv : Aside0 (mayI c d g e f = false) := ⟨by rw [hM.out, k1.out]; simp⟩
    clear q1
    rw [k1.out]
    go_wp2_with fail
    go_ret
    exact ⟨by rw [hv.out]; rfl, hb.out⟩
  have k1 := Aside0.mk q1
  clear q1
  rw [k1.out]
  go_upto_region 4 with (fail)
  go_cut [19] (fun s19 wx => s19 = .bool (!(gB d g)) ∧ W = wx)
  case first =>
    by_cases h0 : 0 ≤ g
    · skip
      by_cases h1 : g ≤ 65536
      · skip
        by_cases h2 : (d.size : Int) ≤ g
        · skip
          have hT : Aside0 (gB d g = true) := ⟨by unfold gB; first | exact decide_eq_true (by omega) | exact decide_eq_false (by omega)⟩
          skip
          go_wp2_with fail
          go_meet
          exact ⟨by rw [hT.out]; first | rfl | (simp; omega) | (simp; done), rfl⟩
        · skip
          have hT : Aside0 (gB d g = false) := ⟨by unfold gB; first | exact decide_eq_true (by omega) | exact decide_eq_false (by omega)⟩
          skip
          go_wp2_with fail
          go_meet
          exact ⟨by rw [hT.out]; first | rfl | (simp; omega) | (simp; done), rfl⟩
      · skip
        have hT : Aside0 (gB d g = false) := ⟨by unfold gB; first | exact decide_eq_true (by omega) | exact decide_eq_false (by omega)⟩
        skip
        go_wp2_with fail
        go_meet
        exact ⟨by rw [hT.out]; first | rfl | (simp; omega) | (simp; done), rfl⟩
    · skip
      have hT : Aside0 (gB d g = false) := ⟨by unfold gB; first | exact decide_eq_true (by omega) | exact decide_eq_false (by omega)⟩
      skip
      go_wp2_with fail
      go_meet
      exact ⟨by rw [hT.out]; first | rfl | (simp; omega) | (simp; done), rfl⟩
  case rest =>
  obtain ⟨rfl, rfl⟩ := hcut
  by_cases q2 : gB d g = true
  case neg =>
    have k2 := Aside0.mk (Bool.not_eq_true _ ▸ q2)
    have hv : Aside0 (mayI c d g e f = false) := ⟨by rw [hM.out, k1.out, k2.out]; simp⟩
    clear q2
    rw [k2.out]
    go_wp2_with fail
    go_ret
    exact ⟨by rw [hv.out]; rfl, hb.out⟩
  have k2 := Aside0.mk q2
  clear q2
  rw [k2.out]
  go_upto_region 5 with (fail)
  go_cut [36] (fun s36 wx => s36 = .bool (!(eB c e)) ∧ W = wx)
  case first =>
    by_cases h0 : 0 ≤ e
    · skip
      by_cases h1 : e % 4 = 0
      · have r1 : (e % 4 == 0) = true := by rw [h1]; rfl
        have s1 : (e % 4 != 0) = false := by rw [h1]; rfl
        by_cases h2 : e < (c.size : Int)
        · skip
          have hT : Aside0 (eB c e = true) := ⟨by unfold eB; first | exact decide_eq_true (by omega) | exact decide_eq_false (by omega)⟩
          skip
          go_wp2_with fail
          go_meet
          exact ⟨by rw [hT.out]; first | rfl | (simp; omega) | (simp; done), rfl⟩
        · skip
          have hT : Aside0 (eB c e = false) := ⟨by unfold eB; first | exact decide_eq_true (by omega) | exact decide_eq_false (by omega)⟩
          skip
          go_wp2_with fail
          go_meet
          exact ⟨by rw [hT.out]; first | rfl | (simp; omega) | (simp; done), rfl⟩
      · have r1 : (e % 4 == 0) = false := by rw [beq_eq_false_iff_ne]; exact h1
        have s1 : (e % 4 != 0) = true := by simpa using h1
        have hT : Aside0 (eB c e = false) := ⟨by unfold eB; first | exact decide_eq_true (by omega) | exact decide_eq_false (by omega)⟩
        skip
        go_wp2_with fail
        go_meet
        exact ⟨by rw [hT.out]; first | rfl | (simp; omega) | (simp; done), rfl⟩
    · skip
      have hT : Aside0 (eB c e = false) := ⟨by unfold eB; first | exact decide_eq_true (by omega) | exact decide_eq_false (by omega)⟩
      skip
      go_wp2_with fail
      go_meet
      exact ⟨by rw [hT.out]; first | rfl | (simp; omega) | (simp; done), rfl⟩
  case rest =>
  obtain ⟨rfl, rfl⟩ := hcut
  by_cases q3 : eB c e = true
  case neg =>
    have k3 := Aside0.mk (Bool.not_eq_true _ ▸ q3)
    have hv : Aside0 (mayI c d g e f = false) := ⟨by rw [hM.out, k1.out, k2.out, k3.out]; simp⟩
    clear q3
    rw [k3.out]
    go_wp2_with fail
    go_ret
    exact ⟨by rw [hv.out]; rfl, hb.out⟩
  have k3 := Aside0.mk q3
  clear q3
  rw [k3.out]
  go_upto_region 6 with (fail)
  go_cut [52] (fun s52 wx => s52 = .bool (!(fB f)) ∧ W = wx)
  case first =>
    by_cases h0 : 0 ≤ f
    · skip
      by_cases h1 : f ≤ 65536
      · skip
        have hT : Aside0 (fB f = true) := ⟨by unfold fB; first | exact decide_eq_true (by omega) | exact decide_eq_false (by omega)⟩
        skip
        go_wp2_with fail
        go_meet
        exact ⟨by rw [hT.out]; first | rfl | (simp; omega) | (simp; done), rfl⟩
      · skip
        have hT : Aside0 (fB f = false) := ⟨by unfold fB; first | exact decide_eq_true (by omega) | exact decide_eq_false (by omega)⟩
        skip
        go_wp2_with fail
        go_meet
        exact ⟨by rw [hT.out]; first | rfl | (simp; omega) | (simp; done), rfl⟩
    · skip
      have hT : Aside0 (fB f = false) := ⟨by unfold fB; first | exact decide_eq_true (by omega) | exact decide_eq_false (by omega)⟩
      skip
      go_wp2_with fail
      go_meet
      exact ⟨by rw [hT.out]; first | rfl | (simp; omega) | (simp; done), rfl⟩
  case rest =>
  obtain ⟨rfl, rfl⟩ := hcut
  by_cases q4 : fB f = true
  case neg =>
    have k4 := Aside0.mk (Bool.not_eq_true _ ▸ q4)
    have hv : Aside0 (mayI c d g e f = false) := ⟨by rw [hM.out, k1.out, k2.out, k3.out, k4.out]; simp⟩
    clear q4
    rw [k4.out]
    go_wp2_with fail
    go_ret
    exact ⟨by rw [hv.out]; rfl, hb.out⟩
  have k4 := Aside0.mk q4
  clear q4
  rw [k4.out]
  have hv : Aside0 (mayI c d g e f = true) := ⟨by rw [hM.out, k1.out, k2.out, k3.out, k4.out]; rfl⟩
  go_wp2_with fail
  go_ret
  exact ⟨by rw [hv.out]; rfl, hb.out⟩
end Go.Proofs.Ytbhkfdjofopfkaa.MemA
