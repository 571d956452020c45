/- A program of four instructions, its code, its run. -/
import Derived.Test.YtbhkfdjofopfkaaMaN
import Derived.Test.YtbhkfdjofopfkaaRefIsa4
namespace Go.Proofs.Ytbhkfdjofopfkaa.MemA
open Go.RowKit Go.Proofs.YtbhkfdjofopfkaaW.PrintWords Go.Proofs.YtbhkfdjofopfkaaW.PrintLast
set_option linter.unusedVariables false
set_option linter.unusedSimpArgs false
def cA : ByteArray := ⟨#[0, 0, 16, 44, 1, 0, 17, 32, 0, 0, 1, 45, 0, 0, 0, 47]⟩
theorem runA : runV cA ⟨#[]⟩ 0 0 0 ⟨#[97]⟩ 4 = (.agg #[.int .i64 1, .int .i32 0, .int .i64 0, .string ⟨#[98]⟩, .int .i64 1], 0) := by kernel_rfl
theorem encA0 (w : World) : Calls Try.prog 48 #[insV 44 1 0 0 0] w fun e w' => e = .returned (.tuple #[.int .u32 739246080, .int .i64 0]) ∧ Below w.heap.size w w' :=
  (RefIsa.enc 1 0 0 0 w (by omega) (by omega) (.inr (.inr (.inr (.inr (.inr (.inr (.inr (.inr (.inl ⟨rfl, rfl, rfl, rfl, rfl, rfl, rfl, rfl, rfl, rfl⟩))))))))) (by decide)).mono fun e w' ⟨h1, h2⟩ => ⟨h1.trans (by rfl), h2⟩
theorem encA1 (w : World) : Calls Try.prog 48 #[insV 32 1 1 0 1] w fun e w' => e = .returned (.tuple #[.int .u32 537985025, .int .i64 0]) ∧ Below w.heap.size w w' :=
  (RefIsa.enc 1 1 0 1 w (by omega) (by omega) (.inr (.inl ⟨.inl rfl, rfl, rfl, rfl, rfl, rfl, rfl, rfl, rfl, rfl⟩)) (by decide)).mono fun e w' ⟨h1, h2⟩ => ⟨h1.trans (by rfl), h2⟩
theorem encA2 (w : World) : Calls Try.prog 48 #[insV 45 0 1 0 0] w fun e w' => e = .returned (.tuple #[.int .u32 755040256, .int .i64 0]) ∧ Below w.heap.size w w' :=
  (RefIsa.enc 0 1 0 0 w (by omega) (by omega) (.inr (.inr (.inr (.inr (.inr (.inr (.inr (.inl ⟨.inr (.inl rfl), rfl, rfl, rfl, rfl, rfl, rfl, rfl, rfl, rfl⟩)))))))) (by decide)).mono fun e w' ⟨h1, h2⟩ => ⟨h1.trans (by rfl), h2⟩
theorem encA3 (w : World) : Calls Try.prog 48 #[insV 47 0 0 0 0] w fun e w' => e = .returned (.tuple #[.int .u32 788529152, .int .i64 0]) ∧ Below w.heap.size w w' :=
  (RefIsa.enc 0 0 0 0 w (by omega) (by omega) (.inr (.inr (.inr (.inr (.inr (.inr (.inr (.inl ⟨.inr (.inr rfl), rfl, rfl, rfl, rfl, rfl, rfl, rfl, rfl, rfl⟩)))))))) (by decide)).mono fun e w' ⟨h1, h2⟩ => ⟨h1.trans (by rfl), h2⟩
theorem row_C {w : World} {h : Nat} {b : List Int} (hr : w.heap[h]? = some (.cells (nums .u8 b).toArray 5 (0, 0))) (hb : b.length ≤ 9223372036854775807) : (Kd.int .u8).C w (some ⟨h, 0, none⟩) b.length b := by
  refine Kd.C_of_reads (d := (0 : Int)) ⟨rfl, hb, fun _ => ⟨⟨h, 0, none⟩, rfl, fun j hj => ?_⟩⟩
  rw [add_plain, blk_cell hr j]
  simp [nums, List.getD_eq_getElem?_getD, List.getElem?_eq_getElem hj]
/-- The block of the four instructions. -/
def cellsA : Array Value := #[.int .i64 44, .int .i64 1, .int .i64 0, .int .i64 0, .int .i32 0, .int .i64 32, .int .i64 1, .int .i64 1, .int .i64 0, .int .i32 1, .int .i64 45, .int .i64 0, .int .i64 1, .int .i64 0, .int .i32 0, .int .i64 47, .int .i64 0, .int .i64 0, .int .i64 0, .int .i32 0]
set_option maxHeartbeats 8000000 in
set_option maxRecDepth 100000 in
theorem codeA (b0 : Nat) (w : World) (hb0 : Aside0 (w.heap[b0]? = some (.cells cellsA 67 (0, 0)))) :
    Calls Try.prog 26 #[.slice (some ⟨b0, 0, none⟩) 4 4] w fun e w' => e = .returned (.string cA) ∧ Below w.heap.size w w' := by
  have hlt := blk_lt hb0.out
  have hu67 := Try.underlying67
  go_enter Try.func26, Try.ntmps26
  go_wp2_with fail
  go_loopw [3, 4] (fun v i wr => ∃ k : Nat, k ≤ 4 ∧ i = .int .i64 (k : Int) ∧ Aside0 (Kd.R (Kd.int .u8) 5 wr w.heap.size (fun _ => True) v ((bytesOf cA).take (4 * k))) ∧ Aside0 (Below w.heap.size w wr)) (fun _ i _ => 4 - (intOf i).toNat)
  case atStart => exact ⟨0, by omega, rfl, ⟨Kd.R_nil _ _ _ _ _⟩, ⟨Below.refl _ _⟩⟩
  case round =>
    obtain ⟨k, hk, rfl, hR, hB⟩ := hrel
    have hr : Aside0 (wr.heap[b0]? = some (.cells cellsA 67 (0, 0))) := ⟨(hB.out.block b0 hlt).trans hb0.out⟩
    have : k = 0 ∨ k = 1 ∨ k = 2 ∨ k = 3 ∨ k = 4 := by omega
    rcases this with rfl | rfl | rfl | rfl | rfl
    · obtain ⟨A, c, rfl⟩ := Kd.R_slice hR.out
      have x0 : wr.cell? ⟨b0, 0, none⟩ = some (.int .i64 44) := (blk_cell hr.out 0).trans rfl
      have x1 : wr.cell? ⟨b0, 1, none⟩ = some (.int .i64 1) := (blk_cell hr.out 1).trans rfl
      have x2 : wr.cell? ⟨b0, 2, none⟩ = some (.int .i64 0) := (blk_cell hr.out 2).trans rfl
      have x3 : wr.cell? ⟨b0, 3, none⟩ = some (.int .i64 0) := (blk_cell hr.out 3).trans rfl
      have x4 : wr.cell? ⟨b0, 4, none⟩ = some (.int .i32 0) := (blk_cell hr.out 4).trans rfl
      clear hr
      go_upto_region 6 with (go_at_call 48; refine (encA0 _).mono ?_; rintro e w1 ⟨rfl, hb1⟩; replace hb1 := Aside0.mk hb1)
      have hB1 : Aside0 (Below w.heap.size w (w1.alloc (.cells #[.int .u8 0, .int .u8 0, .int .u8 16, .int .u8 44] 5))) := ⟨hB.out.trans ((below_alloc hb1.out _).mono hB.out.size)⟩
      have hR1 : Aside0 (Kd.R (Kd.int .u8) 5 (w1.alloc (.cells #[.int .u8 0, .int .u8 0, .int .u8 16, .int .u8 44] 5)) w.heap.size (fun _ => True) (.slice A ((bytesOf cA).take (4 * 0)).length c) ((bytesOf cA).take (4 * 0))) := ⟨Kd.R_below hR.out (below_alloc hb1.out _)⟩
      have hC1 : Aside0 ((Kd.int .u8).C (w1.alloc (.cells #[.int .u8 0, .int .u8 0, .int .u8 16, .int .u8 44] 5)) (some ⟨w1.heap.size, 0, none⟩) 4 [0, 0, 16, 44]) := ⟨row_C (b := [0, 0, 16, 44]) (blk_new w1 _) (by decide)⟩
      have hsz : w.heap.size ≤ (w1.alloc (.cells #[.int .u8 0, .int .u8 0, .int .u8 16, .int .u8 44] 5)).heap.size := hB1.out.size
      have ht0 : Aside0 ((bytesOf cA).take (4 * 0) = []) := ⟨by decide⟩
      rw [ht0.out] at hR1
      have ht1 : Aside0 ((bytesOf cA).take (4 * 1) = [0, 0, 16, 44]) := ⟨by decide⟩
      clear hb1
      go_wp2_with (at_builtin; go_loud ((refine Kd.R_append_row (Value.int .u8) (0 : Int) (h1 := fun _ => rfl) (w0 := w) w.heap.size rfl (.tmp 21) (.tmp 33) 46 5 (.int .u8 0) 1 rfl Try.underlying46 info5 rfl (by omega) _ [] [0, 0, 16, 44] (some ⟨w1.heap.size, 0, none⟩) 4 4 (fun _ => True) rfl rfl (fun _ _ => trivial) hR1.out hC1.out hB1.out hsz (by decide) ?_; intro v1 w2 ho hb hg hat; replace ho := Aside0.mk ho; replace hb := Aside0.mk hb; clear hg hat)))
      go_roundw
      case rel => exact ⟨1, by omega, rfl, ⟨by rw [ht1.out]; exact ho.out⟩, hb⟩
      case measure => simp [intOf]
    · obtain ⟨A, c, rfl⟩ := Kd.R_slice hR.out
      have x0 : wr.cell? ⟨b0, 5, none⟩ = some (.int .i64 32) := (blk_cell hr.out 5).trans rfl
      have x1 : wr.cell? ⟨b0, 6, none⟩ = some (.int .i64 1) := (blk_cell hr.out 6).trans rfl
      have x2 : wr.cell? ⟨b0, 7, none⟩ = some (.int .i64 1) := (blk_cell hr.out 7).trans rfl
      have x3 : wr.cell? ⟨b0, 8, none⟩ = some (.int .i64 0) := (blk_cell hr.out 8).trans rfl
      have x4 : wr.cell? ⟨b0, 9, none⟩ = some (.int .i32 1) := (blk_cell hr.out 9).trans rfl
      clear hr
      go_upto_region 6 with (go_at_call 48; refine (encA1 _).mono ?_; rintro e w1 ⟨rfl, hb1⟩; replace hb1 := Aside0.mk hb1)
      have hB1 : Aside0 (Below w.heap.size w (w1.alloc (.cells #[.int .u8 1, .int .u8 0, .int .u8 17, .int .u8 32] 5))) := ⟨hB.out.trans ((below_alloc hb1.out _).mono hB.out.size)⟩
      have hR1 : Aside0 (Kd.R (Kd.int .u8) 5 (w1.alloc (.cells #[.int .u8 1, .int .u8 0, .int .u8 17, .int .u8 32] 5)) w.heap.size (fun _ => True) (.slice A ((bytesOf cA).take (4 * 1)).length c) ((bytesOf cA).take (4 * 1))) := ⟨Kd.R_below hR.out (below_alloc hb1.out _)⟩
      have hC1 : Aside0 ((Kd.int .u8).C (w1.alloc (.cells #[.int .u8 1, .int .u8 0, .int .u8 17, .int .u8 32] 5)) (some ⟨w1.heap.size, 0, none⟩) 4 [1, 0, 17, 32]) := ⟨row_C (b := [1, 0, 17, 32]) (blk_new w1 _) (by decide)⟩
      have hsz : w.heap.size ≤ (w1.alloc (.cells #[.int .u8 1, .int .u8 0, .int .u8 17, .int .u8 32] 5)).heap.size := hB1.out.size
      have ht0 : Aside0 ((bytesOf cA).take (4 * 1) = [0, 0, 16, 44]) := ⟨by decide⟩
      rw [ht0.out] at hR1
      have ht1 : Aside0 ((bytesOf cA).take (4 * 2) = [0, 0, 16, 44, 1, 0, 17, 32]) := ⟨by decide⟩
      clear hb1
      go_wp2_with (at_builtin; go_loud ((refine Kd.R_append_row (Value.int .u8) (0 : Int) (h1 := fun _ => rfl) (w0 := w) w.heap.size rfl (.tmp 21) (.tmp 33) 46 5 (.int .u8 0) 1 rfl Try.underlying46 info5 rfl (by omega) _ [0, 0, 16, 44] [1, 0, 17, 32] (some ⟨w1.heap.size, 0, none⟩) 4 4 (fun _ => True) rfl rfl (fun _ _ => trivial) hR1.out hC1.out hB1.out hsz (by decide) ?_; intro v1 w2 ho hb hg hat; replace ho := Aside0.mk ho; replace hb := Aside0.mk hb; clear hg hat)))
      go_roundw
      case rel => exact ⟨2, by omega, rfl, ⟨by rw [ht1.out]; exact ho.out⟩, hb⟩
      case measure => simp [intOf]
    · obtain ⟨A, c, rfl⟩ := Kd.R_slice hR.out
      have x0 : wr.cell? ⟨b0, 10, none⟩ = some (.int .i64 45) := (blk_cell hr.out 10).trans rfl
      have x1 : wr.cell? ⟨b0, 11, none⟩ = some (.int .i64 0) := (blk_cell hr.out 11).trans rfl
      have x2 : wr.cell? ⟨b0, 12, none⟩ = some (.int .i64 1) := (blk_cell hr.out 12).trans rfl
      have x3 : wr.cell? ⟨b0, 13, none⟩ = some (.int .i64 0) := (blk_cell hr.out 13).trans rfl
      have x4 : wr.cell? ⟨b0, 14, none⟩ = some (.int .i32 0) := (blk_cell hr.out 14).trans rfl
      clear hr
      go_upto_region 6 with (go_at_call 48; refine (encA2 _).mono ?_; rintro e w1 ⟨rfl, hb1⟩; replace hb1 := Aside0.mk hb1)
      have hB1 : Aside0 (Below w.heap.size w (w1.alloc (.cells #[.int .u8 0, .int .u8 0, .int .u8 1, .int .u8 45] 5))) := ⟨hB.out.trans ((below_alloc hb1.out _).mono hB.out.size)⟩
      have hR1 : Aside0 (Kd.R (Kd.int .u8) 5 (w1.alloc (.cells #[.int .u8 0, .int .u8 0, .int .u8 1, .int .u8 45] 5)) w.heap.size (fun _ => True) (.slice A ((bytesOf cA).take (4 * 2)).length c) ((bytesOf cA).take (4 * 2))) := ⟨Kd.R_below hR.out (below_alloc hb1.out _)⟩
      have hC1 : Aside0 ((Kd.int .u8).C (w1.alloc (.cells #[.int .u8 0, .int .u8 0, .int .u8 1, .int .u8 45] 5)) (some ⟨w1.heap.size, 0, none⟩) 4 [0, 0, 1, 45]) := ⟨row_C (b := [0, 0, 1, 45]) (blk_new w1 _) (by decide)⟩
      have hsz : w.heap.size ≤ (w1.alloc (.cells #[.int .u8 0, .int .u8 0, .int .u8 1, .int .u8 45] 5)).heap.size := hB1.out.size
      have ht0 : Aside0 ((bytesOf cA).take (4 * 2) = [0, 0, 16, 44, 1, 0, 17, 32]) := ⟨by decide⟩
      rw [ht0.out] at hR1
      have ht1 : Aside0 ((bytesOf cA).take (4 * 3) = [0, 0, 16, 44, 1, 0, 17, 32, 0, 0, 1, 45]) := ⟨by decide⟩
      clear hb1
      go_wp2_with (at_builtin; go_loud ((refine Kd.R_append_row (Value.int .u8) (0 : Int) (h1 := fun _ => rfl) (w0 := w) w.heap.size rfl (.tmp 21) (.tmp 33) 46 5 (.int .u8 0) 1 rfl Try.underlying46 info5 rfl (by omega) _ [0, 0, 16, 44, 1, 0, 17, 32] [0, 0, 1, 45] (some ⟨w1.heap.size, 0, none⟩) 4 4 (fun _ => True) rfl rfl (fun _ _ => trivial) hR1.out hC1.out hB1.out hsz (by decide) ?_; intro v1 w2 ho hb hg hat; replace ho := Aside0.mk ho; replace hb := Aside0.mk hb; clear hg hat)))
      go_roundw
      case rel => exact ⟨3, by omega, rfl, ⟨by rw [ht1.out]; exact ho.out⟩, hb⟩
      case measure => simp [intOf]
    · obtain ⟨A, c, rfl⟩ := Kd.R_slice hR.out
      have x0 : wr.cell? ⟨b0, 15, none⟩ = some (.int .i64 47) := (blk_cell hr.out 15).trans rfl
      have x1 : wr.cell? ⟨b0, 16, none⟩ = some (.int .i64 0) := (blk_cell hr.out 16).trans rfl
      have x2 : wr.cell? ⟨b0, 17, none⟩ = some (.int .i64 0) := (blk_cell hr.out 17).trans rfl
      have x3 : wr.cell? ⟨b0, 18, none⟩ = some (.int .i64 0) := (blk_cell hr.out 18).trans rfl
      have x4 : wr.cell? ⟨b0, 19, none⟩ = some (.int .i32 0) := (blk_cell hr.out 19).trans rfl
      clear hr
      go_upto_region 6 with (go_at_call 48; refine (encA3 _).mono ?_; rintro e w1 ⟨rfl, hb1⟩; replace hb1 := Aside0.mk hb1)
      have hB1 : Aside0 (Below w.heap.size w (w1.alloc (.cells #[.int .u8 0, .int .u8 0, .int .u8 0, .int .u8 47] 5))) := ⟨hB.out.trans ((below_alloc hb1.out _).mono hB.out.size)⟩
      have hR1 : Aside0 (Kd.R (Kd.int .u8) 5 (w1.alloc (.cells #[.int .u8 0, .int .u8 0, .int .u8 0, .int .u8 47] 5)) w.heap.size (fun _ => True) (.slice A ((bytesOf cA).take (4 * 3)).length c) ((bytesOf cA).take (4 * 3))) := ⟨Kd.R_below hR.out (below_alloc hb1.out _)⟩
      have hC1 : Aside0 ((Kd.int .u8).C (w1.alloc (.cells #[.int .u8 0, .int .u8 0, .int .u8 0, .int .u8 47] 5)) (some ⟨w1.heap.size, 0, none⟩) 4 [0, 0, 0, 47]) := ⟨row_C (b := [0, 0, 0, 47]) (blk_new w1 _) (by decide)⟩
      have hsz : w.heap.size ≤ (w1.alloc (.cells #[.int .u8 0, .int .u8 0, .int .u8 0, .int .u8 47] 5)).heap.size := hB1.out.size
      have ht0 : Aside0 ((bytesOf cA).take (4 * 3) = [0, 0, 16, 44, 1, 0, 17, 32, 0, 0, 1, 45]) := ⟨by decide⟩
      rw [ht0.out] at hR1
      have ht1 : Aside0 ((bytesOf cA).take (4 * 4) = [0, 0, 16, 44, 1, 0, 17, 32, 0, 0, 1, 45, 0, 0, 0, 47]) := ⟨by decide⟩
      clear hb1
      go_wp2_with (at_builtin; go_loud ((refine Kd.R_append_row (Value.int .u8) (0 : Int) (h1 := fun _ => rfl) (w0 := w) w.heap.size rfl (.tmp 21) (.tmp 33) 46 5 (.int .u8 0) 1 rfl Try.underlying46 info5 rfl (by omega) _ [0, 0, 16, 44, 1, 0, 17, 32, 0, 0, 1, 45] [0, 0, 0, 47] (some ⟨w1.heap.size, 0, none⟩) 4 4 (fun _ => True) rfl rfl (fun _ _ => trivial) hR1.out hC1.out hB1.out hsz (by decide) ?_; intro v1 w2 ho hb hg hat; replace ho := Aside0.mk ho; replace hb := Aside0.mk hb; clear hg hat)))
      go_roundw
      case rel => exact ⟨4, by omega, rfl, ⟨by rw [ht1.out]; exact ho.out⟩, hb⟩
      case measure => simp [intOf]
    · have ht : Aside0 ((bytesOf cA).take (4 * 4) = [0, 0, 16, 44, 1, 0, 17, 32, 0, 0, 1, 45, 0, 0, 0, 47]) := ⟨by decide⟩
      have hR2 := hR.out
      rw [ht.out] at hR2
      obtain ⟨A, c, rfl⟩ := Kd.R_slice hR2
      have hcv := Kd.C_string (P := Try.prog) (src := 46) (dst := 9) (e := 5) (c := c) Try.underlying46 Try.underlying5 Try.underlying9 (Kd.R_reads' hR2).2.2
      have hst : Aside0 (strOfNums [0, 0, 16, 44, 1, 0, 17, 32, 0, 0, 1, 45, 0, 0, 0, 47] = cA) := ⟨by rfl⟩
      rw [hst.out] at hcv
      simp only [List.length_cons, List.length_nil, Nat.zero_add, Nat.reduceAdd] at hcv
      clear hR2 hr hR
      simp only [List.length_cons, List.length_nil, Nat.zero_add, Nat.reduceAdd]
      go_wp2_with fail
      go_ret
      exact ⟨rfl, hB.out⟩
theorem runAP (w : World) : Calls Try.prog 9 #[imV cA ⟨#[]⟩ 0 0 0, .string ⟨#[97]⟩, .int .i64 4] w (RunP (.agg #[.int .i64 1, .int .i32 0, .int .i64 0, .string ⟨#[98]⟩, .int .i64 1]) 0 w) := by
  have h := runP cA ⟨#[]⟩ 0 0 0 ⟨#[97]⟩ 4 w (by decide) (by decide)
  rw [runA] at h
  exact h
set_option maxHeartbeats 8000000 in
set_option maxRecDepth 100000 in
theorem awake (w : World) : Calls Try.prog 11 #[] w fun e w' => e = .returned (.bool true) ∧ Below w.heap.size w w' := by
  have hu67 := Try.underlying67
  have hb : Aside0 (Below w.heap.size w (w.alloc (.cells cellsA 67))) := ⟨below_alloc (Below.refl _ _) _⟩
  have hr : Aside0 ((w.alloc (.cells cellsA 67)).heap[w.heap.size]? = some (.cells cellsA 67 (0, 0))) := ⟨blk_new w _⟩
  go_enter Try.func11, Try.ntmps11
  go_upto_region 2 with (fail)
  change Code.wp _ _ _ _ (w.alloc (.cells cellsA 67))
  generalize w.alloc (.cells cellsA 67) = W at *
  go_wp2_with first | (go_at_call 26; (with_reducible refine (codeA _ _ hr).mono ?_); rintro e w1 ⟨rfl, hb1⟩; replace hb1 := Aside0.mk hb1) | (go_at_call 9; (with_reducible refine (runAP _).mono ?_); rintro e w2 ⟨rfl, hb2⟩; replace hb2 := Aside0.mk hb2)
  go_ret
  exact ⟨rfl, below_alloc (below_step (below_step hb.out hb1.out) hb2.out) _⟩
end Go.Proofs.Ytbhkfdjofopfkaa.MemA
