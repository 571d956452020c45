/- image.Write: what it answers of any image. -/
import Derived.Test.YtbalpmpaccfpiaaPImageReadsx1
import Derived.Test.YtbalpmpaccfpiaaPImageReadsx2
import Derived.Test.YtbalpmpaccfpiaaApp
import Derived.Lib.Hide
import Derived.Lib.SlBytesConst
namespace Go.Proofs.Ytbalpmpaccfpiaa.Write
open Go.RowKit Go.Proofs.Ytbalpmpaccfpiaa.PImageReads Go.Proofs.YtbalpmpaccfpiaaW.PrintWords Go.Proofs.YtbalpmpaccfpiaaW.PrintLast Go.Proofs.YtbalpmpaccfpiaaW.PrintMore
set_option linter.unusedVariables false
set_option linter.unusedSimpArgs false

theorem bcell {W w1 : World} (hb : Below W.heap.size W w1) : (∀ b o, b < W.heap.size → w1.cell? ⟨b, o, none⟩ = W.cell? ⟨b, o, none⟩) ∧ (∀ b o, b < W.heap.size → w1.frozen? ⟨b, o, none⟩ = W.frozen? ⟨b, o, none⟩) :=
  ⟨fun b o h => hb.cell (p := ⟨b, o, none⟩) h, fun b o h => hb.frozen (p := ⟨b, o, none⟩) h⟩

/-- The four bytes of a word. -/
def le4 (n : Int) : List Int := [n % 256, n / 256 % 256, n / 65536 % 256, n / 16777216 % 256]
theorem le4_pos (n : Int) : 0 < (App.bytes (le4 n)).length := by simp [App.bytes, le4]
/-- The bytes ahead of the code, the first so many words. -/
def ahead (ns : List Int) (j : Nat) : List Int := [82, 51, 50, 10] ++ (ns.take j).flatMap le4

theorem ahead_succ (ns : List Int) (j : Nat) (h : j < ns.length) : ahead ns (j + 1) = ahead ns j ++ le4 (ns.getD j 0) := by
  have e : ns.getD j 0 = ns[j] := by simp [List.getD_eq_getElem?_getD, List.getElem?_eq_getElem h]
  unfold ahead
  rw [List.take_succ_eq_append_getElem h, List.flatMap_append, e, List.append_assoc]
  simp only [List.flatMap_cons, List.flatMap_nil, List.append_nil]

theorem ahead_length (ns : List Int) (j : Nat) (h : j ≤ ns.length) : (ahead ns j).length = 4 + 4 * j := by
  induction j with
  | zero => rfl
  | succ j ih => rw [ahead_succ ns j (by omega), List.length_append, ih (by omega)]; simp [le4]; omega

theorem two (w : World) (g : Nat) (C D : ByteArray) (h0 : w.cell? ⟨g, 0, none⟩ = some (.string C)) (h1 : w.cell? ⟨g, 1, none⟩ = some (.string D)) : Kd.C Kd.string w (some ⟨g, 0, none⟩) [C, D].length [C, D] := by
  refine Kd.C_of_reads (d := ByteArray.empty) ⟨rfl, by simp, fun _ => ⟨⟨g, 0, none⟩, rfl, fun j hj => ?_⟩⟩
  have e : (⟨g, 0, none⟩ : Addr).add j = ⟨g, j, none⟩ := by unfold Addr.add; split <;> simp_all
  rw [e]
  match j, hj with
  | 0, _ => exact h0
  | 1, _ => exact h1

theorem index6 (n0 n1 n2 n3 n4 n5 : Int) (j : Nat) (hj : j < 6) (w : World) :
    (Instr.index 37 (.agg #[.int .u32 n0, .int .u32 n1, .int .u32 n2, .int .u32 n3, .int .u32 n4, .int .u32 n5]) (.int .i64 (j : Int))).run Try.prog w = .ok (.int .u32 ([n0, n1, n2, n3, n4, n5].getD j 0)) w := by
  match j, hj with
  | 0, _ => rfl
  | 1, _ => rfl
  | 2, _ => rfl
  | 3, _ => rfl
  | 4, _ => rfl
  | 5, _ => rfl

/-- An image's bytes; s: their sum. -/
def img (C D : ByteArray) (g e f s : Int) : ByteArray := strOfNums (ahead [↑C.size % 4294967296, ↑D.size % 4294967296, g % 4294967296, e % 4294967296, f % 4294967296, s] 6) ++ C ++ D

theorem info5 : (Try.prog.info? 5).map (fun i => (i.zero, i.size, i.bytes)) = some (some (.int .u8 0), 1, 1) := by kernel_rfl

set_option maxHeartbeats 8000000 in
set_option maxRecDepth 100000 in
theorem write (k : Nat) (C D : ByteArray) (g e0 f s : Int) (w : World) (hk : Aside0 (machine_Check.f k C D g e0 f = some 0)) (hs : Aside0 (image_sum.f k [C, D] = some s))
   (hC : C.size ≤ 1048576) (hD : D.size ≤ 65536) (hsb : Hid (0 ≤ s ∧ s ≤ 4294967295)) (hl : ¬ 1048576 < 28 + (C.size : Int) + D.size) :
    Calls Try.prog 6 #[.agg #[.string C, .string D, .int .i64 g, .int .i64 e0, .int .i64 f]] w fun e w' => e = .returned (.tuple #[.string (img C D g e0 f s), .int .i64 0]) ∧ Below w.heap.size w w' := by
  obtain ⟨ti, hi, hz0, hz1, hz2⟩ := info_parts info5
  have kc := fun (w : World) (C : Array Value) (n c : Nat) => Lib.run_convert_bytes_const (P := Try.prog) w 32 5 C n c Try.underlying32 Try.underlying5
  go_enter Try.func6, Try.ntmps6
  go_wp2_with fail
  (with_reducible refine (machine_Check.calls k C D g e0 f _ _ hk.out).mono ?_)
  rintro e1 w1 ⟨rfl, hb⟩
  obtain ⟨hc, hf⟩ := bcell hb
  have hz : w.heap.size < w1.heap.size := by have := hb.size; simp at this; omega
  have hb1 : Aside0 (Below (w.heap.size + 1) (w.alloc (Obj.cells #[.string C, .string D, .int .i64 g, .int .i64 e0, .int .i64 f] 23)) w1) := ⟨hb.mono (by simp)⟩
  clear hb
  have f0 : w1.cell? ⟨w.heap.size, 0, none⟩ = some (.string C) := by rw [hc _ _ (by simp)]; simp [go_sem]
  have f1 : w1.cell? ⟨w.heap.size, 1, none⟩ = some (.string D) := by rw [hc _ _ (by simp)]; simp [go_sem]
  have f2 : w1.cell? ⟨w.heap.size, 2, none⟩ = some (.int .i64 g) := by rw [hc _ _ (by simp)]; simp [go_sem]
  have f3 : w1.cell? ⟨w.heap.size, 3, none⟩ = some (.int .i64 e0) := by rw [hc _ _ (by simp)]; simp [go_sem]
  have f4 : w1.cell? ⟨w.heap.size, 4, none⟩ = some (.int .i64 f) := by rw [hc _ _ (by simp)]; simp [go_sem]
  clear hc hf
  go_wp2_with fail
  go_region_held3 (fun w' => w'.cell? ⟨w.heap.size, 0, none⟩ = some (.string C) ∧ w'.cell? ⟨w.heap.size, 1, none⟩ = some (.string D) ∧ w'.cell? ⟨w.heap.size, 2, none⟩ = some (.int .i64 g) ∧ w'.cell? ⟨w.heap.size, 3, none⟩ = some (.int .i64 e0) ∧ w'.cell? ⟨w.heap.size, 4, none⟩ = some (.int .i64 f))
    (go_keep)
    (first | (go_at_call 12; refine (image_sum.calls k (some ⟨w1.heap.size + 1, 0, none⟩) 2 [C, D] s _ (two _ _ C D (by simp [go_sem]) (by simp [go_sem])) (by simp) hs.out).mono ?_; rintro e w' ⟨rfl, ⟨nd, rfl⟩⟩))
  go_wp2
  have hw : ∀ x, 0 ≤ IntKind.u32.wrap x ∧ IntKind.u32.wrap x ≤ 4294967295 := fun x => by rw [IntKind.wrap_u32]; omega
  have hb0 := hw ↑C.size
  have hb1' := hw ↑D.size
  have hb2 := hw g
  have hb3 := hw e0
  have hb4 := hw f
  clear hw
  generalize h0' : IntKind.u32.wrap ↑C.size = n0 at *
  generalize h1' : IntKind.u32.wrap ↑D.size = n1 at *
  generalize h2' : IntKind.u32.wrap g = n2 at *
  generalize h3' : IntKind.u32.wrap e0 = n3 at *
  generalize h4' : IntKind.u32.wrap f = n4 at *
  have H0 := Lib.hid h0'; have H1 := Lib.hid h1'; have H2 := Lib.hid h2'; have H3 := Lib.hid h3'; have H4 := Lib.hid h4'
  clear h0' h1' h2' h3' h4'
  have hB0 : Aside0 (Below (w.heap.size + 1) (w.alloc (Obj.cells #[.string C, .string D, .int .i64 g, .int .i64 e0, .int .i64 f] 23)) (((w1.alloc (Obj.cells #[.int .u8 82, .int .u8 51, .int .u8 50, .int .u8 10] 5 (4, 5))).alloc (Obj.cells #[.string C, .string D] 9)).drewN (1 + nd))) := ⟨pw_below_drewN ((hb1.out.alloc (by omega) _).alloc (by simp; omega) _) _⟩
  have hR0 : Aside0 (App.Row (((w1.alloc (Obj.cells #[.int .u8 82, .int .u8 51, .int .u8 50, .int .u8 10] 5 (4, 5))).alloc (Obj.cells #[.string C, .string D] 9)).drewN (1 + nd)) (w.heap.size + 1) 5 (.slice (some ⟨w1.heap.size, 0, none⟩) 4 4) (App.bytes (ahead [] 0))) := by
    refine ⟨.inr ⟨w1.heap.size, rfl, by omega, by simp; omega, fun j u hj => ?_⟩⟩
    rw [cell_of_row _ _ j _ _ _ (blk_drewN (blk_alloc (blk_new w1 _) _) _)]
    simpa [App.bytes, ahead] using hj
  obtain ⟨ns, hns⟩ : ∃ ns : List Int, ns = [n0, n1, n2, n3, n4, s] := ⟨_, rfl⟩
  have Hns := Lib.hid hns
  have hix : ∀ (j : Nat) (w : World), j < 6 → (Instr.index 37 (.agg #[.int .u32 n0, .int .u32 n1, .int .u32 n2, .int .u32 n3, .int .u32 n4, .int .u32 s]) (.int .i64 (j : Int))).run Try.prog w = .ok (.int .u32 (ns.getD j 0)) w := fun j w hj => by rw [hns]; exact index6 _ _ _ _ _ _ j hj w
  have hlen : Hid (ns.length = 6) := by subst hns; rfl
  have hnb : Hid (∀ j, 0 ≤ ns.getD j 0 ∧ ns.getD j 0 ≤ 4294967295) := by
    intro j
    subst hns
    match j with
    | 0 => exact hb0
    | 1 => exact hb1'
    | 2 => exact hb2
    | 3 => exact hb3
    | 4 => exact hb4
    | 5 => exact hsb.out
    | j + 6 => simp
  clear hns
  have hix' := Lib.hid hix; clear hix
  go_loopw [5, 48] (fun v i wr => ∃ j : Nat, j ≤ 6 ∧ i = .int .i64 j ∧ App.Row wr (w.heap.size + 1) 5 v (App.bytes (ahead ns j)) ∧ Below (w.heap.size + 1) (w.alloc (Obj.cells #[.string C, .string D, .int .i64 g, .int .i64 e0, .int .i64 f] 23)) wr) (fun _ i _ => 6 - (intOf i).toNat)
  case atStart => exact ⟨0, by omega, rfl, hR0.out, hB0.out⟩
  case round =>
    obtain ⟨j, hj, rfl, hrow, hbel⟩ := hrel
    have hrow' := Aside0.mk hrow; clear hrow
    have hbel' := Aside0.mk hbel; clear hbel
    by_cases hlt : j < 6
    · have hi6 := fun w => hix'.out j w hlt
      have hn0 := hnb.out j
      have hH := Lib.hid (ahead_succ ns j (by rw [hlen.out]; exact hlt))
      generalize ns.getD j 0 = n at hi6 hn0 hH
      obtain ⟨hn0, hn1⟩ := hn0
      have hal : (ahead ns j).length ≤ 28 := by rw [ahead_length ns j (by rw [hlen.out]; omega)]; omega
      go_wp2_with (at_builtin; go_loud (refine App.append rfl _ _ 32 rfl (w.heap.size + 1) 5 ti (.int .u8 0) 1 Try.underlying32 hi hz0 hz1 hz2 rfl _ (App.bytes (ahead ns j)) rfl (hrow'.out.alloc _) ⟨wr.heap.size, 0, none⟩ 4 (App.bytes [n % 256, n / 256 % 256, n / 65536 % 256, n / 16777216]) rfl (by simp [App.bytes]) ?c1 ?c2 ?c3 ?c4 ?c5 ?_); (go_loud (case c1 => exact World.news_of_block (cs := (App.bytes [n % 256, n / 256 % 256, n / 65536 % 256, n / 16777216]).toArray) (t := 5) (fr := (0, 0)) (heap_alloc_new wr _))); (go_loud (case c2 => simp [App.bytes, Value.oneCell'])); (go_loud (case c3 => simp [App.bytes, maxLen]; omega)); (go_loud (case c4 => simp [App.bytes]; omega)); (go_loud (case c5 => simp; have := hbel'.out.size; simp at this; omega)); intro v' w' hown hbl)
      go_roundw
      case rel =>
        refine ⟨j + 1, by omega, by go_num, ?_, ?_⟩
        · rw [hH.out, show le4 n = [n % 256, n / 256 % 256, n / 65536 % 256, n / 16777216] by unfold le4; rw [show n / 16777216 % 256 = n / 16777216 by omega]]
          unfold App.bytes at hown ⊢
          rw [← List.map_append] at hown
          exact .inl hown
        · exact (hbel'.out.alloc (by have := hbel'.out.size; simp at this; omega) _).trans hbl
      case measure => simp [intOf]; omega
    · obtain rfl : j = 6 := by omega
      have hcv := App.string (P := Try.prog) Try.underlying32 Try.underlying5 Try.underlying9 hrow'.out
      have g0 : wr.cell? ⟨w.heap.size, 0, none⟩ = some (.string C) := by rw [hbel'.out.cell (by simp)]; simp [go_sem]
      have g1 : wr.cell? ⟨w.heap.size, 1, none⟩ = some (.string D) := by rw [hbel'.out.cell (by simp)]; simp [go_sem]
      have hal : (strOfNums (ahead ns 6)).size = 28 := by
        have := ahead_length ns 6 (by rw [hlen.out]; omega)
        simp [strOfNums, ByteArray.size, this]
      have hR := Lib.hid (show strOfNums (ahead ns 6) = strOfNums (ahead [n0, n1, n2, n3, n4, s] 6) by rw [Hns.out])
      generalize strOfNums (ahead ns 6) = hd at hcv hal hR
      have hs1 : hd.size + C.size ≤ 9223372036854775807 := by omega
      have hs2 : (hd ++ C).size + D.size ≤ 9223372036854775807 := by rw [ByteArray.size_append]; omega
      go_wp2
      go_ret2
      refine ⟨?_, ?_⟩
      · unfold img
        rw [hR.out, ← H0.out, ← H1.out, ← H2.out, ← H3.out, ← H4.out]
        simp only [IntKind.wrap_u32]
        rfl
      · exact (below_alloc (Below.refl _ _) _).trans (hbel'.out.mono (by omega))

set_option maxHeartbeats 8000000 in
set_option maxRecDepth 100000 in
theorem long (k : Nat) (C D : ByteArray) (g e f : Int) (w : World) (hk : Aside0 (machine_Check.f k C D g e f = some 0))
   (hC : C.size ≤ 1048576) (hD : D.size ≤ 65536) (hl : 1048576 < 28 + (C.size : Int) + D.size) :
    Calls Try.prog 6 #[.agg #[.string C, .string D, .int .i64 g, .int .i64 e, .int .i64 f]] w fun e w' => e = .returned (.tuple #[.string ByteArray.empty, .int .i64 3]) ∧ Below w.heap.size w w' := by
  go_enter Try.func6, Try.ntmps6
  go_wp2_with fail
  (with_reducible refine (machine_Check.calls k C D g e f _ _ hk.out).mono ?_)
  rintro e1 w1 ⟨rfl, hb⟩
  obtain ⟨hc, hf⟩ := bcell hb
  have hz : w.heap.size < w1.heap.size := by have := hb.size; simp at this; omega
  have hb1 : Aside0 (Below w.heap.size w w1) := ⟨(below_alloc (Below.refl _ _) _).trans (hb.mono (by simp))⟩
  clear hb
  go_wp2
  go_ret2
  exact ⟨rfl, hb1.out⟩

set_option maxHeartbeats 8000000 in
set_option maxRecDepth 100000 in
theorem refused (k : Nat) (C D : ByteArray) (g e f : Int) (w : World) (hk : Aside0 (machine_Check.f k C D g e f = some 1)) :
    Calls Try.prog 6 #[.agg #[.string C, .string D, .int .i64 g, .int .i64 e, .int .i64 f]] w fun e w' => e = .returned (.tuple #[.string ByteArray.empty, .int .i64 1]) ∧ Below w.heap.size w w' := by
  go_enter Try.func6, Try.ntmps6
  go_wp2_with fail
  (with_reducible refine (machine_Check.calls k C D g e f _ _ hk.out).mono ?_)
  rintro e1 w1 ⟨rfl, hb⟩
  have hb1 : Aside0 (Below w.heap.size w w1) := ⟨(below_alloc (Below.refl _ _) _).trans (hb.mono (by simp))⟩
  clear hb
  go_wp2
  go_ret2
  exact ⟨rfl, hb1.out⟩

end Go.Proofs.Ytbalpmpaccfpiaa.Write
