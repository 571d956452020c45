/- The program's memory: bytes laid and told, and a new one. -/
import Derived.Test.YtbhkfdjofopfkaaMemA
import Derived.Lib.LazyBuf
import Derived.Laws.IdiomCopy
namespace Go.Proofs.Ytbhkfdjofopfkaa.MemA
open Go.RowKit Go.Proofs.YtbhkfdjofopfkaaW.PrintWords
set_option linter.unusedVariables false
set_option linter.unusedSimpArgs false

/-- Bytes laid from a place on, one by one. -/
def lay (b : List Int) : Nat → List Int → List Int
  | _, [] => b
  | a, x :: l => lay (b.set a x) (a + 1) l
theorem lay_length : ∀ (l : List Int) (a : Nat) (b : List Int), (lay b a l).length = b.length
  | [], _, _ => rfl
  | x :: l, a, b => by rw [lay, lay_length l, List.length_set]
theorem Mem.puts {T g h : Nat} : ∀ (l : List Int) (a : Nat) (b : List Int) (w : World), Mem T w g h b → Mem T (w.setCells h a (l.map (Value.int .u8))) g h (lay b a l)
  | [], _, _, _, m => m
  | x :: l, a, b, w, m => Mem.puts l (a + 1) (b.set a x) _ (m.put a x)
theorem Mem.C {T : Nat} {w : World} {g h : Nat} {b : List Int} (m : Mem T w g h b) (hb : b.length ≤ 9223372036854775807) : (Kd.int .u8).C w (some ⟨h, 0, none⟩) b.length b := by
  refine Kd.C_of_reads (d := (0 : Int)) ⟨rfl, hb, fun _ => ⟨⟨h, 0, none⟩, rfl, fun j hj => ?_⟩⟩
  rw [add_plain]
  exact m.at_ j hj
theorem size5 : ∀ w, (Go.sizeOf 5).run Try.prog w = .ok 1 w := fun w => by kernel_rfl

set_option maxHeartbeats 4000000 in
set_option maxRecDepth 100000 in
theorem fill_no {w : World} {p : Value} {n a : Nat} (s : ByteArray) (hs : Aside0 (Sz p n w)) (hn : n ≤ 262144) (ha : a < 4294967296) (hsz : s.size ≤ 140737488351232) (h : n = 0 ∨ n < a + s.size) :
    Calls Try.prog 29 #[p, .int .u32 (a : Int), .string s] w fun e w' => e = .returned (.int .i64 1) ∧ w = w' := by
  by_cases h0 : n = 0
  · subst h0
    clear h
    go_enter Try.func29, Try.ntmps29
    go_wp2_with ((with_reducible refine (Sz.call hs.out).mono ?_); rintro e w' ⟨rfl, rfl⟩)
    go_ret
    exact ⟨rfl, rfl⟩
  · have hlt : n < a + s.size := by omega
    have h0' : ((n : Int) == 0) = false := by simp; omega
    clear h
    by_cases h1 : n < a
    · go_enter Try.func29, Try.ntmps29
      go_wp2_with ((with_reducible refine (Sz.call hs.out).mono ?_); rintro e w' ⟨rfl, rfl⟩)
      go_ret
      exact ⟨rfl, rfl⟩
    · go_enter Try.func29, Try.ntmps29
      go_wp2_with ((with_reducible refine (Sz.call hs.out).mono ?_); rintro e w' ⟨rfl, rfl⟩)
      go_ret
      exact ⟨rfl, rfl⟩

set_option maxHeartbeats 4000000 in
set_option maxRecDepth 100000 in
theorem fill_yes {w : World} {g h : Nat} {b : List Int} (m : Aside0 (Mem 94 w g h b)) {a : Nat} (s : ByteArray) (hn : b.length ≤ 262144) (ha : a < 4294967296) (hsz : s.size ≤ 140737488351232) (h0 : b.length ≠ 0) (hlt : a + s.size ≤ b.length) :
    Calls Try.prog 29 #[.pointer (some ⟨g, 0, none⟩), .int .u32 (a : Int), .string s] w fun e w' => e = .returned (.int .i64 0) ∧ w' = w.setCells h a ((bytesOf s).map (Value.int .u8)) := by
  have hs := Aside0.mk (size m)
  have hc := m.out.c0
  have hbs : Aside0 ((bytesOf s).map (Value.int .u8) = s.data.toList.map fun x => Value.int .u8 (x.toNat : Int)) := ⟨by unfold bytesOf; rw [List.map_map]; rfl⟩
  have h0' : ((b.length : Int) == 0) = false := by simp; intro h; exact h0 (by simp [h])
  have hap := add1 h a
  have hap0 := add_plain h a
  have ha' : a ≤ b.length := by omega
  by_cases he : a = b.length
  · have hs0 : s.size = 0 := by omega
    have hcp := fun (o : Nat) => _root_.Go.run_copy_string (P := Try.prog) w 46 9 3 5 h o 0 0 s Try.underlying46 size5 (by omega) (fun j hj => by omega) (fun j hj => by omega)
    have hz : ∀ o, w.setCells h o (s.data.toList.map fun x => Value.int .u8 (x.toNat : Int)) = w := fun o => by
      have : s.data.toList = [] := by have := data_length s; rw [hs0] at this; exact List.length_eq_zero_iff.mp this
      rw [this]; rfl
    have hz' := Aside0.mk hz
    have hcp' : ∀ o, (Builtin.copy_ #[46, 9] 3 #[.slice (some ⟨h, o, none⟩) 0 0, .string s]).run Try.prog w = .ok (goInt s.size) w := fun o => by rw [hcp o, hz o]
    clear hcp hz
    rw [hbs.out, hz'.out]
    subst he
    go_enter Try.func29, Try.ntmps29
    go_wp2_with ((with_reducible refine (Sz.call hs.out).mono ?_); rintro e w' ⟨rfl, rfl⟩)
    go_ret
    exact ⟨rfl, rfl⟩
  · have hcp := _root_.Go.run_copy_string (P := Try.prog) w 46 9 3 5 h a (b.length - a) (b.length - a) s Try.underlying46 size5 (by omega) (fun j hj => by rw [m.out.at_ (a + j) (by omega)]; rfl) (fun j hj => m.out.fz (a + j))
    rw [hbs.out]
    go_enter Try.func29, Try.ntmps29
    go_wp2_with ((with_reducible refine (Sz.call hs.out).mono ?_); rintro e w' ⟨rfl, rfl⟩)
    go_ret
    exact ⟨rfl, rfl⟩
set_option maxHeartbeats 4000000 in
set_option maxRecDepth 100000 in
theorem bytes_no {w : World} {p : Value} {n a : Nat} (k : Int) (hs : Aside0 (Sz p n w)) (hn : n ≤ 262144) (ha : a < 4294967296) (hk0 : -9223372036854775808 ≤ k) (hk1 : k ≤ 9223372036854775807) (h : n = 0 ∨ k < 0 ∨ (n : Int) < a + k) :
    Calls Try.prog 24 #[p, .int .u32 (a : Int), .int .i64 k] w fun e w' => e = .returned (.tuple #[.string ⟨#[]⟩, .int .i64 1]) ∧ w = w' := by
  by_cases h0 : n = 0
  · subst h0
    clear h
    go_enter Try.func24, Try.ntmps24
    go_wp2_with ((with_reducible refine (Sz.call hs.out).mono ?_); rintro e w' ⟨rfl, rfl⟩)
    go_ret2
    exact ⟨rfl, rfl⟩
  · have h0' : ((n : Int) == 0) = false := by simp; omega
    by_cases h1 : k < 0
    · clear h
      go_enter Try.func24, Try.ntmps24
      go_wp2_with ((with_reducible refine (Sz.call hs.out).mono ?_); rintro e w' ⟨rfl, rfl⟩)
      go_ret2
      exact ⟨rfl, rfl⟩
    · have hlt : (n : Int) < a + k := by omega
      clear h
      by_cases h2 : n < a
      · go_enter Try.func24, Try.ntmps24
        go_wp2_with ((with_reducible refine (Sz.call hs.out).mono ?_); rintro e w' ⟨rfl, rfl⟩)
        go_ret2
        exact ⟨rfl, rfl⟩
      · go_enter Try.func24, Try.ntmps24
        go_wp2_with ((with_reducible refine (Sz.call hs.out).mono ?_); rintro e w' ⟨rfl, rfl⟩)
        go_ret2
        exact ⟨rfl, rfl⟩
set_option maxHeartbeats 4000000 in
set_option maxRecDepth 100000 in
theorem bytes_yes {w : World} {g h : Nat} {b : List Int} (m : Aside0 (Mem 94 w g h b)) {a k : Nat} (hn : b.length ≤ 262144) (ha : a < 4294967296) (h0 : b.length ≠ 0) (hlt : a + k ≤ b.length) :
    Calls Try.prog 24 #[.pointer (some ⟨g, 0, none⟩), .int .u32 (a : Int), .int .i64 (k : Int)] w fun e w' => e = .returned (.tuple #[.string (strOfNums ((b.take (a + k)).drop a)), .int .i64 0]) ∧ w = w' := by
  have hs := Aside0.mk (size m)
  have hc := m.out.c0
  have h0' : ((b.length : Int) == 0) = false := by simp; intro h; exact h0 (by simp [h])
  have hap := add1 h a
  have hap0 := add_plain h a
  have ha' : a ≤ b.length := by omega
  have hmid := Kd.C_mid (m.out.C (by omega)) (lo := a) (hi := a + k) (by omega) hlt (Nat.le_refl _)
  have hl : ((b.take (a + k)).drop a).length = k := by rw [List.length_drop, List.length_take]; omega
  by_cases he : a = b.length
  · have hcv := Kd.C_string (P := Try.prog) (src := 46) (dst := 9) (e := 5) (c := 0) Try.underlying46 Try.underlying5 Try.underlying9 hmid
    rw [if_pos he.symm, hl] at hcv
    have hk : k = 0 := by omega
    subst hk he
    clear hmid hl
    go_enter Try.func24, Try.ntmps24
    go_wp2_with ((with_reducible refine (Sz.call hs.out).mono ?_); rintro e w' ⟨rfl, rfl⟩)
    go_ret2
    refine ⟨?_, rfl⟩
    show Ending.returned (.tuple #[.string (strOfNums []), .int .i64 0]) = _
    rw [List.drop_of_length_le (by simp)]
  · have hcv0 := Kd.C_string (P := Try.prog) (src := 46) (dst := 9) (e := 5) (c := b.length - a) Try.underlying46 Try.underlying5 Try.underlying9 hmid
    rw [if_neg (fun h => he h.symm), hl] at hcv0
    have hcv : (convert 46 9 (.slice (some ⟨h, a, none⟩) k (b.length - a))).run Try.prog w = .ok (.string (strOfNums ((b.take (a + k)).drop a))) w := by
      have e : (some (⟨h, 0, none⟩ : Addr)).map (fun x => x.add (a * (Kd.int .u8).sz)) = some ⟨h, a, none⟩ := by
        show some ((⟨h, 0, none⟩ : Addr).add (a * 1)) = _
        rw [Nat.mul_one, add_plain]
      rw [e] at hcv0
      exact hcv0
    clear hmid hl hcv0
    have hkk : a + k - a = k := by omega
    generalize strOfNums ((b.take (a + k)).drop a) = s at *
    go_enter Try.func24, Try.ntmps24
    go_wp2_with ((with_reducible refine (Sz.call hs.out).mono ?_); rintro e w' ⟨rfl, rfl⟩)
    go_ret2
    exact ⟨rfl, rfl⟩
set_option maxHeartbeats 4000000 in
set_option maxRecDepth 100000 in
theorem new_no {w : World} {n : Int} (h : n < 1 ∨ 262144 < n) :
    Calls Try.prog 28 #[.int .i64 n] w fun e w' => e = .returned (.tuple #[.pointer none, .int .i64 1]) ∧ w = w' := by
  by_cases h1 : n < 1
  · clear h
    go_enter Try.func28, Try.ntmps28
    go_wp2
    go_ret2
    exact ⟨rfl, rfl⟩
  · have h2 : 262144 < n := by omega
    clear h
    go_enter Try.func28, Try.ntmps28
    go_wp2
    go_ret2
    exact ⟨rfl, rfl⟩
/-- What New leaves: a memory of noughts, in new blocks. -/
def Made (T n : Nat) (w : World) (e : Ending) (w' : World) : Prop := ∃ g h, e = .returned (.tuple #[.pointer (some ⟨g, 0, none⟩), .int .i64 0]) ∧ Mem T w' g h (List.replicate n 0) ∧ w.heap.size ≤ g ∧ w.heap.size ≤ h ∧ Below w.heap.size w w'
theorem info5 : (Try.prog.info? 5).map (fun i => (i.zero, i.size, i.bytes)) = some (some (.int .u8 0), 1, 1) := by kernel_rfl
set_option maxHeartbeats 4000000 in
set_option maxRecDepth 100000 in
theorem new_yes {w : World} {n : Nat} (h1 : 1 ≤ n) (h2 : n ≤ 262144) : Calls Try.prog 28 #[.int .i64 (n : Int)] w (Made 94 n w) := by
  have hmk := print_make (P := Try.prog) 46 5 .u8 1 Try.underlying46 info5 (by decide) n (by omega)
  go_enter Try.func28, Try.ntmps28
  go_wp2
  go_ret2
  have hm : madeCells #[.int .u8 0] n = (nums .u8 (List.replicate n 0)).toArray := by
    apply Array.ext
    · simp [size_madeCells, nums]
    · intro i h1 h2
      simp [madeCells, nums]
      rw [show i % 1 = 0 by omega]
      rfl
  have hsz : (w.alloc (Obj.cells (madeCells #[.int .u8 0] n) 5)).heap.size = w.heap.size + 1 := by simp
  refine ⟨w.heap.size + 1, w.heap.size, rfl, ⟨?_, ?_, by omega⟩, by omega, by omega, below_alloc (below_alloc (Below.refl _ _) _) _⟩
  · have h := blk_new (w.alloc (Obj.cells (madeCells #[.int .u8 0] n) 5)) (.cells #[.slice (some ⟨w.heap.size, 0, none⟩) n n] 94)
    rw [hsz] at h
    rw [List.length_replicate]
    exact h
  · have h := blk_alloc (blk_new w (Obj.cells (madeCells #[.int .u8 0] n) 5)) (.cells #[.slice (some ⟨w.heap.size, 0, none⟩) n n] 94)
    rw [hm] at h ⊢
    exact h
end Go.Proofs.Ytbhkfdjofopfkaa.MemA
