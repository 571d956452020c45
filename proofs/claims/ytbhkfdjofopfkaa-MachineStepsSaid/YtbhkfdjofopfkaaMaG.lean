/- The machine's pure part: what a word is read as, what an operation of two words tells. -/
import Derived.Test.YtbhkfdjofopfkaaMaF
import Derived.Test.YtbhkfdjofopfkaaMaD
import Derived.Test.YtbhkfdjofopfkaaRefIsa4
import Derived.Test.YtbhkfdjofopfkaaPA
import Derived.Test.YtbhkfdjofopfkaaPB
namespace Go.Proofs.Ytbhkfdjofopfkaa.MemA
open Go.RowKit Go.Proofs.YtbhkfdjofopfkaaW.PrintWords Go.Proofs.YtbhkfdjofopfkaaW.PrintLast Go.Proofs.Ytbhkfdjofopfkaa.PMachineSteps Go.Proofs.Ytbhkfdjofopfkaa.FactsDec
set_option linter.unusedVariables false
set_option linter.unusedSimpArgs false
/-- An instruction, as data. -/
structure In where
  op : Int
  d : Nat
  a : Nat
  b : Nat
  i : Int
def In.v (x : In) : Value := insV x.op x.d x.a x.b x.i
structure In.Ok (x : In) : Prop where
  op : (1 ≤ x.op ∧ x.op ≤ 19) ∨ (32 ≤ x.op ∧ x.op ≤ 47)
  d : x.d < 16
  a : x.a < 16
  b : x.b < 16
  i : -8388608 ≤ x.i ∧ x.i ≤ 8388607
  t : x.op = 46 → 1 ≤ x.i ∧ x.i ≤ 5
/-- What a word is read as. -/
def dcd (w : Int) : Option In :=
  match isa_Decode.f 10 w with
  | some (op, d, a, b, i, e) => if e = 0 then some ⟨op, d.toNat, a.toNat, b.toNat, i⟩ else none
  | none => none
def dcdE (w : Int) (o : Option In) (e : Ending) : Prop := match o with
  | some x => e = .returned (.tuple #[x.v, .int .i64 0])
  | none => e = .returned (.tuple #[insV 0 0 0 0 0, .int .i64 1])
theorem dcd_out (w : Int) (w0 : 0 ≤ w) (w1 : w < 4294967296) : (∀ x, dcd w = some x → x.Ok) ∧ ∃ r1 r2 r3 r4 r5 r6, isa_Decode.f 10 w = some (r1, r2, r3, r4, r5, r6) ∧
    (∀ e, e = Ending.returned (.tuple #[.agg #[.int .i64 r1, .int .i64 r2, .int .i64 r3, .int .i64 r4, .int .i32 r5], .int .i64 r6]) → dcdE w (dcd w) e) ∧
    (∀ p sd sa sb bits sign is lo hi, Cl (w / 16777216) p sd sa sb bits sign is lo hi → dec w (w / 16777216) sd sa sb bits sign is lo hi = (r1, r2, r3, r4, r5, r6)) := by
  obtain ⟨p, sd, sa, sb, bits, sign, is, lo, hi, h⟩ := cl (w / 16777216)
  have hd := isaDec 0 w w0 w1 h
  have hd10 : isa_Decode.f 10 w = some (dec w (w / 16777216) sd sa sb bits sign is lo hi) := hd
  have huniq : ∀ p' sd' sa' sb' bits' sign' is' lo' hi', Cl (w / 16777216) p' sd' sa' sb' bits' sign' is' lo' hi' → dec w (w / 16777216) sd' sa' sb' bits' sign' is' lo' hi' = dec w (w / 16777216) sd sa sb bits sign is lo hi := by
    intro p' sd' sa' sb' bits' sign' is' lo' hi' h'
    have := isaDec 0 w w0 w1 h'
    rw [hd] at this
    exact (Option.some.inj this).symm
  unfold dcd
  rw [hd10]
  by_cases hk : ok (fld w sd 1048576) (fld w sa 65536) (fld w sb 4096) (im w bits sign) sd sa sb is lo hi = true ∧ E (w / 16777216) (fld w sd 1048576) (fld w sa 65536) (fld w sb 4096) (im w bits sign) bits = w
  · have e : dec w (w / 16777216) sd sa sb bits sign is lo hi = (w / 16777216, fld w sd 1048576, fld w sa 65536, fld w sb 4096, im w bits sign, 0) := by unfold dec; rw [if_pos hk]
    obtain ⟨k1, ⟨d1, d2, d3⟩, ⟨a1, a2, a3⟩, ⟨b1, b2, b3⟩, i1, i2⟩ := ok_out hk.1
    rw [e]
    generalize hdD : fld w sd 1048576 = D at *
    generalize hdA : fld w sa 65536 = A at *
    generalize hdB : fld w sb 4096 = B at *
    generalize hdI : im w bits sign = I at *
    generalize w / 16777216 = op at *
    refine ⟨fun x hx => ?_, op, D, A, B, I, 0, rfl, fun e' he => ?_, fun p' sd' sa' sb' bits' sign' is' lo' hi' h' => by rw [huniq _ _ _ _ _ _ _ _ _ h', e]⟩
    · simp only [if_true] at hx
      obtain rfl := (Option.some.inj hx).symm
      refine ⟨?_, by show D.toNat < 16; omega, by show A.toNat < 16; omega, by show B.toNat < 16; omega, ?_, ?_⟩
      · show (1 ≤ op ∧ op ≤ 19) ∨ (32 ≤ op ∧ op ≤ 47)
        unfold Cl at h
        rcases h with h | h | h | h | h | h | h | h | h | h | h
        all_goals first
          | (obtain ⟨h, _⟩ := h; omega)
          | (obtain ⟨_, _, _, _, _, _, _, h, _⟩ := h; rw [k1] at h; exact absurd h (by decide))
      · show -8388608 ≤ I ∧ I ≤ 8388607
        unfold Cl at h
        rcases h with h | h | h | h | h | h | h | h | h | h | h
        all_goals (obtain ⟨_, _, _, _, _, _, _, _, rfl, rfl⟩ := h; omega)
      · show op = 46 → 1 ≤ I ∧ I ≤ 5
        intro ho
        unfold Cl at h
        rcases h with h | h | h | h | h | h | h | h | h | h | h
        all_goals first
          | (obtain ⟨h, _⟩ := h; omega)
          | (obtain ⟨_, _, _, _, _, _, _, _, rfl, rfl⟩ := h; omega)
    · subst he
      simp only [if_true, dcdE, In.v]
      rw [show ((D.toNat : Nat) : Int) = D by omega, show ((A.toNat : Nat) : Int) = A by omega, show ((B.toNat : Nat) : Int) = B by omega]
  · have e : dec w (w / 16777216) sd sa sb bits sign is lo hi = (0, 0, 0, 0, 0, 1) := by unfold dec; rw [if_neg hk]
    rw [e]
    refine ⟨fun x hx => ?_, 0, 0, 0, 0, 0, 1, rfl, fun e' he => ?_, fun p' sd' sa' sb' bits' sign' is' lo' hi' h' => by rw [huniq _ _ _ _ _ _ _ _ _ h', e]⟩
    · simp at hx
    · subst he
      simp [dcdE]
/-- The program's Decode; the reference's. -/
theorem decP (w : Int) (w0 : 0 ≤ w) (w1 : w < 4294967296) (W : World) : Calls Try.prog 49 #[.int .u32 w] W fun e w' => dcdE w (dcd w) e ∧ Below W.heap.size W w' := by
  obtain ⟨_, r1, r2, r3, r4, r5, r6, h, he, _⟩ := dcd_out w w0 w1
  exact (isa_Decode.calls 10 w r1 r2 r3 r4 r5 r6 W h).mono fun e w' ⟨h1, h2⟩ => ⟨he e h1, h2⟩
theorem decR (w : Int) (w0 : 0 ≤ w) (w1 : w < 4294967296) (W : World) : Calls Try.prog 57 #[.int .u32 w] W fun e w' => dcdE w (dcd w) e ∧ Below W.heap.size W w' := by
  obtain ⟨_, r1, r2, r3, r4, r5, r6, h, he, hu⟩ := dcd_out w w0 w1
  obtain ⟨p, sd, sa, sb, bits, sign, is, lo, hi, hc⟩ := cl (w / 16777216)
  refine (RefIsa.decode w W w0 w1 hc).mono fun e w' ⟨h1, h2⟩ => ⟨he e ?_, h2⟩
  unfold RefIsa.Six at h1
  rw [hu _ _ _ _ _ _ _ _ _ hc] at h1
  exact h1
/-! ### Two words' operation -/
def alu (op a b : Int) : Int × Int := (crucibleref01_Alu.f op a b).getD (0, 0)
theorem wrap_mod32 (b : Int) (h : 0 ≤ b) : IntKind.u64.wrap (Int.tmod b 32) = Int.tmod b 32 := by
  rw [Int.tmod_eq_emod_of_nonneg h]
  simp only [IntKind.wrap, IntKind.bits, IntKind.signed]
  simp
  omega
theorem divides_eq (a b c : Int) : crucibleref01_divides.f a b c = word_divided.f a b c := rfl
theorem one_eq (b : Bool) : crucibleref01_one.f b = word_truth.f b := rfl
theorem truth_some (b : Bool) : ∃ r, word_truth.f b = some r := by cases b <;> exact ⟨_, rfl⟩
theorem divided_some (a b c : Int) (h0 : 0 ≤ c) (h1 : c ≤ 4294967295) (hc : c ≠ 0) : ∃ r, word_divided.f a b c = some r := by
  have hw : wrap64 (wrap32 c) ≠ 0 := by unfold wrap64 wrap32; omega
  unfold word_divided.f
  rw [if_neg hc, if_neg hw]
  split
  · exact ⟨_, rfl⟩
  · split
    · exact ⟨_, rfl⟩
    · split <;> exact ⟨_, rfl⟩

/-- The two tell the same, and something. -/
theorem alu_eq (k : Nat) (a b c : Int) (hc0 : 0 ≤ c) (hc1 : c ≤ 4294967295) :
    word_Alu.f (k + 1) a b c = crucibleref01_Alu.f a b c ∧ ∃ r, crucibleref01_Alu.f a b c = some r := by
  have hm := wrap_mod32 c hc0
  have hm0 : 0 ≤ Int.tmod c 32 := by rw [Int.tmod_eq_emod_of_nonneg hc0]; omega
  unfold word_Alu.f crucibleref01_Alu.f crucibleref01_Traps.f
  simp only [word_Alu.j0, word_compared.f, hm, if_pos hm0, divides_eq, one_eq]
  by_cases h1 : a = 1
  · subst h1; exact ⟨by simp, by simp⟩
  by_cases h2 : a = 2
  · subst h2; exact ⟨by simp, by simp⟩
  by_cases h3 : a = 3
  · subst h3; exact ⟨by simp, by simp⟩
  by_cases h4 : a = 4 ∨ a = 5 ∨ a = 6 ∨ a = 7
  · by_cases hc : c = 0
    · rcases h4 with rfl | rfl | rfl | rfl <;> simp [hc]
    · obtain ⟨r, hr⟩ := divided_some a b c hc0 hc1 hc
      rcases h4 with rfl | rfl | rfl | rfl <;> simp [hc, hr]
  · have e4 : a ≠ 4 := fun h => h4 (by simp [h])
    have e5 : a ≠ 5 := fun h => h4 (by simp [h])
    have e6 : a ≠ 6 := fun h => h4 (by simp [h])
    have e7 : (a == 7) = false := by rw [beq_eq_false_iff_ne]; exact fun h => h4 (by simp [h])
    simp only [if_neg h1, if_neg h2, if_neg h3, if_neg e4, if_neg e5, if_neg e6, e7]
    by_cases h8 : a = 8
    · subst h8; exact ⟨by simp, by simp⟩
    by_cases h9 : a = 9
    · subst h9; exact ⟨by simp, by simp⟩
    by_cases h10 : a = 10
    · subst h10; exact ⟨by simp, by simp⟩
    by_cases h11 : a = 11
    · subst h11; exact ⟨by simp, by simp⟩
    by_cases h12 : a = 12
    · subst h12; exact ⟨by simp, by simp⟩
    by_cases h13 : a = 13
    · subst h13; exact ⟨by simp, by simp⟩
    simp only [if_neg h8, if_neg h9, if_neg h10, if_neg h11, if_neg h12, if_neg h13]
    obtain ⟨t1, e1⟩ := truth_some (b == c)
    obtain ⟨t2, e2⟩ := truth_some (b != c)
    obtain ⟨t3, e3⟩ := truth_some (decide (wrap32 b < wrap32 c))
    obtain ⟨t4, e4⟩ := truth_some (decide (b < c))
    obtain ⟨t5, e5⟩ := truth_some (decide (wrap32 b ≤ wrap32 c))
    obtain ⟨t6, e6⟩ := truth_some (decide (b ≤ c))
    simp only [e1, e2, e3, e4, e5, e6, Option.bind_some]
    by_cases h14 : a = 14
    · subst h14; exact ⟨by simp, by simp⟩
    by_cases h15 : a = 15
    · subst h15; exact ⟨by simp, by simp⟩
    by_cases h16 : a = 16
    · subst h16; exact ⟨by simp, by simp⟩
    by_cases h17 : a = 17
    · subst h17; exact ⟨by simp, by simp⟩
    by_cases h18 : a = 18
    · subst h18; exact ⟨by simp, by simp⟩
    by_cases h19 : a = 19
    · subst h19; exact ⟨by simp, by simp⟩
    simp [if_neg h14, if_neg h15, if_neg h16, if_neg h17, if_neg h18, if_neg h19]

theorem alu_some (op a b : Int) (b0 : 0 ≤ b) (b1 : b ≤ 4294967295) : crucibleref01_Alu.f op a b = some ((alu op a b).1, (alu op a b).2) ∧ word_Alu.f 1 op a b = some ((alu op a b).1, (alu op a b).2) := by
  obtain ⟨h1, r, h2⟩ := alu_eq 0 op a b b0 b1
  rw [h1]
  unfold alu
  rw [h2]
  exact ⟨rfl, rfl⟩
theorem aluP (op a b : Int) (b0 : 0 ≤ b) (b1 : b ≤ 4294967295) (W : World) : Calls Try.prog 37 #[.int .i64 op, .int .u32 a, .int .u32 b] W fun e w' => e = .returned (.tuple #[.int .u32 (alu op a b).1, .int .i64 (alu op a b).2]) ∧ ∃ n, w' = W.drewN n :=
  (word_Alu.calls 1 op a b _ _ W (alu_some op a b b0 b1).2).mono fun e w' ⟨h1, h2⟩ => ⟨h1, h2.out⟩
theorem aluR (op a b : Int) (b0 : 0 ≤ b) (b1 : b ≤ 4294967295) (W : World) : Calls Try.prog 43 #[.int .i64 op, .int .u32 a, .int .u32 b] W fun e w' => e = .returned (.tuple #[.int .u32 (alu op a b).1, .int .i64 (alu op a b).2]) ∧ ∃ n, w' = W.drewN n :=
  (crucibleref01_Alu.calls op a b _ _ W (alu_some op a b b0 b1).1).mono fun e w' ⟨h1, h2⟩ => ⟨h1, h2.out⟩
theorem u32w (z : Int) : 0 ≤ IntKind.u32.wrap z ∧ IntKind.u32.wrap z ≤ 4294967295 := by
  show 0 ≤ z % 4294967296 ∧ z % 4294967296 ≤ 4294967295
  omega
theorem one_bd (t : Bool) : ∃ r, crucibleref01_one.f t = some r ∧ 0 ≤ r ∧ r ≤ 1 := by cases t <;> exact ⟨_, rfl, by decide, by decide⟩
theorem div_bd (op a b : Int) (a0 : 0 ≤ a) (a1 : a ≤ 4294967295) (b0 : 0 ≤ b) (b1 : b ≤ 4294967295) (hb : b ≠ 0) : ∃ r, crucibleref01_divides.f op a b = some r ∧ 0 ≤ r ∧ r ≤ 4294967295 := by
  have hw : wrap64 (wrap32 b) ≠ 0 := by unfold wrap64 wrap32; omega
  unfold crucibleref01_divides.f
  rw [if_neg hb, if_neg hw]
  split
  · exact ⟨_, rfl, by omega, by omega⟩
  · split
    · exact ⟨_, rfl, by omega, by omega⟩
    · split
      · exact ⟨_, rfl, by omega, by omega⟩
      · refine ⟨_, rfl, ?_⟩
        rw [Int.tmod_eq_emod_of_nonneg a0]
        have h1 := Int.emod_nonneg a hb
        have h2 := Int.emod_lt_of_pos a (show 0 < b by omega)
        omega
theorem alu_bd (op a b : Int) (a0 : 0 ≤ a) (a1 : a ≤ 4294967295) (b0 : 0 ≤ b) (b1 : b ≤ 4294967295) : 0 ≤ (alu op a b).1 ∧ (alu op a b).1 ≤ 4294967295 := by
  have hs := (alu_some op a b b0 b1).1
  generalize (alu op a b).1 = x at *
  generalize (alu op a b).2 = y at *
  have hm := wrap_mod32 b b0
  have hm0 : 0 ≤ Int.tmod b 32 := by rw [Int.tmod_eq_emod_of_nonneg b0]; omega
  obtain ⟨t1, e1, l1, m1⟩ := one_bd (a == b)
  obtain ⟨t2, e2, l2, m2⟩ := one_bd (a != b)
  obtain ⟨t3, e3, l3, m3⟩ := one_bd (decide (wrap32 a < wrap32 b))
  obtain ⟨t4, e4, l4, m4⟩ := one_bd (decide (a < b))
  obtain ⟨t5, e5, l5, m5⟩ := one_bd (decide (wrap32 a ≤ wrap32 b))
  obtain ⟨t6, e6, l6, m6⟩ := one_bd (decide (a ≤ b))
  unfold crucibleref01_Alu.f at hs
  by_cases h4 : op = 4 ∨ op = 5 ∨ op = 6 ∨ op = 7
  · have ht : crucibleref01_Traps.f op = some true := by unfold crucibleref01_Traps.f; rcases h4 with rfl | rfl | rfl | rfl <;> simp
    rw [ht, Option.bind_some, if_pos rfl] at hs
    by_cases hb : b = 0
    · rw [if_pos hb] at hs
      injection hs with hs; injection hs with hx hy; subst hx
      omega
    · obtain ⟨r, hr, r0, r1⟩ := div_bd op a b a0 a1 b0 b1 hb
      rw [if_neg hb, hr] at hs
      have hs' : some (r, (0 : Int)) = some (x, y) := hs
      simp only [Option.some.injEq, Prod.mk.injEq] at hs'
      omega
  · have ht : crucibleref01_Traps.f op = some false := by
      unfold crucibleref01_Traps.f
      rw [if_neg (by omega), if_neg (by omega), if_neg (by omega), show (op == 7) = false by rw [beq_eq_false_iff_ne]; omega]
    rw [ht, Option.bind_some, if_neg (by decide)] at hs
    simp only [hm, if_pos hm0, e1, e2, e3, e4, e5, e6, Option.bind_some] at hs
    by_cases h1x : op = 1
    · rw [if_pos h1x] at hs
      simp only [Option.some.injEq, Prod.mk.injEq] at hs
      obtain ⟨rfl, _⟩ := hs
      omega
    rw [if_neg h1x] at hs
    by_cases h2x : op = 2
    · rw [if_pos h2x] at hs
      simp only [Option.some.injEq, Prod.mk.injEq] at hs
      obtain ⟨rfl, _⟩ := hs
      omega
    rw [if_neg h2x] at hs
    by_cases h3x : op = 3
    · rw [if_pos h3x] at hs
      simp only [Option.some.injEq, Prod.mk.injEq] at hs
      obtain ⟨rfl, _⟩ := hs
      omega
    rw [if_neg h3x] at hs
    by_cases h8x : op = 8
    · rw [if_pos h8x] at hs
      simp only [Option.some.injEq, Prod.mk.injEq] at hs
      obtain ⟨rfl, _⟩ := hs
      exact u32w _
    rw [if_neg h8x] at hs
    by_cases h9x : op = 9
    · rw [if_pos h9x] at hs
      simp only [Option.some.injEq, Prod.mk.injEq] at hs
      obtain ⟨rfl, _⟩ := hs
      exact u32w _
    rw [if_neg h9x] at hs
    by_cases h10x : op = 10
    · rw [if_pos h10x] at hs
      simp only [Option.some.injEq, Prod.mk.injEq] at hs
      obtain ⟨rfl, _⟩ := hs
      exact u32w _
    rw [if_neg h10x] at hs
    by_cases h11x : op = 11
    · rw [if_pos h11x] at hs
      simp only [Option.some.injEq, Prod.mk.injEq] at hs
      obtain ⟨rfl, _⟩ := hs
      exact u32w _
    rw [if_neg h11x] at hs
    by_cases h12x : op = 12
    · rw [if_pos h12x] at hs
      simp only [Option.some.injEq, Prod.mk.injEq] at hs
      obtain ⟨rfl, _⟩ := hs
      exact ⟨Int.ediv_nonneg a0 (Int.le_of_lt (Int.pow_pos (by decide))), Int.le_trans (Int.ediv_le_self _ a0) a1⟩
    rw [if_neg h12x] at hs
    by_cases h13x : op = 13
    · rw [if_pos h13x] at hs
      simp only [Option.some.injEq, Prod.mk.injEq] at hs
      obtain ⟨rfl, _⟩ := hs
      omega
    rw [if_neg h13x] at hs
    by_cases h14x : op = 14
    · rw [if_pos h14x] at hs
      simp only [Option.some.injEq, Prod.mk.injEq] at hs
      obtain ⟨rfl, _⟩ := hs
      omega
    rw [if_neg h14x] at hs
    by_cases h15x : op = 15
    · rw [if_pos h15x] at hs
      simp only [Option.some.injEq, Prod.mk.injEq] at hs
      obtain ⟨rfl, _⟩ := hs
      omega
    rw [if_neg h15x] at hs
    by_cases h16x : op = 16
    · rw [if_pos h16x] at hs
      simp only [Option.some.injEq, Prod.mk.injEq] at hs
      obtain ⟨rfl, _⟩ := hs
      omega
    rw [if_neg h16x] at hs
    by_cases h17x : op = 17
    · rw [if_pos h17x] at hs
      simp only [Option.some.injEq, Prod.mk.injEq] at hs
      obtain ⟨rfl, _⟩ := hs
      omega
    rw [if_neg h17x] at hs
    by_cases h18x : op = 18
    · rw [if_pos h18x] at hs
      simp only [Option.some.injEq, Prod.mk.injEq] at hs
      obtain ⟨rfl, _⟩ := hs
      omega
    rw [if_neg h18x] at hs
    by_cases h19x : op = 19
    · rw [if_pos h19x] at hs
      simp only [Option.some.injEq, Prod.mk.injEq] at hs
      obtain ⟨rfl, _⟩ := hs
      omega
    rw [if_neg h19x] at hs
    simp only [Option.some.injEq, Prod.mk.injEq] at hs
    omega
end Go.Proofs.Ytbhkfdjofopfkaa.MemA
