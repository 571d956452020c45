/- Which registers any instruction reads, and which it writes: the law over numbers. -/
import Derived.Test.YtiogfhmmepepdaaGx0
import Derived.Test.YtiogfhmmepepdaaGx5
import Derived.Test.YtiogfhmmepepdaaGx6
import Derived.Test.YtiogfhmmepepdaaGx7
import Derived.Test.YtiogfhmmepepdaaGx9
import Derived.Test.YtiogfhmmepepdaaGx10
import Derived.Test.YtiogfhmmepepdaaGx11
import Derived.Test.YtiogfhmmepepdaaGx12
import Derived.Test.YtiogfhmmepepdaaGx13
import Derived.Test.YtiogfhmmepepdaaGx14
import Derived.Test.YtiogfhmmepepdaaGx15
import Derived.Test.YtiogfhmmepepdaaFactsG
namespace Go.Proofs.Ytiogfhmmepepdaa.LawUses
open Go.RowKit Go.Proofs.Ytiogfhmmepepdaa.G Go.Proofs.Ytiogfhmmepepdaa.FactsG Go.Proofs.YtiogfhmmepepdaaW.PrintWords Go.Proofs.YtiogfhmmepepdaaW.PrintLast Go.Proofs.YtiogfhmmepepdaaW.PrintMore
set_option linter.unusedVariables false
set_option linter.unusedSimpArgs false

section
variable {op p bits lo hi : Int} {sd sa sb sign is : Bool}
theorem reg2 (r : Int) (h : Bool) : crucibleref02_reg.f r h = some (rg r h) := by
  unfold crucibleref02_reg.f rg
  by_cases h0 : r = 0
  · subst h0; simp
  · by_cases h1 : 0 < r
    · cases h <;> simp [h0, h1, show 0 ≤ r by omega]
    · have : ¬ 0 ≤ r := by omega
      cases h <;> simp [h0, h1, this]

theorem may_j (k : Nat) (op d a b i : Int) (h0 : -2147483648 ≤ i) (h1 : i ≤ 2147483647) (H : crucibleref02_imm.Im bits sign lo hi) :
    crucibleref02_May.j0 (k + 1) false op d a b i sd sa sb bits sign is = some (ok d a b i sd sa sb is lo hi) := by
  have hi' : crucibleref02_imm.f op d a b i sd sa sb bits sign is = some (decide (lo ≤ i) && decide (i ≤ hi)) := by
    unfold crucibleref02_imm.f
    rw [if_pos ⟨h0, h1⟩]
    rcases H with ⟨rfl, rfl, rfl, rfl⟩ | ⟨rfl, rfl, rfl, rfl⟩ | ⟨rfl, rfl, rfl, rfl⟩ | ⟨rfl, rfl, rfl, rfl⟩ <;> simp
  simp only [crucibleref02_May.j0]
  rw [if_neg (by simp), hi', reg2, reg2, reg2]
  unfold ok
  cases is <;> cases rg d sd <;> cases rg a sa <;> cases rg b sb <;> simp

theorem im_of (h : Cl op p sd sa sb bits sign is lo hi) (h46 : op ≠ 46) : crucibleref02_imm.Im bits sign lo hi := by
  unfold crucibleref02_imm.Im
  rcases h with ⟨_, _, _, _, _, rfl, rfl, _, rfl, rfl⟩ | ⟨_, _, _, _, _, rfl, rfl, _, rfl, rfl⟩ | ⟨_, _, _, _, _, rfl, rfl, _, rfl, rfl⟩ | ⟨_, _, _, _, _, rfl, rfl, _, rfl, rfl⟩ | ⟨_, _, _, _, _, rfl, rfl, _, rfl, rfl⟩ | ⟨_, _, _, _, _, rfl, rfl, _, rfl, rfl⟩ | ⟨_, _, _, _, _, rfl, rfl, _, rfl, rfl⟩ | ⟨_, _, _, _, _, rfl, rfl, _, rfl, rfl⟩ | ⟨_, _, _, _, _, rfl, rfl, _, rfl, rfl⟩ | ⟨h, _⟩ | ⟨_, _, _, _, _, rfl, rfl, _, rfl, rfl⟩
  all_goals first | exact absurd h h46 | simp

theorem may (k : Nat) (d a b i : Int) (h0 : -2147483648 ≤ i) (h1 : i ≤ 2147483647) (h : Cl op p sd sa sb bits sign is lo hi) : crucibleref02_May.f (k + 7) op d a b i = some (ok d a b i sd sa sb is lo hi) := by
  unfold crucibleref02_May.f
  rw [shaped k h, Option.bind_some]
  by_cases h46 : op = 46
  · subst h46
    have e : sd = false ∧ sa = false ∧ sb = false ∧ bits = 16 ∧ sign = false ∧ is = true ∧ lo = 1 ∧ hi = 5 := by
      rcases h with ⟨h, _⟩ | ⟨h, _⟩ | ⟨h, _⟩ | ⟨h, _⟩ | ⟨h, _⟩ | ⟨h, _⟩ | ⟨h, _⟩ | ⟨h, _⟩ | ⟨h, _⟩ | ⟨_, _, rfl, rfl, rfl, rfl, rfl, rfl, rfl, rfl⟩ | ⟨h, _⟩
      all_goals first | exact ⟨rfl, rfl, rfl, rfl, rfl, rfl, rfl, rfl⟩ | (exfalso; omega)
    obtain ⟨rfl, rfl, rfl, rfl, rfl, rfl, rfl, rfl⟩ := e
    rw [if_pos rfl]
    by_cases t1 : i < 1
    · have e : ok d a b i false false false true 1 5 = false := by unfold ok; simp; omega
      rw [if_pos t1, e]
      simp [crucibleref02_May.j0]
    · rw [if_neg t1]
      by_cases t2 : i > 5
      · have e : ok d a b i false false false true 1 5 = false := by unfold ok; simp; omega
        rw [e, decide_eq_true t2]
        simp [crucibleref02_May.j0]
      · have e : ok d a b i false false false true 1 5 = ok d a b i false false false true 0 65535 := by
          unfold ok
          simp [show (1 : Int) ≤ i by omega, show i ≤ 5 by omega, show (0 : Int) ≤ i by omega, show i ≤ 65535 by omega]
        rw [decide_eq_false t2, e]
        exact may_j (k + 6) 46 d a b i h0 h1 (.inr (.inr (.inl ⟨rfl, rfl, rfl, rfl⟩)))
  · rw [if_neg h46]
    exact may_j (k + 6) op d a b i h0 h1 (im_of h h46)

/-- The registers that an instruction reads; the one that it writes. -/
def want (p d a b : Int) : List Int :=
  if p = 263 then (if b = a then [a] else [a, b]) else if p = 267 ∨ p = 10 ∨ p = 2 then [a] else if p = 139 then (if d = a then [d] else [d, a]) else if p = 401 then [d] else []
def wr (op p d : Int) : Int := if op = 42 then 14 else if p = 263 ∨ p = 267 ∨ p = 265 ∨ p = 401 ∨ p = 257 then d else -1

theorem reads1 (k : Nat) (d a b i : Int) (h : Cl op p sd sa sb bits sign is lo hi) : isa_Reads.f (k + 7) op d a b i = some (if ok d a b i sd sa sb is lo hi = true then want p d a b else []) := by
  unfold isa_Reads.f
  rw [check k d a b i h, Option.bind_some]
  by_cases hok : ok d a b i sd sa sb is lo hi = true
  · rw [if_pos hok, if_pos rfl, if_pos hok, parts k h, Option.bind_some]
    rcases h with ⟨_, rfl, _⟩ | ⟨_, rfl, _⟩ | ⟨_, rfl, _⟩ | ⟨_, rfl, _⟩ | ⟨_, rfl, _⟩ | ⟨_, rfl, _⟩ | ⟨_, rfl, _⟩ | ⟨_, rfl, _⟩ | ⟨_, rfl, _⟩ | ⟨_, rfl, _⟩ | ⟨_, rfl, _⟩
    · rw [b263_128, b263_2, b263_4]; by_cases e : b = a <;> simp [isa_Reads.push, want, e]
    · rw [b267_128, b267_2, b267_4]; simp [isa_Reads.push, want]
    · rw [b139_128, b139_2, b139_4]; by_cases e : d = a <;> simp [isa_Reads.push, want, e, eq_comm]
    · rw [b265_128, b265_2, b265_4]; simp [isa_Reads.push, want]
    · rw [b401_128, b401_2, b401_4]; simp [isa_Reads.push, want]
    · rw [b10_128, b10_2, b10_4]; simp [isa_Reads.push, want]
    · rw [b32_128, b32_2, b32_4]; simp [isa_Reads.push, want]
    · rw [b2_128, b2_2, b2_4]; simp [isa_Reads.push, want]
    · rw [b257_128, b257_2, b257_4]; simp [isa_Reads.push, want]
    · rw [b64_128, b64_2, b64_4]; simp [isa_Reads.push, want]
    · rw [b0_128, b0_2, b0_4]; simp [isa_Reads.push, want]
  · rw [if_neg hok, if_neg hok, if_neg (by decide)]

theorem reads2 (k : Nat) (d a b i : Int) (h0 : -2147483648 ≤ i) (h1 : i ≤ 2147483647) (h : Cl op p sd sa sb bits sign is lo hi) : crucibleref02_Reads.f (k + 7) op d a b i = some (if ok d a b i sd sa sb is lo hi = true then want p d a b else []) := by
  unfold crucibleref02_Reads.f
  rw [may k d a b i h0 h1 h, Option.bind_some]
  by_cases hok : ok d a b i sd sa sb is lo hi = true
  · rw [if_pos hok, if_pos hok, shaped k h, Option.bind_some]
    rcases h with ⟨h, rfl, rfl, rfl, rfl, _⟩ | ⟨h, rfl, rfl, rfl, rfl, _⟩ | ⟨h, rfl, rfl, rfl, rfl, _⟩ | ⟨h, rfl, rfl, rfl, rfl, _⟩ | ⟨h, rfl, rfl, rfl, rfl, _⟩ | ⟨h, rfl, rfl, rfl, rfl, _⟩ | ⟨h, rfl, rfl, rfl, rfl, _⟩ | ⟨h, rfl, rfl, rfl, rfl, _⟩ | ⟨h, rfl, rfl, rfl, rfl, _⟩ | ⟨h, rfl, rfl, rfl, rfl, _⟩ | ⟨h, rfl, rfl, rfl, rfl, _⟩
    · have e1 : ¬ op = 34 := by omega
      have e2 : ¬ op = 37 := by omega
      have e3 : ¬ op = 38 := by omega
      by_cases e : b = a <;> simp [crucibleref02_Reads.j0, crucibleref02_Reads.j1, crucibleref02_Reads.j2, want, e, e1, e2, e3]
    · rcases h with rfl | rfl | rfl <;> simp [crucibleref02_Reads.j0, crucibleref02_Reads.j1, crucibleref02_Reads.j2, want]
    · rcases h with rfl | rfl <;> by_cases e : d = a <;> simp [crucibleref02_Reads.j0, crucibleref02_Reads.j1, crucibleref02_Reads.j2, want, e, rd]
    · subst h; simp [crucibleref02_Reads.j0, crucibleref02_Reads.j1, crucibleref02_Reads.j2, want]
    · subst h; simp [crucibleref02_Reads.j0, crucibleref02_Reads.j1, crucibleref02_Reads.j2, want]
    · rcases h with rfl | rfl <;> simp [crucibleref02_Reads.j0, crucibleref02_Reads.j1, crucibleref02_Reads.j2, want]
    · rcases h with rfl | rfl <;> simp [crucibleref02_Reads.j0, crucibleref02_Reads.j1, crucibleref02_Reads.j2, want]
    · rcases h with rfl | rfl | rfl <;> simp [crucibleref02_Reads.j0, crucibleref02_Reads.j1, crucibleref02_Reads.j2, want]
    · subst h; simp [crucibleref02_Reads.j0, crucibleref02_Reads.j1, crucibleref02_Reads.j2, want]
    · subst h; simp [crucibleref02_Reads.j0, crucibleref02_Reads.j1, crucibleref02_Reads.j2, want]
    · have e1 : ¬ op = 34 := by omega
      have e2 : ¬ op = 37 := by omega
      have e3 : ¬ op = 38 := by omega
      simp [crucibleref02_Reads.j0, crucibleref02_Reads.j1, crucibleref02_Reads.j2, want, e1, e2, e3]
  · rw [if_neg hok, if_neg hok]

theorem writes1 (k : Nat) (d a b i : Int) (h : Cl op p sd sa sb bits sign is lo hi) : isa_Writes.f (k + 7) op d a b i = some (if ok d a b i sd sa sb is lo hi = true then wr op p d else -1) := by
  unfold isa_Writes.f
  rw [check k d a b i h, Option.bind_some]
  by_cases hok : ok d a b i sd sa sb is lo hi = true
  · rw [if_pos hok, if_pos rfl, if_pos hok, parts k h, Option.bind_some]
    unfold wr
    by_cases h42 : op = 42
    · rw [if_pos h42, if_pos h42]
    · rw [if_neg h42, if_neg h42]
      rcases h with ⟨_, rfl, _⟩ | ⟨_, rfl, _⟩ | ⟨_, rfl, _⟩ | ⟨_, rfl, _⟩ | ⟨_, rfl, _⟩ | ⟨_, rfl, _⟩ | ⟨_, rfl, _⟩ | ⟨_, rfl, _⟩ | ⟨_, rfl, _⟩ | ⟨_, rfl, _⟩ | ⟨_, rfl, _⟩
      · rw [b263_256]; simp
      · rw [b267_256]; simp
      · rw [b139_256]; simp
      · rw [b265_256]; simp
      · rw [b401_256]; simp
      · rw [b10_256]; simp
      · rw [b32_256]; simp
      · rw [b2_256]; simp
      · rw [b257_256]; simp
      · rw [b64_256]; simp
      · rw [b0_256]; simp
  · rw [if_neg hok, if_neg hok, if_neg (by decide)]

theorem writes2 (k : Nat) (d a b i : Int) (h0 : -2147483648 ≤ i) (h1 : i ≤ 2147483647) (h : Cl op p sd sa sb bits sign is lo hi) : crucibleref02_Writes.f (k + 7) op d a b i = some (if ok d a b i sd sa sb is lo hi = true then wr op p d else -1) := by
  unfold crucibleref02_Writes.f
  rw [shaped k h, Option.bind_some, may k d a b i h0 h1 h, Option.bind_some]
  by_cases hok : ok d a b i sd sa sb is lo hi = true
  · rw [if_pos hok, if_pos hok]
    rcases h with ⟨h, rfl, rfl, _⟩ | ⟨h, rfl, rfl, _⟩ | ⟨h, rfl, rfl, _⟩ | ⟨h, rfl, rfl, _⟩ | ⟨h, rfl, rfl, _⟩ | ⟨h, rfl, rfl, _⟩ | ⟨h, rfl, rfl, _⟩ | ⟨h, rfl, rfl, _⟩ | ⟨h, rfl, rfl, _⟩ | ⟨h, rfl, rfl, _⟩ | ⟨h, rfl, rfl, _⟩
    · have e2 : ¬ op = 37 := by omega
      have e3 : ¬ op = 38 := by omega
      have e4 : ¬ op = 42 := by omega
      simp [crucibleref02_Writes.j0, wr, e2, e3, e4]
    · rcases h with rfl | rfl | rfl <;> simp [crucibleref02_Writes.j0, wr]
    · rcases h with rfl | rfl <;> simp [crucibleref02_Writes.j0, wr]
    · subst h; simp [crucibleref02_Writes.j0, wr]
    · subst h; simp [crucibleref02_Writes.j0, wr]
    · rcases h with rfl | rfl <;> simp [crucibleref02_Writes.j0, wr]
    · rcases h with rfl | rfl <;> simp [crucibleref02_Writes.j0, wr]
    · rcases h with rfl | rfl | rfl <;> simp [crucibleref02_Writes.j0, wr]
    · subst h; simp [crucibleref02_Writes.j0, wr]
    · subst h; simp [crucibleref02_Writes.j0, wr]
    · have e2 : ¬ op = 37 := by omega
      have e3 : ¬ op = 38 := by omega
      have e4 : ¬ op = 42 := by omega
      simp [crucibleref02_Writes.j0, wr, e2, e3, e4]
  · rw [if_neg hok, if_neg hok]
    by_cases e2 : op = 37
    · simp [crucibleref02_Writes.j0, e2]
    · simp [crucibleref02_Writes.j0, e2]
end

theorem awake (k : Nat) : cruciblelaw02_awake.f (k + 7) = some true := by
  unfold cruciblelaw02_awake.f isa_Encode.f
  have h : Cl 1 263 true true true 0 false true 0 0 := .inl ⟨by decide, rfl, rfl, rfl, rfl, rfl, rfl, rfl, rfl, rfl⟩
  rw [check k 1 2 3 0 h, Option.bind_some, if_pos (by decide), parts k h, Option.bind_some, b263_32]
  decide +kernel

theorem alike (m : List Int) (hm : m.length ≤ 3) (d : Nat) : ∀ (k i : Nat), i ≤ m.length → m.length - i = d → d + 8 < k → cruciblelaw02_IsaUses.l0 k m m i = some true := by
  induction d with
  | zero =>
    intro k i hi hd hk
    obtain ⟨k, rfl⟩ : ∃ m, k = m + 8 := ⟨k - 8, by omega⟩
    simp only [cruciblelaw02_IsaUses.l0]
    rw [if_neg (by omega), awake k, Option.bind_some]
  | succ d ih =>
    intro k i hi hd hk
    obtain ⟨k, rfl⟩ : ∃ m, k = m + 1 := ⟨k - 1, by omega⟩
    have hw3 : wrap64 ((i : Int) + 1) = ((i + 1 : Nat) : Int) := by unfold wrap64; omega
    simp only [cruciblelaw02_IsaUses.l0]
    rw [if_pos (by omega), if_pos (by omega), if_pos (by omega), if_pos trivial, hw3]
    exact ih k (i + 1) (by omega) (by omega) (by omega)

theorem uses (op d a b i : Int) (h0 : -2147483648 ≤ i) (h1 : i ≤ 2147483647) : cruciblelaw02_IsaUses.f 40 op d a b i = some true := by
  obtain ⟨p, sd, sa, sb, bits, sign, is, lo, hi, h⟩ := cl op
  unfold cruciblelaw02_IsaUses.f
  rw [reads1 33 d a b i h, reads2 33 d a b i h0 h1 h, Option.bind_some, Option.bind_some, if_pos rfl, writes1 33 d a b i h, writes2 33 d a b i h0 h1 h, Option.bind_some, Option.bind_some]
  simp only [cruciblelaw02_IsaUses.j0]
  rw [if_neg (by simp)]
  have hl : (if ok d a b i sd sa sb is lo hi = true then want p d a b else []).length ≤ 3 := by
    split
    · unfold want; split <;> (try split) <;> (try split) <;> (try split) <;> simp
    · simp
  exact alike _ hl _ 39 0 (by omega) rfl (by omega)

end Go.Proofs.Ytiogfhmmepepdaa.LawUses
