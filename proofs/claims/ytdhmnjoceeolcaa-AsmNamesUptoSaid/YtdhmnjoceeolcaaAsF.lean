/- What the printed functions of layer 2 answer: the parts of an instruction, whether it may be, its word, a word's instruction. -/
import Derived.Test.YtdhmnjoceeolcaaGFy4
import Derived.Test.YtdhmnjoceeolcaaGFx6
import Derived.OpenShut
import Derived.Laws.BitsAllLaws
namespace Go.Proofs.Ytdhmnjoceeolcaa.FactsDec
open Go.RowKit Go.Proofs.Ytdhmnjoceeolcaa.GF Go.Proofs.YtdhmnjoceeolcaaW.PrintWords Go.Proofs.YtdhmnjoceeolcaaW.PrintLast Go.Proofs.YtdhmnjoceeolcaaW.PrintMore
set_option linter.unusedVariables false
set_option linter.unusedSimpArgs false

theorem b263_1 : Go.bits .and .i64 263 1 = 1 := by decide +kernel
theorem b263_2 : Go.bits .and .i64 263 2 = 2 := by decide +kernel
theorem b263_4 : Go.bits .and .i64 263 4 = 4 := by decide +kernel
theorem b263_8 : Go.bits .and .i64 263 8 = 0 := by decide +kernel
theorem b263_16 : Go.bits .and .i64 263 16 = 0 := by decide +kernel
theorem b263_32 : Go.bits .and .i64 263 32 = 0 := by decide +kernel
theorem b263_64 : Go.bits .and .i64 263 64 = 0 := by decide +kernel
theorem b263_80 : Go.bits .and .i64 263 80 = 0 := by decide +kernel
theorem b263_128 : Go.bits .and .i64 263 128 = 0 := by decide +kernel
theorem b263_256 : Go.bits .and .i64 263 256 = 256 := by decide +kernel
theorem b267_1 : Go.bits .and .i64 267 1 = 1 := by decide +kernel
theorem b267_2 : Go.bits .and .i64 267 2 = 2 := by decide +kernel
theorem b267_4 : Go.bits .and .i64 267 4 = 0 := by decide +kernel
theorem b267_8 : Go.bits .and .i64 267 8 = 8 := by decide +kernel
theorem b267_16 : Go.bits .and .i64 267 16 = 0 := by decide +kernel
theorem b267_32 : Go.bits .and .i64 267 32 = 0 := by decide +kernel
theorem b267_64 : Go.bits .and .i64 267 64 = 0 := by decide +kernel
theorem b267_80 : Go.bits .and .i64 267 80 = 0 := by decide +kernel
theorem b267_128 : Go.bits .and .i64 267 128 = 0 := by decide +kernel
theorem b267_256 : Go.bits .and .i64 267 256 = 256 := by decide +kernel
theorem b139_1 : Go.bits .and .i64 139 1 = 1 := by decide +kernel
theorem b139_2 : Go.bits .and .i64 139 2 = 2 := by decide +kernel
theorem b139_4 : Go.bits .and .i64 139 4 = 0 := by decide +kernel
theorem b139_8 : Go.bits .and .i64 139 8 = 8 := by decide +kernel
theorem b139_16 : Go.bits .and .i64 139 16 = 0 := by decide +kernel
theorem b139_32 : Go.bits .and .i64 139 32 = 0 := by decide +kernel
theorem b139_64 : Go.bits .and .i64 139 64 = 0 := by decide +kernel
theorem b139_80 : Go.bits .and .i64 139 80 = 0 := by decide +kernel
theorem b139_128 : Go.bits .and .i64 139 128 = 128 := by decide +kernel
theorem b139_256 : Go.bits .and .i64 139 256 = 0 := by decide +kernel
theorem b265_1 : Go.bits .and .i64 265 1 = 1 := by decide +kernel
theorem b265_2 : Go.bits .and .i64 265 2 = 0 := by decide +kernel
theorem b265_4 : Go.bits .and .i64 265 4 = 0 := by decide +kernel
theorem b265_8 : Go.bits .and .i64 265 8 = 8 := by decide +kernel
theorem b265_16 : Go.bits .and .i64 265 16 = 0 := by decide +kernel
theorem b265_32 : Go.bits .and .i64 265 32 = 0 := by decide +kernel
theorem b265_64 : Go.bits .and .i64 265 64 = 0 := by decide +kernel
theorem b265_80 : Go.bits .and .i64 265 80 = 0 := by decide +kernel
theorem b265_128 : Go.bits .and .i64 265 128 = 0 := by decide +kernel
theorem b265_256 : Go.bits .and .i64 265 256 = 256 := by decide +kernel
theorem b401_1 : Go.bits .and .i64 401 1 = 1 := by decide +kernel
theorem b401_2 : Go.bits .and .i64 401 2 = 0 := by decide +kernel
theorem b401_4 : Go.bits .and .i64 401 4 = 0 := by decide +kernel
theorem b401_8 : Go.bits .and .i64 401 8 = 0 := by decide +kernel
theorem b401_16 : Go.bits .and .i64 401 16 = 16 := by decide +kernel
theorem b401_32 : Go.bits .and .i64 401 32 = 0 := by decide +kernel
theorem b401_64 : Go.bits .and .i64 401 64 = 0 := by decide +kernel
theorem b401_80 : Go.bits .and .i64 401 80 = 16 := by decide +kernel
theorem b401_128 : Go.bits .and .i64 401 128 = 128 := by decide +kernel
theorem b401_256 : Go.bits .and .i64 401 256 = 256 := by decide +kernel
theorem b10_1 : Go.bits .and .i64 10 1 = 0 := by decide +kernel
theorem b10_2 : Go.bits .and .i64 10 2 = 2 := by decide +kernel
theorem b10_4 : Go.bits .and .i64 10 4 = 0 := by decide +kernel
theorem b10_8 : Go.bits .and .i64 10 8 = 8 := by decide +kernel
theorem b10_16 : Go.bits .and .i64 10 16 = 0 := by decide +kernel
theorem b10_32 : Go.bits .and .i64 10 32 = 0 := by decide +kernel
theorem b10_64 : Go.bits .and .i64 10 64 = 0 := by decide +kernel
theorem b10_80 : Go.bits .and .i64 10 80 = 0 := by decide +kernel
theorem b10_128 : Go.bits .and .i64 10 128 = 0 := by decide +kernel
theorem b10_256 : Go.bits .and .i64 10 256 = 0 := by decide +kernel
theorem b32_1 : Go.bits .and .i64 32 1 = 0 := by decide +kernel
theorem b32_2 : Go.bits .and .i64 32 2 = 0 := by decide +kernel
theorem b32_4 : Go.bits .and .i64 32 4 = 0 := by decide +kernel
theorem b32_8 : Go.bits .and .i64 32 8 = 0 := by decide +kernel
theorem b32_16 : Go.bits .and .i64 32 16 = 0 := by decide +kernel
theorem b32_32 : Go.bits .and .i64 32 32 = 32 := by decide +kernel
theorem b32_64 : Go.bits .and .i64 32 64 = 0 := by decide +kernel
theorem b32_80 : Go.bits .and .i64 32 80 = 0 := by decide +kernel
theorem b32_128 : Go.bits .and .i64 32 128 = 0 := by decide +kernel
theorem b32_256 : Go.bits .and .i64 32 256 = 0 := by decide +kernel
theorem b2_1 : Go.bits .and .i64 2 1 = 0 := by decide +kernel
theorem b2_2 : Go.bits .and .i64 2 2 = 2 := by decide +kernel
theorem b2_4 : Go.bits .and .i64 2 4 = 0 := by decide +kernel
theorem b2_8 : Go.bits .and .i64 2 8 = 0 := by decide +kernel
theorem b2_16 : Go.bits .and .i64 2 16 = 0 := by decide +kernel
theorem b2_32 : Go.bits .and .i64 2 32 = 0 := by decide +kernel
theorem b2_64 : Go.bits .and .i64 2 64 = 0 := by decide +kernel
theorem b2_80 : Go.bits .and .i64 2 80 = 0 := by decide +kernel
theorem b2_128 : Go.bits .and .i64 2 128 = 0 := by decide +kernel
theorem b2_256 : Go.bits .and .i64 2 256 = 0 := by decide +kernel
theorem b257_1 : Go.bits .and .i64 257 1 = 1 := by decide +kernel
theorem b257_2 : Go.bits .and .i64 257 2 = 0 := by decide +kernel
theorem b257_4 : Go.bits .and .i64 257 4 = 0 := by decide +kernel
theorem b257_8 : Go.bits .and .i64 257 8 = 0 := by decide +kernel
theorem b257_16 : Go.bits .and .i64 257 16 = 0 := by decide +kernel
theorem b257_32 : Go.bits .and .i64 257 32 = 0 := by decide +kernel
theorem b257_64 : Go.bits .and .i64 257 64 = 0 := by decide +kernel
theorem b257_80 : Go.bits .and .i64 257 80 = 0 := by decide +kernel
theorem b257_128 : Go.bits .and .i64 257 128 = 0 := by decide +kernel
theorem b257_256 : Go.bits .and .i64 257 256 = 256 := by decide +kernel
theorem b64_1 : Go.bits .and .i64 64 1 = 0 := by decide +kernel
theorem b64_2 : Go.bits .and .i64 64 2 = 0 := by decide +kernel
theorem b64_4 : Go.bits .and .i64 64 4 = 0 := by decide +kernel
theorem b64_8 : Go.bits .and .i64 64 8 = 0 := by decide +kernel
theorem b64_16 : Go.bits .and .i64 64 16 = 0 := by decide +kernel
theorem b64_32 : Go.bits .and .i64 64 32 = 0 := by decide +kernel
theorem b64_64 : Go.bits .and .i64 64 64 = 64 := by decide +kernel
theorem b64_80 : Go.bits .and .i64 64 80 = 64 := by decide +kernel
theorem b64_128 : Go.bits .and .i64 64 128 = 0 := by decide +kernel
theorem b64_256 : Go.bits .and .i64 64 256 = 0 := by decide +kernel
theorem b0_1 : Go.bits .and .i64 0 1 = 0 := by decide +kernel
theorem b0_2 : Go.bits .and .i64 0 2 = 0 := by decide +kernel
theorem b0_4 : Go.bits .and .i64 0 4 = 0 := by decide +kernel
theorem b0_8 : Go.bits .and .i64 0 8 = 0 := by decide +kernel
theorem b0_16 : Go.bits .and .i64 0 16 = 0 := by decide +kernel
theorem b0_32 : Go.bits .and .i64 0 32 = 0 := by decide +kernel
theorem b0_64 : Go.bits .and .i64 0 64 = 0 := by decide +kernel
theorem b0_80 : Go.bits .and .i64 0 80 = 0 := by decide +kernel
theorem b0_128 : Go.bits .and .i64 0 128 = 0 := by decide +kernel
theorem b0_256 : Go.bits .and .i64 0 256 = 0 := by decide +kernel

/-- May a register be? -/
def rg (r : Int) (h : Bool) : Bool := decide (0 ≤ r) && decide (r < 16) && (h || r == 0)
theorem reg1 (r : Int) (h : Bool) : isa_register.f r h = some (rg r h) := by
  unfold isa_register.f rg
  by_cases h1 : 0 ≤ r <;> by_cases h2 : r < 16 <;> cases h <;> simp [h1, h2]

/-- The kinds of operations: which parts, which registers, how many bits, with sign or without, is it one; the least and the greatest operand. -/
def Cl (op p : Int) (sd sa sb : Bool) (bits : Int) (sign is : Bool) (lo hi : Int) : Prop :=
  ((1 ≤ op ∧ op ≤ 19) ∧ p = 263 ∧ sd = true ∧ sa = true ∧ sb = true ∧ bits = 0 ∧ sign = false ∧ is = true ∧ lo = 0 ∧ hi = 0) ∨
  ((op = 32 ∨ op = 35 ∨ op = 36) ∧ p = 267 ∧ sd = true ∧ sa = true ∧ sb = false ∧ bits = 16 ∧ sign = true ∧ is = true ∧ lo = -32768 ∧ hi = 32767) ∨
  ((op = 37 ∨ op = 38) ∧ p = 139 ∧ sd = true ∧ sa = true ∧ sb = false ∧ bits = 16 ∧ sign = true ∧ is = true ∧ lo = -32768 ∧ hi = 32767) ∨
  (op = 33 ∧ p = 265 ∧ sd = true ∧ sa = false ∧ sb = false ∧ bits = 16 ∧ sign = true ∧ is = true ∧ lo = -32768 ∧ hi = 32767) ∨
  (op = 34 ∧ p = 401 ∧ sd = true ∧ sa = false ∧ sb = false ∧ bits = 16 ∧ sign = false ∧ is = true ∧ lo = 0 ∧ hi = 65535) ∨
  ((op = 39 ∨ op = 40) ∧ p = 10 ∧ sd = false ∧ sa = true ∧ sb = false ∧ bits = 16 ∧ sign = true ∧ is = true ∧ lo = -32768 ∧ hi = 32767) ∨
  ((op = 41 ∨ op = 42) ∧ p = 32 ∧ sd = false ∧ sa = false ∧ sb = false ∧ bits = 24 ∧ sign = true ∧ is = true ∧ lo = -8388608 ∧ hi = 8388607) ∨
  ((op = 43 ∨ op = 45 ∨ op = 47) ∧ p = 2 ∧ sd = false ∧ sa = true ∧ sb = false ∧ bits = 0 ∧ sign = false ∧ is = true ∧ lo = 0 ∧ hi = 0) ∨
  (op = 44 ∧ p = 257 ∧ sd = true ∧ sa = false ∧ sb = false ∧ bits = 0 ∧ sign = false ∧ is = true ∧ lo = 0 ∧ hi = 0) ∨
  (op = 46 ∧ p = 64 ∧ sd = false ∧ sa = false ∧ sb = false ∧ bits = 16 ∧ sign = false ∧ is = true ∧ lo = 1 ∧ hi = 5) ∨
  ((¬ (1 ≤ op ∧ op ≤ 19) ∧ ¬ (32 ≤ op ∧ op ≤ 47)) ∧ p = 0 ∧ sd = false ∧ sa = false ∧ sb = false ∧ bits = 0 ∧ sign = false ∧ is = false ∧ lo = 0 ∧ hi = 0)

theorem cl (op : Int) : ∃ p sd sa sb bits sign is lo hi, Cl op p sd sa sb bits sign is lo hi := by
  by_cases h1 : 1 ≤ op ∧ op ≤ 19
  · exact ⟨_, _, _, _, _, _, _, _, _, .inl ⟨h1, rfl, rfl, rfl, rfl, rfl, rfl, rfl, rfl, rfl⟩⟩
  by_cases h2 : 32 ≤ op ∧ op ≤ 47
  · have : op = 32 ∨ op = 33 ∨ op = 34 ∨ op = 35 ∨ op = 36 ∨ op = 37 ∨ op = 38 ∨ op = 39 ∨ op = 40 ∨ op = 41 ∨ op = 42 ∨ op = 43 ∨ op = 44 ∨ op = 45 ∨ op = 46 ∨ op = 47 := by omega
    rcases this with rfl | rfl | rfl | rfl | rfl | rfl | rfl | rfl | rfl | rfl | rfl | rfl | rfl | rfl | rfl | rfl
    · exact ⟨_, _, _, _, _, _, _, _, _, .inr (.inl ⟨(.inl rfl), rfl, rfl, rfl, rfl, rfl, rfl, rfl, rfl, rfl⟩)⟩
    · exact ⟨_, _, _, _, _, _, _, _, _, .inr (.inr (.inr (.inl ⟨rfl, rfl, rfl, rfl, rfl, rfl, rfl, rfl, rfl, rfl⟩)))⟩
    · exact ⟨_, _, _, _, _, _, _, _, _, .inr (.inr (.inr (.inr (.inl ⟨rfl, rfl, rfl, rfl, rfl, rfl, rfl, rfl, rfl, rfl⟩))))⟩
    · exact ⟨_, _, _, _, _, _, _, _, _, .inr (.inl ⟨(.inr (.inl rfl)), rfl, rfl, rfl, rfl, rfl, rfl, rfl, rfl, rfl⟩)⟩
    · exact ⟨_, _, _, _, _, _, _, _, _, .inr (.inl ⟨(.inr (.inr rfl)), rfl, rfl, rfl, rfl, rfl, rfl, rfl, rfl, rfl⟩)⟩
    · exact ⟨_, _, _, _, _, _, _, _, _, .inr (.inr (.inl ⟨(.inl rfl), rfl, rfl, rfl, rfl, rfl, rfl, rfl, rfl, rfl⟩))⟩
    · exact ⟨_, _, _, _, _, _, _, _, _, .inr (.inr (.inl ⟨(.inr rfl), rfl, rfl, rfl, rfl, rfl, rfl, rfl, rfl, rfl⟩))⟩
    · exact ⟨_, _, _, _, _, _, _, _, _, .inr (.inr (.inr (.inr (.inr (.inl ⟨(.inl rfl), rfl, rfl, rfl, rfl, rfl, rfl, rfl, rfl, rfl⟩)))))⟩
    · exact ⟨_, _, _, _, _, _, _, _, _, .inr (.inr (.inr (.inr (.inr (.inl ⟨(.inr rfl), rfl, rfl, rfl, rfl, rfl, rfl, rfl, rfl, rfl⟩)))))⟩
    · exact ⟨_, _, _, _, _, _, _, _, _, .inr (.inr (.inr (.inr (.inr (.inr (.inl ⟨(.inl rfl), rfl, rfl, rfl, rfl, rfl, rfl, rfl, rfl, rfl⟩))))))⟩
    · exact ⟨_, _, _, _, _, _, _, _, _, .inr (.inr (.inr (.inr (.inr (.inr (.inl ⟨(.inr rfl), rfl, rfl, rfl, rfl, rfl, rfl, rfl, rfl, rfl⟩))))))⟩
    · exact ⟨_, _, _, _, _, _, _, _, _, .inr (.inr (.inr (.inr (.inr (.inr (.inr (.inl ⟨(.inl rfl), rfl, rfl, rfl, rfl, rfl, rfl, rfl, rfl, rfl⟩)))))))⟩
    · exact ⟨_, _, _, _, _, _, _, _, _, .inr (.inr (.inr (.inr (.inr (.inr (.inr (.inr (.inl ⟨rfl, rfl, rfl, rfl, rfl, rfl, rfl, rfl, rfl, rfl⟩))))))))⟩
    · exact ⟨_, _, _, _, _, _, _, _, _, .inr (.inr (.inr (.inr (.inr (.inr (.inr (.inl ⟨(.inr (.inl rfl)), rfl, rfl, rfl, rfl, rfl, rfl, rfl, rfl, rfl⟩)))))))⟩
    · exact ⟨_, _, _, _, _, _, _, _, _, .inr (.inr (.inr (.inr (.inr (.inr (.inr (.inr (.inr (.inl ⟨rfl, rfl, rfl, rfl, rfl, rfl, rfl, rfl, rfl, rfl⟩)))))))))⟩
    · exact ⟨_, _, _, _, _, _, _, _, _, .inr (.inr (.inr (.inr (.inr (.inr (.inr (.inl ⟨(.inr (.inr rfl)), rfl, rfl, rfl, rfl, rfl, rfl, rfl, rfl, rfl⟩)))))))⟩
  · exact ⟨_, _, _, _, _, _, _, _, _, .inr (.inr (.inr (.inr (.inr (.inr (.inr (.inr (.inr (.inr ⟨⟨h1, h2⟩, rfl, rfl, rfl, rfl, rfl, rfl, rfl, rfl, rfl⟩)))))))))⟩

section
variable {op p bits lo hi : Int} {sd sa sb sign is : Bool}
theorem parts (k : Nat) (h : Cl op p sd sa sb bits sign is lo hi) : isa_parts.f (k + 7) op = some p := by
  rcases h with ⟨h, rfl, rfl, rfl, rfl, rfl, rfl, rfl, rfl, rfl⟩ | ⟨rfl | rfl | rfl, rfl, rfl, rfl, rfl, rfl, rfl, rfl, rfl, rfl⟩ | ⟨rfl | rfl, rfl, rfl, rfl, rfl, rfl, rfl, rfl, rfl, rfl⟩ | ⟨rfl, rfl, rfl, rfl, rfl, rfl, rfl, rfl, rfl, rfl⟩ | ⟨rfl, rfl, rfl, rfl, rfl, rfl, rfl, rfl, rfl, rfl⟩ | ⟨rfl | rfl, rfl, rfl, rfl, rfl, rfl, rfl, rfl, rfl, rfl⟩ | ⟨rfl | rfl, rfl, rfl, rfl, rfl, rfl, rfl, rfl, rfl, rfl⟩ | ⟨rfl | rfl | rfl, rfl, rfl, rfl, rfl, rfl, rfl, rfl, rfl, rfl⟩ | ⟨rfl, rfl, rfl, rfl, rfl, rfl, rfl, rfl, rfl, rfl⟩ | ⟨rfl, rfl, rfl, rfl, rfl, rfl, rfl, rfl, rfl, rfl⟩ | ⟨⟨h1, h2⟩, rfl, rfl, rfl, rfl, rfl, rfl, rfl, rfl, rfl⟩
  · simp [isa_parts.f, isa_parts.j0, h.1, h.2]
  all_goals first | (simp [isa_parts.f, isa_parts.j0, isa_parts.j1, isa_parts.j2, isa_parts.j3, isa_parts.j4, isa_parts.j5]; done) | skip
  · have n32 : op ≠ 32 := by omega
    have n33 : op ≠ 33 := by omega
    have n34 : op ≠ 34 := by omega
    have n35 : op ≠ 35 := by omega
    have n36 : op ≠ 36 := by omega
    have n37 : op ≠ 37 := by omega
    have n38 : op ≠ 38 := by omega
    have n39 : op ≠ 39 := by omega
    have n40 : op ≠ 40 := by omega
    have n41 : op ≠ 41 := by omega
    have n42 : op ≠ 42 := by omega
    have n43 : op ≠ 43 := by omega
    have n44 : op ≠ 44 := by omega
    have n45 : op ≠ 45 := by omega
    have n46 : op ≠ 46 := by omega
    have n47 : op ≠ 47 := by omega
    by_cases e : 1 ≤ op
    · have e2 : ¬ op ≤ 19 := fun x => h1 ⟨e, x⟩
      simp [isa_parts.f, isa_parts.j0, isa_parts.j1, isa_parts.j2, isa_parts.j3, isa_parts.j4, isa_parts.j5, e, e2, n32, n33, n34, n35, n36, n37, n38, n39, n40, n41, n42, n43, n44, n45, n46, n47]
    · simp [isa_parts.f, isa_parts.j0, isa_parts.j1, isa_parts.j2, isa_parts.j3, isa_parts.j4, isa_parts.j5, e, n32, n33, n34, n35, n36, n37, n38, n39, n40, n41, n42, n43, n44, n45, n46, n47]
theorem shaped (k : Nat) (h : Cl op p sd sa sb bits sign is lo hi) : crucibleref02_shaped.f (k + 7) op = some (sd, sa, sb, bits, sign, is) := by
  rcases h with ⟨h, rfl, rfl, rfl, rfl, rfl, rfl, rfl, rfl, rfl⟩ | ⟨rfl | rfl | rfl, rfl, rfl, rfl, rfl, rfl, rfl, rfl, rfl, rfl⟩ | ⟨rfl | rfl, rfl, rfl, rfl, rfl, rfl, rfl, rfl, rfl, rfl⟩ | ⟨rfl, rfl, rfl, rfl, rfl, rfl, rfl, rfl, rfl, rfl⟩ | ⟨rfl, rfl, rfl, rfl, rfl, rfl, rfl, rfl, rfl, rfl⟩ | ⟨rfl | rfl, rfl, rfl, rfl, rfl, rfl, rfl, rfl, rfl, rfl⟩ | ⟨rfl | rfl, rfl, rfl, rfl, rfl, rfl, rfl, rfl, rfl, rfl⟩ | ⟨rfl | rfl | rfl, rfl, rfl, rfl, rfl, rfl, rfl, rfl, rfl, rfl⟩ | ⟨rfl, rfl, rfl, rfl, rfl, rfl, rfl, rfl, rfl, rfl⟩ | ⟨rfl, rfl, rfl, rfl, rfl, rfl, rfl, rfl, rfl, rfl⟩ | ⟨⟨h1, h2⟩, rfl, rfl, rfl, rfl, rfl, rfl, rfl, rfl, rfl⟩
  · simp [crucibleref02_shaped.f, crucibleref02_shaped.j0, h.1, h.2]
  all_goals first | (simp [crucibleref02_shaped.f, crucibleref02_shaped.j0, crucibleref02_shaped.j1, crucibleref02_shaped.j2, crucibleref02_shaped.j3, crucibleref02_shaped.j4]; done) | skip
  · have n32 : op ≠ 32 := by omega
    have n33 : op ≠ 33 := by omega
    have n34 : op ≠ 34 := by omega
    have n35 : op ≠ 35 := by omega
    have n36 : op ≠ 36 := by omega
    have n37 : op ≠ 37 := by omega
    have n38 : op ≠ 38 := by omega
    have n39 : op ≠ 39 := by omega
    have n40 : op ≠ 40 := by omega
    have n41 : op ≠ 41 := by omega
    have n42 : op ≠ 42 := by omega
    have n43 : op ≠ 43 := by omega
    have n44 : op ≠ 44 := by omega
    have n45 : op ≠ 45 := by omega
    have n46 : op ≠ 46 := by omega
    have n47 : op ≠ 47 := by omega
    by_cases e : 1 ≤ op
    · have e2 : ¬ op ≤ 19 := fun x => h1 ⟨e, x⟩
      simp [crucibleref02_shaped.f, crucibleref02_shaped.j0, crucibleref02_shaped.j1, crucibleref02_shaped.j2, crucibleref02_shaped.j3, crucibleref02_shaped.j4, e, e2, n32, n33, n34, n35, n36, n37, n38, n39, n40, n41, n42, n43, n44, n45, n46, n47]
    · simp [crucibleref02_shaped.f, crucibleref02_shaped.j0, crucibleref02_shaped.j1, crucibleref02_shaped.j2, crucibleref02_shaped.j3, crucibleref02_shaped.j4, e, n32, n33, n34, n35, n36, n37, n38, n39, n40, n41, n42, n43, n44, n45, n46, n47]

/-- May an instruction be? -/
def ok (d a b i : Int) (sd sa sb is : Bool) (lo hi : Int) : Bool := is && (rg d sd && (rg a sa && (rg b sb && (decide (lo ≤ i) && decide (i ≤ hi)))))
theorem check (k : Nat) (d a b i : Int) (h : Cl op p sd sa sb bits sign is lo hi) : isa_Check.f (k + 7) op d a b i = some (if ok d a b i sd sa sb is lo hi = true then 0 else 1) := by
  have hp := parts k h
  unfold isa_Check.f ok
  rw [hp]
  simp only [Option.bind_some, reg1]
  rcases h with ⟨h, rfl, rfl, rfl, rfl, rfl, rfl, rfl, rfl, rfl⟩ | ⟨rfl | rfl | rfl, rfl, rfl, rfl, rfl, rfl, rfl, rfl, rfl, rfl⟩ | ⟨rfl | rfl, rfl, rfl, rfl, rfl, rfl, rfl, rfl, rfl, rfl⟩ | ⟨rfl, rfl, rfl, rfl, rfl, rfl, rfl, rfl, rfl, rfl⟩ | ⟨rfl, rfl, rfl, rfl, rfl, rfl, rfl, rfl, rfl, rfl⟩ | ⟨rfl | rfl, rfl, rfl, rfl, rfl, rfl, rfl, rfl, rfl, rfl⟩ | ⟨rfl | rfl, rfl, rfl, rfl, rfl, rfl, rfl, rfl, rfl, rfl⟩ | ⟨rfl | rfl | rfl, rfl, rfl, rfl, rfl, rfl, rfl, rfl, rfl, rfl⟩ | ⟨rfl, rfl, rfl, rfl, rfl, rfl, rfl, rfl, rfl, rfl⟩ | ⟨rfl, rfl, rfl, rfl, rfl, rfl, rfl, rfl, rfl, rfl⟩ | ⟨⟨h1, h2⟩, rfl, rfl, rfl, rfl, rfl, rfl, rfl, rfl, rfl⟩
  all_goals simp only [isa_within.f, b263_1, b263_2, b263_4, b263_8, b263_16, b263_32, b263_64, b263_80, b263_128, b263_256, b267_1, b267_2, b267_4, b267_8, b267_16, b267_32, b267_64, b267_80, b267_128, b267_256, b139_1, b139_2, b139_4, b139_8, b139_16, b139_32, b139_64, b139_80, b139_128, b139_256, b265_1, b265_2, b265_4, b265_8, b265_16, b265_32, b265_64, b265_80, b265_128, b265_256, b401_1, b401_2, b401_4, b401_8, b401_16, b401_32, b401_64, b401_80, b401_128, b401_256, b10_1, b10_2, b10_4, b10_8, b10_16, b10_32, b10_64, b10_80, b10_128, b10_256, b32_1, b32_2, b32_4, b32_8, b32_16, b32_32, b32_64, b32_80, b32_128, b32_256, b2_1, b2_2, b2_4, b2_8, b2_16, b2_32, b2_64, b2_80, b2_128, b2_256, b257_1, b257_2, b257_4, b257_8, b257_16, b257_32, b257_64, b257_80, b257_128, b257_256, b64_1, b64_2, b64_4, b64_8, b64_16, b64_32, b64_64, b64_80, b64_128, b64_256, b0_1, b0_2, b0_4, b0_8, b0_16, b0_32, b0_64, b0_80, b0_128, b0_256]
  all_goals simp
  all_goals (try (generalize rg d _ = r1; generalize rg a _ = r2; generalize rg b _ = r3; cases r1 <;> cases r2 <;> cases r3 <;> simp))
  all_goals (repeat' split) <;> simp_all <;> omega

/-- An instruction's word. -/
def E (op d a b i bits : Int) : Int := op * 16777216 + d * 1048576 + a * 65536 + b * 4096 + i % (if bits = 24 then 16777216 else 65536)
/-- A register's number in a word. -/
def fld (w : Int) (h : Bool) (s : Int) : Int := if h = true then w / s % 16 else 0
/-- The operand in a word. -/
def im (w bits : Int) (sign : Bool) : Int := if bits = 0 then 0 else if bits = 24 then (if w % 16777216 < 8388608 then w % 16777216 else w % 16777216 - 16777216) else if sign = true then (if w % 65536 < 32768 then w % 65536 else w % 65536 - 65536) else w % 65536
end
theorem or_add (x y : Int) (m : Int) (n : Nat) (hmn : m = ((2 ^ n : Nat) : Int)) (hm : m ≤ 4294967296) (hx0 : 0 ≤ x) (hx : x < 4294967296) (hy0 : 0 ≤ y) (hy : y < m) (hz : x % m = 0) : Go.bits .or .u32 x y = x + y := by
  rw [u32_or x y hx0 hx hy0 (by omega)]
  have h1 : x.toNat % 2 ^ n = 0 := by
    have : ((x.toNat % 2 ^ n : Nat) : Int) = 0 := by rw [Int.natCast_emod, Int.toNat_of_nonneg hx0, ← hmn]; exact hz
    omega
  have h2 : y.toNat < 2 ^ n := by omega
  rw [nat_join n _ _ h1 h2]
  omega
theorem and_low (x : Int) (hx0 : 0 ≤ x) (hx : x < 4294967296) : Go.bits .and .u32 x 65535 = x % 65536 := by
  rw [u32_and x 65535 hx0 hx (by omega) (by omega)]
  have : (x.toNat &&& (65535 : Int).toNat : Nat) = x.toNat % 65536 := nat_mask16 x.toNat
  rw [this]; omega
theorem and_far (x : Int) (hx0 : 0 ≤ x) (hx : x < 4294967296) : Go.bits .and .u32 x 16777215 = x % 16777216 := by
  rw [u32_and x 16777215 hx0 hx (by omega) (by omega)]
  have : (x.toNat &&& (16777215 : Int).toNat : Nat) = x.toNat % 16777216 := nat_mask24 x.toNat
  rw [this]; omega
theorem and_15 (x : Int) (hx0 : 0 ≤ x) (hx : x < 4294967296) : Go.bits .and .u32 x 15 = x % 16 := by
  rw [u32_and x 15 hx0 hx (by omega) (by omega)]
  have : (x.toNat &&& (15 : Int).toNat : Nat) = x.toNat % 16 := nat_mask4 x.toNat
  rw [this]; omega
theorem far (w : Int) : (wrap32 ((w * 256) % 4294967296)) / 256 = if w % 16777216 < 8388608 then w % 16777216 else w % 16777216 - 16777216 := by
  have h : (w * 256) % 4294967296 = (w % 16777216) * 256 := by
    have := Int.mul_emod_mul_of_pos (a := 256) w 16777216 (by omega)
    rw [Int.mul_comm w 256, Int.mul_comm (w % 16777216) 256]
    exact this
  have r0 : 0 ≤ w % 16777216 := by omega
  have r1 : w % 16777216 < 16777216 := by omega
  rw [h]
  generalize w % 16777216 = r at *
  unfold wrap32
  split
  · rw [show (r * 256 + 2147483648) % 4294967296 = r * 256 + 2147483648 by omega]; omega
  · rw [show (r * 256 + 2147483648) % 4294967296 = r * 256 + 2147483648 - 4294967296 by omega]; omega
theorem sgn16 (w : Int) : wrap32 (IntKind.i16.wrap w) = if w % 65536 < 32768 then w % 65536 else w % 65536 - 65536 := by
  have e : IntKind.i16.wrap w = if w % 65536 < 32768 then w % 65536 else w % 65536 - 65536 := by
    simp [IntKind.wrap, IntKind.bits, IntKind.signed]
    split <;> split <;> omega
  rw [e]
  have r0 : 0 ≤ w % 65536 := by omega
  have r1 : w % 65536 < 65536 := by omega
  generalize w % 65536 = r at *
  unfold wrap32
  split <;> omega
theorem b_1 : ((1 : Int) = 0) = False := by simp
theorem b_2 : ((2 : Int) = 0) = False := by simp
theorem b_4 : ((4 : Int) = 0) = False := by simp
theorem b_8 : ((8 : Int) = 0) = False := by simp
theorem b_16 : ((16 : Int) = 0) = False := by simp
theorem b_32 : ((32 : Int) = 0) = False := by simp
theorem b_64 : ((64 : Int) = 0) = False := by simp
theorem b_80 : ((80 : Int) = 0) = False := by simp
theorem b_128 : ((128 : Int) = 0) = False := by simp
theorem b_256 : ((256 : Int) = 0) = False := by simp
theorem z0 : ((0 : Int) = 0) = True := by simp
theorem z1 : ((24 : Int) = 24) = True := by simp
theorem z2 : ((16 : Int) = 24) = False := by simp
theorem z3 : ((24 : Int) = 0) = False := by simp
theorem or4 (op d a b : Int) (h1 : 0 ≤ op) (h2 : op < 256) (d1 : 0 ≤ d) (d2 : d < 16) (a1 : 0 ≤ a) (a2 : a < 16) (b1 : 0 ≤ b) (b2 : b < 16) :
    Go.bits .or .u32 (Go.bits .or .u32 (Go.bits .or .u32 (((op % 4294967296) * 16777216) % 4294967296) (((d % 4294967296) * 1048576) % 4294967296)) (((a % 4294967296) * 65536) % 4294967296)) (((b % 4294967296) * 4096) % 4294967296) = op * 16777216 + d * 1048576 + a * 65536 + b * 4096 := by
  rw [show ((op % 4294967296) * 16777216) % 4294967296 = op * 16777216 by omega, show ((d % 4294967296) * 1048576) % 4294967296 = d * 1048576 by omega, show ((a % 4294967296) * 65536) % 4294967296 = a * 65536 by omega, show ((b % 4294967296) * 4096) % 4294967296 = b * 4096 by omega]
  rw [or_add (op * 16777216) (d * 1048576) 16777216 24 (by decide) (by omega) (by omega) (by omega) (by omega) (by omega) (by omega)]
  rw [or_add (op * 16777216 + d * 1048576) (a * 65536) 1048576 20 (by decide) (by omega) (by omega) (by omega) (by omega) (by omega) (by omega)]
  rw [or_add (op * 16777216 + d * 1048576 + a * 65536) (b * 4096) 65536 16 (by decide) (by omega) (by omega) (by omega) (by omega) (by omega) (by omega)]
/-- What an instruction that may be has, in numbers. -/
theorem ok_out {d a b i lo hi : Int} {sd sa sb is : Bool} (h : ok d a b i sd sa sb is lo hi = true) : is = true ∧ (0 ≤ d ∧ d < 16 ∧ (sd = false → d = 0)) ∧ (0 ≤ a ∧ a < 16 ∧ (sa = false → a = 0)) ∧ (0 ≤ b ∧ b < 16 ∧ (sb = false → b = 0)) ∧ lo ≤ i ∧ i ≤ hi := by
  unfold ok rg at h
  simp only [Bool.and_eq_true, decide_eq_true_eq, Bool.or_eq_true, beq_iff_eq] at h
  obtain ⟨h1, ⟨⟨h2, h3⟩, h4⟩, ⟨⟨h5, h6⟩, h7⟩, ⟨⟨h8, h9⟩, h10⟩, h11, h12⟩ := h
  refine ⟨h1, ⟨h2, h3, fun e => ?_⟩, ⟨h5, h6, fun e => ?_⟩, ⟨h8, h9, fun e => ?_⟩, h11, h12⟩
  · rcases h4 with h4 | h4
    · rw [e] at h4; cases h4
    · exact h4
  · rcases h7 with h7 | h7
    · rw [e] at h7; cases h7
    · exact h7
  · rcases h10 with h10 | h10
    · rw [e] at h10; cases h10
    · exact h10
theorem ok_in {d a b i lo hi : Int} {sd sa sb is : Bool} (h : is = true) (hd : 0 ≤ d ∧ d < 16 ∧ (sd = false → d = 0)) (ha : 0 ≤ a ∧ a < 16 ∧ (sa = false → a = 0)) (hb : 0 ≤ b ∧ b < 16 ∧ (sb = false → b = 0)) (h1 : lo ≤ i) (h2 : i ≤ hi) : ok d a b i sd sa sb is lo hi = true := by
  have rgt : ∀ r s, 0 ≤ r → r < 16 → (s = false → r = 0) → rg r s = true := fun r s x y z => by
    unfold rg
    cases s
    · simp [z rfl]
    · simp [x, y]
  unfold ok
  rw [h, rgt d sd hd.1 hd.2.1 hd.2.2, rgt a sa ha.1 ha.2.1 ha.2.2, rgt b sb hb.1 hb.2.1 hb.2.2]
  simp [h1, h2]
section
variable {op p bits lo hi : Int} {sd sa sb sign is : Bool}
theorem isaEnc (k : Nat) (d a b i : Int) (h : Cl op p sd sa sb bits sign is lo hi) (hok : ok d a b i sd sa sb is lo hi = true) : isa_Encode.f (k + 7) op d a b i = some (E op d a b i bits, 0) := by
  have hp := parts k h
  have hc := check k d a b i h
  rw [if_pos hok] at hc
  obtain ⟨_, ⟨d1, d2, d3⟩, ⟨a1, a2, a3⟩, ⟨b1, b2, b3⟩, i1, i2⟩ := ok_out hok
  unfold isa_Encode.f E
  rw [hc, hp]
  simp only [Option.bind_some, if_true]
  clear hp hc hok
  rcases h with ⟨h, rfl, rfl, rfl, rfl, rfl, rfl, rfl, rfl, rfl⟩ | ⟨rfl | rfl | rfl, rfl, rfl, rfl, rfl, rfl, rfl, rfl, rfl, rfl⟩ | ⟨rfl | rfl, rfl, rfl, rfl, rfl, rfl, rfl, rfl, rfl, rfl⟩ | ⟨rfl, rfl, rfl, rfl, rfl, rfl, rfl, rfl, rfl, rfl⟩ | ⟨rfl, rfl, rfl, rfl, rfl, rfl, rfl, rfl, rfl, rfl⟩ | ⟨rfl | rfl, rfl, rfl, rfl, rfl, rfl, rfl, rfl, rfl, rfl⟩ | ⟨rfl | rfl, rfl, rfl, rfl, rfl, rfl, rfl, rfl, rfl, rfl⟩ | ⟨rfl | rfl | rfl, rfl, rfl, rfl, rfl, rfl, rfl, rfl, rfl, rfl⟩ | ⟨rfl, rfl, rfl, rfl, rfl, rfl, rfl, rfl, rfl, rfl⟩ | ⟨rfl, rfl, rfl, rfl, rfl, rfl, rfl, rfl, rfl, rfl⟩ | ⟨⟨h1, h2⟩, rfl, rfl, rfl, rfl, rfl, rfl, rfl, rfl, rfl⟩
  all_goals simp only [b263_1, b263_2, b263_4, b263_8, b263_16, b263_32, b263_64, b263_80, b263_128, b263_256, b267_1, b267_2, b267_4, b267_8, b267_16, b267_32, b267_64, b267_80, b267_128, b267_256, b139_1, b139_2, b139_4, b139_8, b139_16, b139_32, b139_64, b139_80, b139_128, b139_256, b265_1, b265_2, b265_4, b265_8, b265_16, b265_32, b265_64, b265_80, b265_128, b265_256, b401_1, b401_2, b401_4, b401_8, b401_16, b401_32, b401_64, b401_80, b401_128, b401_256, b10_1, b10_2, b10_4, b10_8, b10_16, b10_32, b10_64, b10_80, b10_128, b10_256, b32_1, b32_2, b32_4, b32_8, b32_16, b32_32, b32_64, b32_80, b32_128, b32_256, b2_1, b2_2, b2_4, b2_8, b2_16, b2_32, b2_64, b2_80, b2_128, b2_256, b257_1, b257_2, b257_4, b257_8, b257_16, b257_32, b257_64, b257_80, b257_128, b257_256, b64_1, b64_2, b64_4, b64_8, b64_16, b64_32, b64_64, b64_80, b64_128, b64_256, b0_1, b0_2, b0_4, b0_8, b0_16, b0_32, b0_64, b0_80, b0_128, b0_256]
  all_goals first | (exact absurd (show (false : Bool) = true by assumption) (by decide)) | skip
  all_goals rw [or4 _ d a b (by omega) (by omega) d1 d2 a1 a2 b1 b2]
  all_goals simp only [if_true, show ¬ (32 : Int) = 0 by omega, show ¬ (16 : Int) = 24 by omega, show ¬ (0 : Int) = 24 by omega, if_false]
  all_goals first | rw [and_low _ (by omega) (by omega)] | rw [and_far _ (by omega) (by omega)]
  all_goals first | rw [or_add _ _ 4096 12 (by decide) (by omega) (by omega) (by omega) (by omega) (by omega) (by omega)] | (have hb0 := b3 rfl; rw [or_add _ _ 65536 16 (by decide) (by omega) (by omega) (by omega) (by omega) (by omega) (by omega)]) | (have hb0 := b3 rfl; have ha0 := a3 rfl; have hd0 := d3 rfl; rw [or_add _ _ 16777216 24 (by decide) (by omega) (by omega) (by omega) (by omega) (by omega) (by omega)])
  all_goals (congr 2; omega)
theorem isaEncNo (k : Nat) (d a b i : Int) (h : Cl op p sd sa sb bits sign is lo hi) (hok : ¬ ok d a b i sd sa sb is lo hi = true) : isa_Encode.f (k + 7) op d a b i = some (0, 1) := by
  have hc := check k d a b i h
  rw [if_neg hok] at hc
  unfold isa_Encode.f
  rw [hc]
  rfl
/-- What a word is read as. -/
def dec (w op : Int) (sd sa sb : Bool) (bits : Int) (sign is : Bool) (lo hi : Int) : Int × Int × Int × Int × Int × Int :=
  if ok (fld w sd 1048576) (fld w sa 65536) (fld w sb 4096) (im w bits sign) sd sa sb is lo hi = true ∧ E op (fld w sd 1048576) (fld w sa 65536) (fld w sb 4096) (im w bits sign) bits = w
  then (op, fld w sd 1048576, fld w sa 65536, fld w sb 4096, im w bits sign, 0) else (0, 0, 0, 0, 0, 1)
theorem enc_then (k : Nat) (w d a b i : Int) (h : Cl op p sd sa sb bits sign is lo hi) :
    ((isa_Encode.f (k + 7) op d a b i).bind fun t => (if t.2 = 0 then (if t.1 = w then (some (op, d, a, b, i, 0)) else (some (0, 0, 0, 0, 0, 1))) else (some (0, 0, 0, 0, 0, 1)))) =
      some (if ok d a b i sd sa sb is lo hi = true ∧ E op d a b i bits = w then (op, d, a, b, i, 0) else ((0 : Int), (0 : Int), (0 : Int), (0 : Int), (0 : Int), (1 : Int))) := by
  by_cases hok : ok d a b i sd sa sb is lo hi = true
  · rw [isaEnc k d a b i h hok]
    by_cases he : E op d a b i bits = w <;> simp [hok, he]
  · rw [isaEncNo k d a b i h hok]
    simp [hok]
end
end Go.Proofs.Ytdhmnjoceeolcaa.FactsDec
