/- The machine's step as a plain function; fetch's contract. -/
import Derived.Test.YtbhkfdjofopfkaaMaG
namespace Go.Proofs.Ytbhkfdjofopfkaa.MemA
open Go.RowKit Go.Proofs.YtbhkfdjofopfkaaW.PrintWords Go.Proofs.YtbhkfdjofopfkaaW.PrintLast
set_option linter.unusedVariables false
set_option linter.unusedSimpArgs false
def Mc.fet (s : Mc) : Option In := if offB s.code.size s.pc then none else dcd (cw s.code s.pc.toNat)
theorem Mc.fet_off {s : Mc} (h : offB s.code.size s.pc = true) : s.fet = none := by unfold Mc.fet; rw [if_pos h]
theorem off_out {n : Nat} {pc : Int} (h : offB n pc = false) (h4 : n % 4 = 0) : 0 ≤ pc ∧ pc.toNat + 4 ≤ n ∧ pc.toNat % 4 = 0 ∧ pc = (pc.toNat : Int) := by
  unfold offB at h
  simp only [Bool.or_eq_false_iff, decide_eq_false_iff_not, Decidable.not_not] at h
  omega
theorem Mc.fet_on {s : Mc} {x : In} (h : s.fet = some x) : offB s.code.size s.pc = false ∧ dcd (cw s.code s.pc.toNat) = some x := by
  unfold Mc.fet at h
  cases ho : offB s.code.size s.pc
  · rw [ho] at h; exact ⟨rfl, h⟩
  · rw [ho] at h; simp at h
theorem fetch_some {w : World} {base g gm h : Nat} {v : Value} {s : Mc} (m : Aside0 (MW w base g gm h v s)) {op : Int} {d a b : Nat} {i : Int} (hx : s.fet = some ⟨op, d, a, b, i⟩) :
    Calls Try.prog 32 #[PM g] w fun e w' => e = .returned (.tuple #[insV op d a b i, .bool true]) ∧ Below w.heap.size w w' := by
  obtain ⟨h1, h2⟩ := Mc.fet_on hx
  obtain ⟨p0, p1, p2, p3⟩ := off_out h1 m.out.ok.c4
  obtain ⟨c0, c1⟩ := cw_bd s.code s.pc.toNat
  exact fetch_yes m s.pc.toNat p3 p1 p2 op d a b i 0 ⟨fun W => (decP _ c0 c1 W).mono fun e w' ⟨q1, q2⟩ => ⟨by rw [h2] at q1; exact q1, q2⟩⟩
theorem fetch_none {w : World} {base g gm h : Nat} {v : Value} {s : Mc} (m : Aside0 (MW w base g gm h v s)) (hx : s.fet = none) :
    Calls Try.prog 32 #[PM g] w fun e w' => e = .returned (.tuple #[insV 0 0 0 0 0, .bool false]) ∧ Below w.heap.size w w' := by
  cases ho : offB s.code.size s.pc
  · obtain ⟨p0, p1, p2, p3⟩ := off_out ho m.out.ok.c4
    obtain ⟨c0, c1⟩ := cw_bd s.code s.pc.toNat
    have h2 : dcd (cw s.code s.pc.toNat) = none := by unfold Mc.fet at hx; rw [ho] at hx; exact hx
    exact fetch_yes m s.pc.toNat p3 p1 p2 0 0 0 0 0 1 ⟨fun W => (decP _ c0 c1 W).mono fun e w' ⟨q1, q2⟩ => ⟨by rw [h2] at q1; exact q1, q2⟩⟩
  · exact fetch_no m ho
theorem bitsbd (op : BinOp) (x y : Int) : 0 ≤ bits op .u32 x y ∧ bits op .u32 x y ≤ 4294967295 := u32w _
/-- The place is another one. -/
def Mc.jump (s : Mc) (n : Int) : Mc := { s with pc := n }
/-- What an instruction makes of a machine. -/
def Mc.exec (s : Mc) (x : In) : Mc :=
  if x.op = 32 then (s.setR x.d ((s.regs.getD x.a 0 + x.i) % 4294967296)).jump (s.pc + 4)
  else if x.op = 33 then (s.setR x.d (x.i % 4294967296)).jump (s.pc + 4)
  else if x.op = 34 then (s.setR x.d (bits .or .u32 (bits .and .u32 (s.regs.getD x.d 0) 65535) (x.i % 4294967296 * 65536 % 4294967296))).jump (s.pc + 4)
  else if x.op = 35 ∨ x.op = 36 ∨ x.op = 37 ∨ x.op = 38 then (if s.msE x.op x.d x.a x.i = true then (s.msS x.op x.d x.a x.i).jump (s.pc + 4) else (s.msS x.op x.d x.a x.i).trapK 5)
  else if x.op = 39 then s.jump (if s.regs.getD x.a 0 = 0 then s.pc + 4 + 4 * x.i else s.pc + 4)
  else if x.op = 40 then s.jump (if s.regs.getD x.a 0 = 0 then s.pc + 4 else s.pc + 4 + 4 * x.i)
  else if x.op = 41 then s.jump (s.pc + 4 + 4 * x.i)
  else if x.op = 42 then (s.setR 14 (s.pc + 4)).jump (s.pc + 4 + 4 * x.i)
  else if x.op = 43 then s.jump (s.regs.getD x.a 0)
  else if x.op = 44 then (s.getS.setR x.d s.getV).jump (s.pc + 4)
  else if x.op = 45 then ({ s with out := s.out ++ [s.regs.getD x.a 0 % 256] } : Mc).jump (s.pc + 4)
  else if x.op = 46 then s.trapK x.i
  else if x.op = 47 then { s with ended := true, kind := 1, ecode := wrap32 (s.regs.getD x.a 0), trap := 0 }
  else if (alu x.op (s.regs.getD x.a 0) (s.regs.getD x.b 0)).2 = 0 then (s.setR x.d (alu x.op (s.regs.getD x.a 0) (s.regs.getD x.b 0)).1).jump (s.pc + 4)
  else s.trapK (alu x.op (s.regs.getD x.a 0) (s.regs.getD x.b 0)).2
def Mc.step (s : Mc) : Mc := if s.ended = true then s else match s.fet with
  | none => s.trapK 4
  | some x => s.exec x
theorem Mc.Ok.jump {s : Mc} (h : s.Ok) {n : Int} (n0 : -17179869184 ≤ n ∧ n ≤ 17179869184) : (s.jump n).Ok := ⟨h.rl, h.r0, h.ml, h.m0, h.ul, h.il, h.cl, n0, h.c4⟩
theorem MW.jump {w : World} {base g gm h : Nat} {v : Value} {s : Mc} (m : MW w base g gm h v s) (n : Int) (n0 : -17179869184 ≤ n ∧ n ≤ 17179869184) : MW (w.setCell ⟨g, 22, none⟩ (.int .i64 n)) base g gm h v (s.jump n) :=
  m.tl_set 0 _ rfl rfl rfl rfl rfl (m.ok.jump n0)
/-- The blocks that a step may turn. -/
def S3 (g h : Nat) (v : Value) (k : Nat) : Prop := k = g ∨ k = h ∨ v.ownBlock = some k
def OwnOk (v v' : Value) (w : World) : Prop := v'.ownBlock = v.ownBlock ∨ ∃ b, v'.ownBlock = some b ∧ w.heap.size ≤ b
def StepP (g base gm h : Nat) (v : Value) (r : Bool) (s : Mc) (w : World) (e : Ending) (w' : World) : Prop := e = .returned (.bool r) ∧ ∃ v', MW w' base g gm h v' s ∧ OwnOk v v' w ∧ Fr (S3 g h v) w w'
theorem S3.g {g h : Nat} {v : Value} : ∀ k, k = g → S3 g h v k := fun k hk => .inl hk
theorem S3.gh {g h : Nat} {v : Value} : ∀ k, MemA.gh g h k → S3 g h v k := fun k hk => hk.elim .inl (fun e => .inr (.inl e))
end Go.Proofs.Ytbhkfdjofopfkaa.MemA
