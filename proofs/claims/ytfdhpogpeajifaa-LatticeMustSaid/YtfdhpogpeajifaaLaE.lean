/- Whether edges name nodes; whether a problem may be; how much is enough. -/
import Derived.Test.YtfdhpogpeajifaaLaD
namespace Go.Proofs.Ytfdhpogpeajifaa.Lat
open Go.RowKit Go.Proofs.YtfdhpogpeajifaaW.PrintWords Go.Proofs.YtfdhpogpeajifaaW.PrintLast Go.Proofs.YtfdhpogpeajifaaW.PrintMore
set_option linter.unusedVariables false
set_option linter.unusedSimpArgs false
def eOk (n : Int) (e : Int × Int) : Bool := decide (0 ≤ e.1) && decide (e.1 < n) && decide (0 ≤ e.2) && decide (e.2 < n)
def allOk (n : Int) (es : List (Int × Int)) : Bool := es.all (eOk n)
theorem allOk_no {n : Int} {es : List (Int × Int)} {k : Nat} (hk : k < es.length) (h : eOk n (es.getD k (0, 0)) = false) : allOk n es = false := by
  unfold allOk
  rw [List.all_eq_false]
  rw [List.getD_eq_getElem?_getD, List.getElem?_eq_getElem hk] at h
  exact ⟨_, List.getElem_mem hk, by rw [show es[k] = (some es[k]).getD (0, 0) from rfl, h]; simp⟩
theorem allOk_yes {n : Int} {es : List (Int × Int)} (h : ∀ k, k < es.length → eOk n (es.getD k (0, 0)) = true) : allOk n es = true := by
  unfold allOk
  rw [List.all_eq_true]
  intro x hx
  obtain ⟨k, hk, rfl⟩ := List.mem_iff_getElem.1 hx
  have := h k hk
  rwa [List.getD_eq_getElem?_getD, List.getElem?_eq_getElem hk] at this
def RetB (v : Value) (w : World) (e : Ending) (w' : World) : Prop := e = .returned v ∧ Below w.heap.size w w'
abbrev eb (e : Int × Int) : Obj := .cells #[.int .i64 e.1, .int .i64 e.2] 44 (0, 0)
set_option maxHeartbeats 8000000 in
set_option maxRecDepth 100000 in
theorem edges_ {w : World} {A : Option Addr} {c : Nat} {es : List (Int × Int)} (n : Nat) (hE : Aside0 (kE.C w A es.length es)) :
    Calls Try.prog 11 #[.slice A es.length c, .int .i64 (n : Int)] w fun e w' => e = .returned (.bool (allOk n es)) ∧ w = w' := by
  have hmx := Kd.C_max hE.out
  go_enter Try.func11, Try.ntmps11
  go_wp2
  go_loop [5] (fun i => ∃ k : Nat, k ≤ es.length ∧ i = .int .i64 k ∧ Aside0 (∀ j, j < k → eOk n (es.getD j (0, 0)) = true)) (fun i => es.length - (intOf i).toNat)
  case atStart => exact ⟨0, by omega, rfl, ⟨fun j hj => by omega⟩⟩
  case round =>
    obtain ⟨k, hk, rfl, hg⟩ := hrel
    by_cases hlt : k < es.length
    · obtain ⟨ad, rfl, a0, a1⟩ := at_E hE.out k hlt
      have hno := fun h => Aside0.mk (allOk_no (n := n) hlt h)
      have hyes : eOk n (es.getD k (0, 0)) = true → Aside0 (∀ j, j < k + 1 → eOk n (es.getD j (0, 0)) = true) := fun h => ⟨fun j hj => by
        by_cases e : j = k
        · rw [e]; exact h
        · exact hg.out j (by omega)⟩
      generalize es.getD k (0, 0) = x at *
      obtain ⟨x1, x2⟩ := x
      simp only at a0 a1
      by_cases h1 : 0 ≤ x1
      · by_cases h2 : x1 < (n : Int)
        · by_cases h3 : 0 ≤ x2
          · by_cases h4 : x2 < (n : Int)
            · have hy := hyes (by unfold eOk; simp; omega)
              clear hno hyes
              go_wp2
              go_round
              case rel => exact ⟨k + 1, by omega, by go_num, hy⟩
              case measure => simp [intOf]; omega
            · have hn := hno (by unfold eOk; simp; omega)
              clear hno hyes
              go_wp2
              go_ret
              exact ⟨ret_b hn.out.symm, rfl⟩
          · have hn := hno (by unfold eOk; simp; omega)
            clear hno hyes
            go_wp2
            go_ret
            exact ⟨ret_b hn.out.symm, rfl⟩
        · have hn := hno (by unfold eOk; simp; omega)
          clear hno hyes
          go_wp2
          go_ret
          exact ⟨ret_b hn.out.symm, rfl⟩
      · have hn := hno (by unfold eOk; simp; omega)
        clear hno hyes
        go_wp2
        go_ret
        exact ⟨ret_b hn.out.symm, rfl⟩
    · obtain rfl : k = es.length := by omega
      have hy := Aside0.mk (allOk_yes hg.out)
      go_wp2
      go_ret
      exact ⟨ret_b hy.out.symm, rfl⟩
/-- A problem's values. -/
abbrev pv (n : Int) (A : Option Addr) (m c : Nat) (bot : V) (f1 f2 f3 f4 : Value) : Value := .agg #[.int .i64 n, .slice A m c, uv bot, f1, f2, f3, f4]
abbrev pb (n : Int) (A : Option Addr) (m c : Nat) (bot : V) (f1 f2 f3 f4 : Value) : Obj := .cells #[.int .i64 n, .slice A m c, uv bot, f1, f2, f3, f4] 35 (0, 0)
abbrev fv (k : Nat) (cap : Array Value) : Value := .func (.func k) #[] cap
set_option maxHeartbeats 8000000 in
set_option maxRecDepth 100000 in
theorem enough_ {w : World} (n : Nat) (A : Option Addr) (m c : Nat) (bot : V) (f1 f2 f3 f4 : Value) (hn : n ≤ 4096) (hm : m ≤ 1000000) :
    Calls Try.prog 22 #[pv n A m c bot f1 f2 f3 f4] w (RetB (.int .i64 (((n : Int) + m + 1) * 65537)) w) := by
  have hX := Aside0.mk (blk_new w (pb n A m c bot f1 f2 f3 f4))
  have hB : Aside0 (Below w.heap.size w (w.alloc (pb n A m c bot f1 f2 f3 f4))) := ⟨below_alloc (Below.refl _ _) _⟩
  have hw : IntKind.i64.wrap (((n : Int) + m + 1) * 65537) = ((n : Int) + m + 1) * 65537 := IntWalk.i64_in _ (by omega)
  have hw1 : IntKind.i64.wrap ((n : Int) + m) = (n : Int) + m := IntWalk.i64_in _ (by omega)
  have hw2 : IntKind.i64.wrap ((n : Int) + m + 1) = (n : Int) + m + 1 := IntWalk.i64_in _ (by omega)
  go_enter Try.func22, Try.ntmps22
  go_wp2
  go_ret
  exact ⟨rfl, hB.out⟩
end Go.Proofs.Ytfdhpogpeajifaa.Lat
