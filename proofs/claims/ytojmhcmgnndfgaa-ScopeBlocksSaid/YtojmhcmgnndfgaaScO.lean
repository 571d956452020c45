/- Scopes: an act in both. -/
import Derived.Test.YtojmhcmgnndfgaaScN
namespace Go.Proofs.Ytojmhcmgnndfgaa.Sc
open Go.RowKit Go.Proofs.YtojmhcmgnndfgaaW.PrintWords
set_option linter.unusedVariables false
set_option linter.unusedSimpArgs false

def step (st : List Blk) (d : Int) (s : ByteArray) (x : Int) : List Blk := if d = 0 then dcl st s x else if d = 1 then st ++ [[]] else if d = 2 then lv st else st
/-- What Play leaves. -/
def Played (B C g1 g2 j1 j2 : Nat) (st1 st2 t1 t2 : List Blk) (w : World) (e : Ending) (w' : World) : Prop :=
  ∃ b, e = .returned (.bool b) ∧ (st1 = st2 → b = true) ∧ Aside0 (Tw w' B C g1 g2 t1 t2 j1 j2) ∧ Aside0 (Mv B C w w')
theorem hG29 (cs : Array Value) : G0 (.cells cs 29 (0, 0)) := by simp [G0, GP, GR]
abbrev actV (d : Int) (s : ByteArray) (x : Int) : Value := .agg #[.int .i64 d, .string s, .int .i64 x]
abbrev bx (d : Int) (s : ByteArray) (x : Int) : Obj := .cells #[.int .i64 d, .string s, .int .i64 x] 29 (0, 0)
variable {w : World} {B C g1 g2 j1 j2 : Nat} {st1 st2 : List Blk}

set_option maxHeartbeats 8000000 in
set_option maxRecDepth 100000 in
theorem play0 (t : Aside0 (Tw w B C g1 g2 st1 st2 j1 j2)) (s : ByteArray) (x : Int) (hj1 : j1 ≤ 8796093022000) (hj2 : j2 ≤ 4398046511000) :
    Calls Try.prog 8 #[P1 g1, P1 g2, actV 0 s x] w (Played B C g1 g2 (j1 + 1) (j2 + 1) st1 st2 (dcl st1 s x) (dcl st2 s x) w) := by
  have hT := Aside0.mk (t.out.mv0 (below_alloc (Below.refl _ _) (bx 0 s x)))
  have hF : Aside0 (Mv B C w (w.alloc (bx 0 s x))) := ⟨.of_below (below_alloc (Below.refl _ _) _) t.out.hB⟩
  have hbx := blk_new w (bx 0 s x)
  go_enter Try.func8, Try.ntmps8
  go_wp2_with fail
  generalize hW : w.alloc (bx 0 s x) = W at *
  have c1 : W.cell? ⟨w.heap.size, 1, none⟩ = some (.string s) := (blk_cell hbx 1).trans rfl
  have c2 : W.cell? ⟨w.heap.size, 2, none⟩ = some (.int .i64 x) := (blk_cell hbx 2).trans rfl
  have hTd : Aside0 (Tw W.drew B C g1 g2 st1 st2 j1 j2) := ⟨hT.out.mv0 ⟨rfl, rfl, rfl, Nat.le_refl _, fun _ _ => rfl⟩⟩
  have hFd : Aside0 (Mv B C w W.drew) := ⟨hF.out.trans (show Mv B C W W.drew from .of_below ⟨rfl, rfl, rfl, Nat.le_refl _, fun _ _ => rfl⟩ hT.out.hB)⟩
  clear hW hT hF t
  go_region_held3 (fun w' => w'.heap[w.heap.size]? = some (bx 0 s x) ∧ w'.cell? ⟨w.heap.size, 1, none⟩ = some (.string s) ∧ w'.cell? ⟨w.heap.size, 2, none⟩ = some (.int .i64 x))
    (first | exact ⟨hbx, c1, c2⟩ | (go_split_ands; have hb := (‹Aside0 (Mv B C _ _)›).out.f.block _ _ (by assumption) (hG29 _); exact ⟨hb, (blk_cell hb 1).trans rfl, (blk_cell hb 2).trans rfl⟩))
    (first | (go_at_call 15; refine (p_dcl (by assumption) s x hj1).mono ?_; rintro e w' ⟨rfl, hT1, hF1⟩) | (go_at_call 16; refine (r_dcl (by assumption) s x hj2).mono ?_; rintro e w' ⟨rfl, hT2, hF2⟩))
  all_goals
    go_wp2
    go_ret
    exact ⟨dclE st1 s == dclE st2 s, by first | rfl | (simp; done), fun h => by rw [h]; simp, by first | exact ⟨hT2.out⟩ | exact ⟨hT1.out⟩, by first | exact ⟨hFd.out.trans (hF1.out.trans hF2.out)⟩ | exact ⟨hFd.out.trans (hF2.out.trans hF1.out)⟩⟩
end Go.Proofs.Ytojmhcmgnndfgaa.Sc
