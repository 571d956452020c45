/- Scopes: the other acts in both. -/
import Derived.Test.YtojmhcmgnndfgaaScO
namespace Go.Proofs.Ytojmhcmgnndfgaa.Sc
open Go.RowKit Go.Proofs.YtojmhcmgnndfgaaW.PrintWords
set_option linter.unusedVariables false
set_option linter.unusedSimpArgs false
variable {w : World} {B C g1 g2 j1 j2 : Nat} {st1 st2 : List Blk}

theorem Tw.drew {w : World} (t : Tw w B C g1 g2 st1 st2 j1 j2) : Tw w.drew B C g1 g2 st1 st2 j1 j2 := t.mv0 ⟨rfl, rfl, rfl, Nat.le_refl _, fun _ _ => rfl⟩
theorem Mv.drew (w : World) : Mv B C w w.drew := ⟨⟨rfl, rfl, rfl, Nat.le_refl _, fun _ _ => rfl⟩, ⟨rfl, rfl, rfl, Nat.le_refl _, fun _ _ h _ => h⟩, fun _ _ _ h _ => h⟩
theorem Tw.n {w : World} (t : Tw w B C g1 g2 st1 st2 j1 j2) : w.cell? ⟨g2, 1, none⟩ = some (.int .i64 st2.length) := by
  obtain ⟨v, r⟩ := t.r
  exact (blk_cell r.cell 1).trans rfl
theorem Tw.mono {w : World} {k1 k2 : Nat} (t : Tw w B C g1 g2 st1 st2 j1 j2) (h1 : j1 ≤ k1) (h2 : j2 ≤ k2) : Tw w B C g1 g2 st1 st2 k1 k2 := ⟨t.p, t.r, ok_mono t.o1 h1, ok_mono t.o2 h2, t.hBC, t.hC⟩

set_option maxHeartbeats 8000000 in
set_option maxRecDepth 100000 in
theorem play1 (t : Aside0 (Tw w B C g1 g2 st1 st2 j1 j2)) (s : ByteArray) (x : Int) (hj1 : j1 ≤ 8796093022000) (hj2 : j2 ≤ 4398046511000) :
    Calls Try.prog 8 #[P1 g1, P1 g2, actV 1 s x] w (Played B C g1 g2 (j1 + 1) (j2 + 1) st1 st2 (st1 ++ [[]]) (st2 ++ [[]]) w) := by
  have hT := Aside0.mk (t.out.mv0 (below_alloc (Below.refl _ _) (bx 1 s x)))
  have hF : Aside0 (Mv B C w (w.alloc (bx 1 s x))) := ⟨.of_below (below_alloc (Below.refl _ _) _) t.out.hB⟩
  clear t
  go_enter Try.func8, Try.ntmps8
  go_wp2_with fail
  (with_reducible refine (p_ent hT hj1).mono ?_)
  rintro e w1 ⟨rfl, hT1, hF1⟩
  go_wp2_with fail
  (with_reducible refine (r_ent hT1 hj2).mono ?_)
  rintro e w2 ⟨rfl, hT2, hF2⟩
  have hF := Aside0.mk ((hF.out.trans (hF1.out.trans hF2.out)).trans (Mv.drew w2))
  have hTd := Aside0.mk hT2.out.drew
  have hc := hT2.out.n
  have hcd := hTd.out.n
  clear hT hF1 hF2 hT1
  generalize hs1 : st1 ++ [[]] = t1 at *
  generalize hs2 : st2 ++ [[]] = t2 at *
  have hs : Aside0 (st1 = st2 → t1 = t2) := ⟨fun h => by rw [← hs1, ← hs2, h]⟩
  clear hs1 hs2
  go_wp2_with fail
  go_region_held3 (fun w' => w'.cell? ⟨g2, 1, none⟩ = some (.int .i64 t2.length)) (go_keep)
    (first | (go_at_call 9; refine (p_dep hTd).mono ?_; rintro e w' ⟨rfl, rfl⟩))
  all_goals
    go_wp2
    go_ret
    exact ⟨((t1.length : Int) == (t2.length : Int)), by first | rfl | (simp; done), fun h => by rw [hs.out h]; simp, ⟨hTd.out⟩, ⟨hF.out⟩⟩
set_option maxHeartbeats 8000000 in
set_option maxRecDepth 100000 in
theorem play2 (t : Aside0 (Tw w B C g1 g2 st1 st2 j1 j2)) (s : ByteArray) (x : Int) (hj1 : j1 ≤ 8796093022000) (hj2 : j2 ≤ 4398046511000) :
    Calls Try.prog 8 #[P1 g1, P1 g2, actV 2 s x] w (Played B C g1 g2 (j1 + 1) (j2 + 1) st1 st2 (lv st1) (lv st2) w) := by
  have hT := Aside0.mk (t.out.mv0 (below_alloc (Below.refl _ _) (bx 2 s x)))
  have hF : Aside0 (Mv B C w (w.alloc (bx 2 s x))) := ⟨.of_below (below_alloc (Below.refl _ _) _) t.out.hB⟩
  clear t
  go_enter Try.func8, Try.ntmps8
  go_wp2_with fail
  (with_reducible refine (p_lv hT hj1).mono ?_)
  rintro e w1 ⟨rfl, hT1, hF1⟩
  go_wp2_with fail
  (with_reducible refine (r_lv hT1 hj2).mono ?_)
  rintro e w2 ⟨rfl, hT2, hF2⟩
  go_wp2
  go_ret
  exact ⟨(lvE st1 == lvE st2), by first | rfl | (simp; done), fun h => by rw [h]; simp, ⟨hT2.out⟩, ⟨hF.out.trans (hF1.out.trans hF2.out)⟩⟩
set_option maxHeartbeats 8000000 in
set_option maxRecDepth 100000 in
theorem play4 (t : Aside0 (Tw w B C g1 g2 st1 st2 j1 j2)) (d : Int) (s : ByteArray) (x : Int) (hj1 : j1 ≤ 8796093022000) (hj2 : j2 ≤ 4398046511000) (h0 : (d == 0) = false) (h1 : (d == 1) = false) (h2 : (d == 2) = false) (h3 : (d == 3) = false) :
    Calls Try.prog 8 #[P1 g1, P1 g2, actV d s x] w (Played B C g1 g2 (j1 + 1) (j2 + 1) st1 st2 st1 st2 w) := by
  have hT := Aside0.mk (t.out.mv0 (below_alloc (Below.refl _ _) (bx d s x)))
  have hF : Aside0 (Mv B C w (w.alloc (bx d s x))) := ⟨.of_below (below_alloc (Below.refl _ _) _) t.out.hB⟩
  have hbx := blk_new w (bx d s x)
  clear t
  go_enter Try.func8, Try.ntmps8
  go_wp2_with fail
  generalize hW : w.alloc (bx d s x) = W at *
  have hF := Aside0.mk (hF.out.trans (Mv.drew W))
  have hTd := Aside0.mk hT.out.drew
  have hcd := hTd.out.n
  have hc := hT.out.n
  clear hT hW
  go_region_held3 (fun w' => w'.cell? ⟨g2, 1, none⟩ = some (.int .i64 st2.length)) (go_keep)
    (first | (go_at_call 9; refine (p_dep hTd).mono ?_; rintro e w' ⟨rfl, rfl⟩))
  all_goals
    go_wp2
    go_ret
    exact ⟨((st1.length : Int) == (st2.length : Int)), by first | rfl | (simp; done), fun h => by rw [h]; simp, ⟨hTd.out.mono (by omega) (by omega)⟩, ⟨hF.out⟩⟩
end Go.Proofs.Ytojmhcmgnndfgaa.Sc
