/- Two machines side by side, the program's and the reference's: what turns the one leaves the other as it was. -/
import Derived.Test.YtbhkfdjofopfkaaLwB
import Derived.Test.YtbhkfdjofopfkaaRaI
namespace Go.Proofs.Ytbhkfdjofopfkaa.MemA
open Go.RowKit Go.Proofs.YtbhkfdjofopfkaaW.PrintWords Go.Proofs.YtbhkfdjofopfkaaW.PrintLast
set_option linter.unusedVariables false
set_option linter.unusedSimpArgs false
theorem R_off {w w' : World} {base : Nat} {v : Value} {l : List Int} {S : Nat → Prop} (h : Kd.R (Kd.int .u8) 5 w base (fun _ => True) v l) (k : Kept w w' S) (hv : ∀ b, v.ownBlock = some b → ¬ S b) : Kd.R (Kd.int .u8) 5 w' base (fun _ => True) v l :=
  Kd.R_mono (Kd.R_kept (Kd.R_tight rfl h) k (fun b hb => hv b hb.symm)) (fun _ _ => trivial)
theorem MW.off {w w' : World} {base g gm h : Nat} {v : Value} {s : Mc} {S : Nat → Prop} (m : MW w base g gm h v s) (f : Fr S w w') (n1 : ¬ S g) (n2 : ¬ S gm) (n3 : ¬ S h) (n4 : ∀ b, v.ownBlock = some b → ¬ S b) : MW w' base g gm h v s :=
  ⟨f.blk m.blk n1, ⟨f.blk m.mem.cell n2, f.blk m.mem.row n3, m.mem.ne⟩, R_off m.out f.kept n4, m.hb, m.ok⟩
theorem RW.off {w w' : World} {base g gm h : Nat} {v : Value} {s : Mc} {S : Nat → Prop} (m : RW w base g gm h v s) (f : Fr S w w') (n1 : ¬ S g) (n2 : ¬ S gm) (n3 : ¬ S h) (n4 : ∀ b, v.ownBlock = some b → ¬ S b) : RW w' base g gm h v s :=
  ⟨f.blk m.blk n1, ⟨f.blk m.mem.cell n2, f.blk m.mem.row n3, m.mem.ne⟩, R_off m.out f.kept n4, m.hb, m.ok⟩
theorem own_lt {w : World} {base : Nat} {v : Value} {l : List Int} (h : Kd.R (Kd.int .u8) 5 w base (fun _ => True) v l) : ∀ k, v.ownBlock = some k → k < w.heap.size := fun k hk => ((Kd.R_bound h).1 k hk).2.2.1
/-- The two machines, k steps and j steps on, their blocks apart. -/
structure Duo (s : Mc) (g gm h g' gm' h' : Nat) (w : World) (k j : Nat) (wr : World) : Prop where
  m : ∃ v v', MW wr (h + 1) g gm h v (s.stepN k) ∧ RW wr (h' + 1) g' gm' h' v' (s.stepN j) ∧ (∀ b, v.ownBlock = some b → b ≠ g' ∧ b ≠ gm' ∧ b ≠ h' ∧ v'.ownBlock ≠ some b) ∧ (∀ b, v'.ownBlock = some b → b ≠ g ∧ b ≠ gm ∧ b ≠ h)
  bel : Below w.heap.size w wr
  l : w.heap.size ≤ g ∧ w.heap.size ≤ gm ∧ w.heap.size ≤ h ∧ w.heap.size ≤ g' ∧ w.heap.size ≤ gm' ∧ w.heap.size ≤ h'
  ap : g ≠ g' ∧ g ≠ gm' ∧ g ≠ h' ∧ gm ≠ g' ∧ gm ≠ gm' ∧ gm ≠ h' ∧ h ≠ g' ∧ h ≠ gm' ∧ h ≠ h'
theorem Duo.stepM {s : Mc} {g gm h g' gm' h' : Nat} {w wr : World} {k j : Nat} (D : Duo s g gm h g' gm' h' w k j wr) (he : (s.stepN k).ended = false) (hol : s.out.length + k < 1099511627776) :
    Calls Try.prog 15 #[PM g] wr fun e w' => e = .returned (.bool true) ∧ Duo s g gm h g' gm' h' w (k + 1) j w' := by
  obtain ⟨v, v', m, r, o1, o2⟩ := D.m
  have hl := stepN_out s k
  have hA := D.ap
  have hL := D.l
  have hlt1 := blk_lt r.blk
  have hlt2 := blk_lt r.mem.cell
  have hlt3 := blk_lt r.mem.row
  have hlt4 := own_lt r.out
  refine (step_yes m he (blk_lt m.mem.row) (by omega)).mono ?_
  rintro e w' ⟨rfl, v2, m', ow, fr⟩
  have ho : ∀ b, v2.ownBlock = some b → b ≠ g' ∧ b ≠ gm' ∧ b ≠ h' ∧ v'.ownBlock ≠ some b := by
    intro b hb
    rcases ow with ow | ⟨b', hb', hn⟩
    · exact o1 b (by rw [← ow]; exact hb)
    · rw [hb] at hb'
      injection hb' with hb'
      subst hb'
      exact ⟨by omega, by omega, by omega, fun hq => by have := hlt4 b hq; omega⟩
  refine ⟨rfl, ⟨v2, v', m', r.off fr ?_ ?_ ?_ ?_, ho, o2⟩, D.bel.trans (fr.below D.bel.size (fun q hq hs => ?_)), D.l, D.ap⟩
  · rintro (q | q | q)
    · omega
    · omega
    · exact (o1 _ q).1 rfl
  · rintro (q | q | q)
    · omega
    · omega
    · exact (o1 _ q).2.1 rfl
  · rintro (q | q | q)
    · omega
    · omega
    · exact (o1 _ q).2.2.1 rfl
  · rintro b hb (q | q | q)
    · exact (o2 b hb).1 q
    · exact (o2 b hb).2.2 q
    · exact (o1 b q).2.2.2 hb
  · rcases hs with q1 | q1 | q1
    · omega
    · omega
    · have := own_base m q q1
      omega
theorem Duo.stepR {s : Mc} {g gm h g' gm' h' : Nat} {w wr : World} {k j : Nat} (D : Duo s g gm h g' gm' h' w k j wr) (he : (s.stepN j).ended = false) (hol : s.out.length + j < 1099511627776) :
    Calls Try.prog 23 #[PM g'] wr fun e w' => e = .returned (.bool true) ∧ Duo s g gm h g' gm' h' w k (j + 1) w' := by
  obtain ⟨v, v', m, r, o1, o2⟩ := D.m
  have hl := stepN_out s j
  have hA := D.ap
  have hL := D.l
  have hlt1 := blk_lt m.blk
  have hlt2 := blk_lt m.mem.cell
  have hlt3 := blk_lt m.mem.row
  have hlt4 := own_lt m.out
  refine (rstep_yes r he (blk_lt r.mem.row) (by omega)).mono ?_
  rintro e w' ⟨rfl, v2, r', ow, fr⟩
  have ho : ∀ b, v2.ownBlock = some b → (b ≠ g ∧ b ≠ gm ∧ b ≠ h) ∧ v.ownBlock ≠ some b := by
    intro b hb
    rcases ow with ow | ⟨b', hb', hn⟩
    · have hb2 : v'.ownBlock = some b := by rw [← ow]; exact hb
      exact ⟨o2 b hb2, fun hq => (o1 b hq).2.2.2 hb2⟩
    · rw [hb] at hb'
      injection hb' with hb'
      subst hb'
      exact ⟨⟨by omega, by omega, by omega⟩, fun hq => by have := hlt4 b hq; omega⟩
  refine ⟨rfl, ⟨v, v2, m.off fr ?_ ?_ ?_ ?_, r', fun b hb => ⟨(o1 b hb).1, (o1 b hb).2.1, (o1 b hb).2.2.1, fun hq => (ho b hq).2 hb⟩, fun b hb => (ho b hb).1⟩, D.bel.trans (fr.below D.bel.size (fun q hq hs => ?_)), D.l, D.ap⟩
  · rintro (q | q | q)
    · omega
    · omega
    · exact (o2 _ q).1 rfl
  · rintro (q | q | q)
    · omega
    · omega
    · exact (o2 _ q).2.1 rfl
  · rintro (q | q | q)
    · omega
    · omega
    · exact (o2 _ q).2.2 rfl
  · rintro b hb (q | q | q)
    · exact (o1 b hb).1 q
    · exact (o1 b hb).2.2.1 q
    · exact (o1 b hb).2.2.2 q
  · rcases hs with q1 | q1 | q1
    · omega
    · omega
    · have := own_baseR r q q1
      omega
theorem Duo.below {s : Mc} {g gm h g' gm' h' : Nat} {w wr w' : World} {k j : Nat} (D : Duo s g gm h g' gm' h' w k j wr) (b : Below wr.heap.size wr w') : Duo s g gm h g' gm' h' w k j w' := by
  obtain ⟨v, v', m, r, o1, o2⟩ := D.m
  exact ⟨⟨v, v', m.below b, r.below b, o1, o2⟩, below_step D.bel b, D.l, D.ap⟩
/-- Both are made, the program's first. -/
theorem Duo.begin {s : Mc} {w w1 w2 : World} {g gm h g' gm' h' : Nat} (m : MW w1 (h + 1) g gm h (.slice none 0 0) s) (l1 : w.heap.size ≤ g) (l2 : w.heap.size ≤ gm) (l3 : w.heap.size ≤ h) (b1 : Below w.heap.size w w1)
    (r : RW w2 (h' + 1) g' gm' h' (.slice none 0 0) s) (l4 : w1.heap.size ≤ g') (l5 : w1.heap.size ≤ gm') (l6 : w1.heap.size ≤ h') (b2 : Below w1.heap.size w1 w2) : Duo s g gm h g' gm' h' w 0 0 w2 := by
  have h1 := blk_lt m.blk
  have h2 := blk_lt m.mem.cell
  have h3 := blk_lt m.mem.row
  have h4 := b1.size
  exact ⟨⟨_, _, m.below b2, r, fun b hb => (by cases hb), fun b hb => (by cases hb)⟩, below_step b1 b2, ⟨l1, l2, l3, by omega, by omega, by omega⟩, ⟨by omega, by omega, by omega, by omega, by omega, by omega, by omega, by omega, by omega⟩⟩
theorem Duo.stopM {s : Mc} {g gm h g' gm' h' : Nat} {w wr : World} {k j : Nat} (D : Duo s g gm h g' gm' h' w k j wr) (he : (s.stepN k).ended = true) : Calls Try.prog 15 #[PM g] wr fun e w' => e = .returned (.bool false) ∧ wr = w' := by
  obtain ⟨v, v', m, r, o1, o2⟩ := D.m
  exact step_no ⟨m⟩ he
theorem Duo.stopR {s : Mc} {g gm h g' gm' h' : Nat} {w wr : World} {k j : Nat} (D : Duo s g gm h g' gm' h' w k j wr) (he : (s.stepN j).ended = true) : Calls Try.prog 23 #[PM g'] wr fun e w' => e = .returned (.bool false) ∧ wr = w' := by
  obtain ⟨v, v', m, r, o1, o2⟩ := D.m
  exact rstep_no ⟨r⟩ he
theorem Duo.ended_ {s : Mc} {g gm h g' gm' h' : Nat} {w wr : World} {k j : Nat} (D : Duo s g gm h g' gm' h' w k j wr) : Calls Try.prog 17 #[PM g] wr fun e w' => e = .returned (.bool (s.stepN k).ended) ∧ wr = w' := by
  obtain ⟨v, v', m, r, o1, o2⟩ := D.m
  exact ended ⟨m⟩
theorem Duo.pc_ {s : Mc} {g gm h g' gm' h' : Nat} {w wr : World} {k j : Nat} (D : Duo s g gm h g' gm' h' w k j wr) : Calls Try.prog 19 #[PM g] wr fun e w' => e = .returned (.int .i64 (s.stepN k).pc) ∧ wr = w' := by
  obtain ⟨v, v', m, r, o1, o2⟩ := D.m
  exact pc ⟨m⟩
theorem Duo.reg {s : Mc} {g gm h g' gm' h' : Nat} {w wr : World} {k j : Nat} (D : Duo s g gm h g' gm' h' w k j wr) (i : Nat) (hi : i < 16) : Calls Try.prog 16 #[PM g, .int .i64 (i : Int)] wr fun e w' => e = .returned (.int .u32 ((s.stepN k).regs.getD i 0)) ∧ wr = w' := by
  obtain ⟨v, v', m, r, o1, o2⟩ := D.m
  exact reg_ ⟨m⟩ i hi
theorem Duo.memory_ {s : Mc} {g gm h g' gm' h' : Nat} {w wr : World} {k j : Nat} (D : Duo s g gm h g' gm' h' w k j wr) : Calls Try.prog 20 #[PM g] wr fun e w' => e = .returned (.pointer (some ⟨gm, 0, none⟩)) ∧ wr = w' := by
  obtain ⟨v, v', m, r, o1, o2⟩ := D.m
  exact memory ⟨m⟩
theorem Duo.endM {s : Mc} {g gm h g' gm' h' : Nat} {w wr : World} {k j : Nat} (D : Duo s g gm h g' gm' h' w k j wr) : Calls Try.prog 18 #[PM g] wr fun e w' => e = .returned (s.stepN k).endV ∧ Below wr.heap.size wr w' := by
  obtain ⟨v, v', m, r, o1, o2⟩ := D.m
  exact MemA.end_ ⟨m⟩
theorem Duo.endR {s : Mc} {g gm h g' gm' h' : Nat} {w wr : World} {k j : Nat} (D : Duo s g gm h g' gm' h' w k j wr) (hi : Idle s) : Calls Try.prog 25 #[PM g'] wr fun e w' => e = .returned (s.stepN j).endV ∧ Below wr.heap.size wr w' := by
  obtain ⟨v, v', m, r, o1, o2⟩ := D.m
  exact rend_ ⟨r⟩ (stepN_idle hi j)
theorem Duo.bytes {s : Mc} {g gm h g' gm' h' : Nat} {w wr : World} {k j : Nat} (D : Duo s g gm h g' gm' h' w k j wr) : Calls Try.prog 24 #[.pointer (some ⟨gm, 0, none⟩), .int .u32 0, .int .i64 262144] wr fun e w' => e = .returned (.tuple #[.string (strOfNums (s.stepN k).mem), .int .i64 0]) ∧ wr = w' := by
  obtain ⟨v, v', m, r, o1, o2⟩ := D.m
  have hl := m.ok.ml
  have := bytes_yes (a := 0) (k := 262144) ⟨m.mem⟩ (by omega) (by omega) (by omega) (by omega)
  rw [List.drop_zero, List.take_of_length_le (by omega)] at this
  exact this
/-- What the reference's machine holds, cell by cell. -/
structure Ref (s : Mc) (g' gm' h' : Nat) (w : World) : Prop where
  pc : w.cell? ⟨g', 23, none⟩ = some (.int .i64 s.pc)
  ended : w.cell? ⟨g', 24, none⟩ = some (.bool s.ended)
  mem : w.cell? ⟨g', 6, none⟩ = some (.pointer (some ⟨gm', 0, none⟩))
  reg : ∀ i, i < 16 → w.cell? ⟨g', 7 + i, none⟩ = some (.int .u32 (s.regs.getD i 0))
  row : Mem 63 w gm' h' s.mem
theorem Duo.ref {s : Mc} {g gm h g' gm' h' : Nat} {w wr : World} {k j : Nat} (D : Duo s g gm h g' gm' h' w k j wr) : Ref (s.stepN j) g' gm' h' wr := by
  obtain ⟨v, v', m, r, o1, o2⟩ := D.m
  exact ⟨(r.c_tl 0).trans rfl, (r.c_tl 1).trans rfl, (r.c_hd 6 (by omega)).trans rfl, fun i hi => r.c_rg i hi, r.mem⟩
set_option maxHeartbeats 8000000 in
set_option maxRecDepth 100000 in
theorem reg_none {w : World} {base g gm h : Nat} {v : Value} {s : Mc} (m : Aside0 (MW w base g gm h v s)) (r : Int) (hr : r = -1 ∨ r = 16) :
    Calls Try.prog 16 #[PM g, .int .i64 r] w fun e w' => e = .returned (.int .u32 0) ∧ w = w' := by
  have his := Aside0.mk (is_ m)
  rcases hr with rfl | rfl
  · go_enter Try.func16, Try.ntmps16
    go_wp2_with (go_at_call 31; (with_reducible refine his.out.mono ?_); rintro e w' ⟨rfl, rfl⟩)
    go_ret
    exact ⟨rfl, rfl⟩
  · go_enter Try.func16, Try.ntmps16
    go_wp2_with (go_at_call 31; (with_reducible refine his.out.mono ?_); rintro e w' ⟨rfl, rfl⟩)
    go_ret
    exact ⟨rfl, rfl⟩
theorem Duo.regN {s : Mc} {g gm h g' gm' h' : Nat} {w wr : World} {k j : Nat} (D : Duo s g gm h g' gm' h' w k j wr) (r : Int) (hr : r = -1 ∨ r = 16) : Calls Try.prog 16 #[PM g, .int .i64 r] wr fun e w' => e = .returned (.int .u32 0) ∧ wr = w' := by
  obtain ⟨v, v', m, q, o1, o2⟩ := D.m
  exact reg_none ⟨m⟩ r hr
theorem init_idle (c d : ByteArray) (g e f : Int) (inp : ByteArray) : Idle (Mc.init c d g e f inp) := fun _ => ⟨rfl, rfl⟩
end Go.Proofs.Ytbhkfdjofopfkaa.MemA
