/- What the bound on a reading's bulk gives: each string, slice and map that was read is small. -/
import Derived.Test.YtdhmnjoceeolcaaRows
namespace Go.Proofs.Ytdhmnjoceeolcaa.Asm
set_option linter.unusedVariables false
set_option linter.unusedSimpArgs false
abbrev capB : Nat := 1073741824
section
/-- Types whose parts lie among them, and whose bytes are few. -/
structure Among (P : Program) (M : Nat) (S : TypeId → Prop) : Prop where
  bytes : ∀ e, S e → P.bytesOf e ≤ M
  ptr : ∀ t e, S t → P.underlying t = some (.pointer e) → S e
  slice : ∀ t e, S t → P.underlying t = some (.slice e) → S e
  struct : ∀ t fs, S t → P.underlying t = some (.struct fs) → ∀ u ∈ fs.toList.map (·.type), S u
  array : ∀ t n e, S t → P.underlying t = some (.array n e) → S e
  map : ∀ t k e, S t → P.underlying t = some (.map k e) → S k ∧ S e
variable {H : Type} {P : Program} {M : Nat} {S : TypeId → Prop}
mutual
theorem w_le (hM : 1 ≤ M) (hB : Among P M S) : (d : DataW H) → (t : TypeId) → S t → ∀ n ∈ d.weights P t, n ≤ Rows.uptoBulk d * (2 * M)
  | .lit l, t, hs, n, h => by
    cases l <;> simp only [DataW.weights, List.mem_singleton, List.not_mem_nil] at h
    subst h
    simp only [Rows.uptoBulk]
    exact Nat.le_trans (Nat.le_succ _) (Nat.le_mul_of_pos_right _ (by omega))
  | .nil, t, hs, n, h => by simp [DataW.weights] at h
  | .held _, t, hs, n, h => by simp [DataW.weights] at h
  | .iface _ d, t, hs, n, h => by simp [DataW.weights] at h
  | .ptr d, t, hs, n, h => by
    simp only [DataW.weights] at h
    split at h
    · rename_i e he
      have := w_le hM hB d _ (hB.ptr t e hs he) n h
      simp only [Rows.uptoBulk]
      exact Nat.le_trans this (Nat.mul_le_mul_right _ (by omega))
    · simp at h
  | .slice elems spare, t, hs, n, h => by
    have hl : elems.length + spare.length ≤ Rows.uptoBulkAll elems + Rows.uptoBulkAll spare := Nat.add_le_add (len_le elems) (len_le spare)
    simp only [DataW.weights] at h
    simp only [Rows.uptoBulk]
    split at h
    · rename_i e he
      have se := hB.slice t e hs he
      simp only [List.mem_cons, List.mem_append] at h
      rcases h with h | h | h
      · subst h
        exact Nat.mul_le_mul (by omega) (by have := hB.bytes e se; omega)
      · exact Nat.le_trans (wAll_le hM hB elems _ se n h) (Nat.mul_le_mul_right _ (by omega))
      · exact Nat.le_trans (wAll_le hM hB spare _ se n h) (Nat.mul_le_mul_right _ (by omega))
    · simp at h
  | .agg parts, t, hs, n, h => by
    simp only [DataW.weights] at h
    simp only [Rows.uptoBulk]
    split at h
    · rename_i fs hf
      exact Nat.le_trans (wEach_le hM hB _ parts (hB.struct t fs hs hf) n h) (Nat.mul_le_mul_right _ (by omega))
    · rename_i m e he
      exact Nat.le_trans (wAll_le hM hB parts _ (hB.array t m e hs he) n h) (Nat.mul_le_mul_right _ (by omega))
    · simp at h
  | .map entries, t, hs, n, h => by
    have hl := ent_le entries
    simp only [DataW.weights] at h
    simp only [Rows.uptoBulk]
    split at h
    · rename_i k e he
      obtain ⟨sk, se⟩ := hB.map t k e hs he
      simp only [List.mem_cons] at h
      rcases h with h | h
      · subst h
        exact Nat.mul_le_mul (by omega) (by have := hB.bytes k sk; have := hB.bytes e se; omega)
      · exact Nat.le_trans (wEnt_le hM hB entries _ se n h) (Nat.mul_le_mul_right _ (by omega))
    · simp at h
theorem wAll_le (hM : 1 ≤ M) (hB : Among P M S) : (l : List (DataW H)) → (e : TypeId) → S e → ∀ n ∈ DataW.weightsAll P e l, n ≤ Rows.uptoBulkAll l * (2 * M)
  | [], e, hs, n, h => by simp [DataW.weightsAll] at h
  | d :: r, e, hs, n, h => by
    simp only [DataW.weightsAll, List.mem_append] at h
    simp only [Rows.uptoBulkAll]
    rcases h with h | h
    · exact Nat.le_trans (w_le hM hB d e hs n h) (Nat.mul_le_mul_right _ (by omega))
    · exact Nat.le_trans (wAll_le hM hB r e hs n h) (Nat.mul_le_mul_right _ (by omega))
theorem wEach_le (hM : 1 ≤ M) (hB : Among P M S) : (ts : List TypeId) → (l : List (DataW H)) → (∀ t ∈ ts, S t) → ∀ n ∈ DataW.weightsEach P ts l, n ≤ Rows.uptoBulkAll l * (2 * M)
  | [], [], hs, n, h => by simp [DataW.weightsEach] at h
  | t :: ts, [], hs, n, h => by simp [DataW.weightsEach] at h
  | [], d :: r, hs, n, h => by simp [DataW.weightsEach] at h
  | t :: ts, d :: r, hs, n, h => by
    simp only [DataW.weightsEach, List.mem_append] at h
    simp only [Rows.uptoBulkAll]
    rcases h with h | h
    · exact Nat.le_trans (w_le hM hB d t (hs t List.mem_cons_self) n h) (Nat.mul_le_mul_right _ (by omega))
    · exact Nat.le_trans (wEach_le hM hB ts r (fun u hu => hs u (List.mem_cons_of_mem _ hu)) n h) (Nat.mul_le_mul_right _ (by omega))
theorem wEnt_le (hM : 1 ≤ M) (hB : Among P M S) : (l : List (Lit × DataW H)) → (e : TypeId) → S e → ∀ n ∈ DataW.weightsEntries P e l, n ≤ Rows.uptoBulkEntries l * (2 * M)
  | [], e, hs, n, h => by simp [DataW.weightsEntries] at h
  | (k, d) :: r, e, hs, n, h => by
    simp only [DataW.weightsEntries, List.mem_append] at h
    simp only [Rows.uptoBulkEntries]
    rcases h with h | h
    · cases k with
      | string bytes =>
        simp only [DataW.weightsEntry, List.mem_cons] at h
        simp only [Rows.uptoBulkEntry]
        rcases h with h | h
        · subst h
          exact Nat.le_trans (show bytes.length ≤ bytes.length + Rows.uptoBulk d + 1 + Rows.uptoBulkEntries r by omega) (Nat.le_mul_of_pos_right _ (by omega))
        · exact Nat.le_trans (w_le hM hB d e hs n h) (Nat.mul_le_mul_right _ (by omega))
      | _ =>
        simp only [DataW.weightsEntry] at h
        simp only [Rows.uptoBulkEntry]
        exact Nat.le_trans (w_le hM hB d e hs n h) (Nat.mul_le_mul_right _ (by omega))
    · exact Nat.le_trans (wEnt_le hM hB r e hs n h) (Nat.mul_le_mul_right _ (by omega))
theorem len_le : (l : List (DataW H)) → l.length ≤ Rows.uptoBulkAll l
  | [] => by simp [Rows.uptoBulkAll]
  | d :: r => by
    have := len_le r
    have : 1 ≤ Rows.uptoBulk d := by cases d with
      | lit l => cases l <;> simp [Rows.uptoBulk]
      | _ => simp [Rows.uptoBulk]
    simp only [Rows.uptoBulkAll, List.length_cons]
    omega
theorem ent_le : (l : List (Lit × DataW H)) → l.length ≤ Rows.uptoBulkEntries l
  | [] => by simp [Rows.uptoBulkEntries]
  | (k, d) :: r => by
    have := ent_le r
    have : 1 ≤ Rows.uptoBulkEntry (k, d) := by cases k <;> simp [Rows.uptoBulkEntry]
    simp only [Rows.uptoBulkEntries, List.length_cons]
    omega
end
end
/-- The table's own types. -/
abbrev inT (P : Program) (t : TypeId) : Prop := t < P.types.size
def inB (P : Program) (t : TypeId) : Bool := decide (t < P.types.size)
def partsB (P : Program) (t : TypeId) : Bool := decide (P.bytesOf t ≤ 256) && match P.underlying t with
  | some (.pointer e) => inB P e
  | some (.slice e) => inB P e
  | some (.struct fs) => (fs.toList.map (·.type)).all (inB P)
  | some (.array _ e) => inB P e
  | some (.map k e) => inB P k && inB P e
  | _ => true
theorem parts_all : (List.range Try.prog.types.size).all (partsB Try.prog) = true := by kernel_rfl
theorem among : Among Try.prog 256 (inT Try.prog) where
  bytes := fun e he => by
    have := List.all_eq_true.1 parts_all e (List.mem_range.2 he)
    unfold partsB at this
    rw [Bool.and_eq_true] at this
    exact of_decide_eq_true this.1
  ptr := fun t e ht he => by
    have := List.all_eq_true.1 parts_all t (List.mem_range.2 ht)
    unfold partsB at this
    rw [Bool.and_eq_true, he] at this
    exact of_decide_eq_true this.2
  slice := fun t e ht he => by
    have := List.all_eq_true.1 parts_all t (List.mem_range.2 ht)
    unfold partsB at this
    rw [Bool.and_eq_true, he] at this
    exact of_decide_eq_true this.2
  struct := fun t fs ht he u hu => by
    have := List.all_eq_true.1 parts_all t (List.mem_range.2 ht)
    unfold partsB at this
    rw [Bool.and_eq_true, he] at this
    exact of_decide_eq_true (List.all_eq_true.1 this.2 u hu)
  array := fun t n e ht he => by
    have := List.all_eq_true.1 parts_all t (List.mem_range.2 ht)
    unfold partsB at this
    rw [Bool.and_eq_true, he] at this
    exact of_decide_eq_true this.2
  map := fun t k e ht he => by
    have := List.all_eq_true.1 parts_all t (List.mem_range.2 ht)
    unfold partsB at this
    rw [Bool.and_eq_true, he] at this
    have h2 := this.2
    rw [Bool.and_eq_true] at h2
    exact ⟨of_decide_eq_true h2.1, of_decide_eq_true h2.2⟩
/-- The bound, for all that was read. -/
theorem small {H : Type} {ts : List TypeId} {ds : List (DataW H)} (hts : ts.all (inB Try.prog) = true) (hk : Rows.uptoSmall H ds = true) : (DataW.weightsEach Try.prog ts ds).all (· ≤ capB) = true := by
  have h : Rows.uptoBulkAll ds ≤ 1048576 := of_decide_eq_true hk
  rw [List.all_eq_true]
  intro n hn
  have := wEach_le (P := Try.prog) (M := 256) (by omega) among ts ds (fun t ht => of_decide_eq_true (List.all_eq_true.1 hts t ht)) n hn
  have : n ≤ 1048576 * (2 * 256) := Nat.le_trans this (Nat.mul_le_mul_right _ h)
  exact decide_eq_true (by show n ≤ 1073741824; omega)
end Go.Proofs.Ytdhmnjoceeolcaa.Asm
