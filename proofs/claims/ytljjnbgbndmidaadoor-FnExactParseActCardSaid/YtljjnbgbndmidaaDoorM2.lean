import Derived.Test.YtljjnbgbndmidaaDoorM1
/- Fields of a line. -/
namespace Go.Pl
set_option linter.unusedSimpArgs false
set_option linter.unusedVariables false
def fstep (st : List Bs × Bs) (c : UInt8) : List Bs × Bs := if c = 32 then (if st.2 = [] then st else (st.1 ++ [st.2], [])) else (st.1, st.2 ++ [c])
def frun (l : Bs) : List Bs × Bs := l.foldl fstep ([], [])
def flush (st : List Bs × Bs) : List Bs := if st.2 = [] then st.1 else st.1 ++ [st.2]
def fieldsOf (l : Bs) : List Bs := flush (frun l)
theorem frun_snoc (l : Bs) (c : UInt8) : frun (l ++ [c]) = fstep (frun l) c := by simp [frun]
/-- The word that is open is the line's end. -/
theorem frun_cur (l : Bs) : ∃ p, l = p ++ (frun l).2 := by
  induction l using snoc_ind with
  | h0 => exact ⟨[], rfl⟩
  | h1 l c ih =>
    obtain ⟨p, hp⟩ := ih
    rw [frun_snoc]
    unfold fstep
    split
    · split
      · rename_i h; exact ⟨l ++ [c], by simp [h]⟩
      · exact ⟨l ++ [c], by simp⟩
    · refine ⟨p, ?_⟩
      simp only []
      rw [← List.append_assoc, ← hp]
theorem frun_drop (l : Bs) : l.drop (l.length - (frun l).2.length) = (frun l).2 := by
  obtain ⟨p, hp⟩ := frun_cur l
  have : l.length - (frun l).2.length = p.length := by
    have := congrArg List.length hp
    rw [List.length_append] at this; omega
  rw [this]
  conv => lhs; rw [hp]
  simp
theorem frun_len (l : Bs) : (frun l).2.length ≤ l.length := by
  obtain ⟨p, hp⟩ := frun_cur l
  have := congrArg List.length hp
  rw [List.length_append] at this; omega
def vis (l : Bs) : Prop := ∀ c ∈ l, 32 ≤ c.toNat ∧ c.toNat ≤ 126
instance (l : Bs) : Decidable (vis l) := by unfold vis; infer_instance
theorem vis_snoc (l : Bs) (c : UInt8) : vis (l ++ [c]) ↔ vis l ∧ 32 ≤ c.toNat ∧ c.toNat ≤ 126 := by
  simp only [vis, List.mem_append, List.mem_singleton]
  exact ⟨fun h => ⟨fun x hx => h x (.inl hx), h c (.inr rfl)⟩, fun h x hx => hx.elim (h.1 x) (fun e => e ▸ h.2)⟩
/-- SplitFields. -/
def pFields (l : Bs) : List Bs × Bool := if l.length ≤ 600 ∧ vis l ∧ (fieldsOf l).length ≤ 24 then (fieldsOf l, true) else ([], false)
theorem pFields_long {l : Bs} (h : 600 < l.length) : pFields l = ([], false) := if_neg (by omega)
theorem pFields_bad {l : Bs} {k : Nat} (hk : k < l.length) (h : l[k].toNat < 32 ∨ 126 < l[k].toNat) : pFields l = ([], false) := by
  refine if_neg ?_
  rintro ⟨_, hd, _⟩
  have := hd l[k] (by simp)
  omega
theorem pFields_many {l : Bs} (h : 24 < (fieldsOf l).length) : pFields l = ([], false) := if_neg (by omega)
theorem pFields_ok {l : Bs} (h1 : l.length ≤ 600) (h2 : vis l) (h3 : (fieldsOf l).length ≤ 24) : pFields l = (fieldsOf l, true) := if_pos ⟨h1, h2, h3⟩
theorem fstep_len (st : List Bs × Bs) (c : UInt8) : (fstep st c).1.length ≤ st.1.length + 1 := by
  unfold fstep
  split
  · split <;> simp
  · simp
theorem frun_many (l : Bs) : (frun l).1.length ≤ l.length := by
  induction l using snoc_ind with
  | h0 => simp [frun]
  | h1 l c ih => rw [frun_snoc]; have := fstep_len (frun l) c; simp; omega
theorem u8_32 (c : UInt8) : c = 32 ↔ (c.toNat : Int) = 32 := by
  constructor
  · rintro rfl; rfl
  · intro h
    have : c.toNat = 32 := by omega
    exact UInt8.toNat_inj.1 this
/-- The second loop of the program's SplitFields: the place, the fields so far, where the open word begins. -/
def spF (l : Bs) (x : Nat × List Bs × Int) : Prop := (x.1 ≤ l.length ∧ x.2.1 = (frun (l.take x.1)).1 ∧ x.2.2 = if (frun (l.take x.1)).2 = [] then -1 else (x.1 : Int) - (frun (l.take x.1)).2.length) ∨ (x.1 = l.length + 1 ∧ x.2.1 = fieldsOf l ∧ x.2.2 = -1)
theorem spF_in {l : Bs} {i : Nat} {acc : List Bs} {st : Int} (h : spF l (i, acc, st)) (hi : i ≤ l.length) : acc = (frun (l.take i)).1 ∧ ((st < 0 ∧ (frun (l.take i)).2 = [] ∧ st = -1) ∨ (0 ≤ st ∧ st < i ∧ (frun (l.take i)).2 ≠ [] ∧ st.toNat + (frun (l.take i)).2.length = i ∧ (frun (l.take i)).2 = (l.drop st.toNat).take (i - st.toNat))) := by
  rcases h with ⟨h1, h2, h3⟩ | ⟨h1, _⟩
  · refine ⟨h2, ?_⟩
    simp only at h3
    split at h3
    · rename_i h4; exact .inl ⟨by omega, h4, h3⟩
    · rename_i h4
      have hl := frun_len (l.take i)
      rw [List.length_take] at hl
      have hp : 0 < (frun (l.take i)).2.length := List.length_pos_iff.2 h4
      refine .inr ⟨by omega, by omega, h4, by omega, ?_⟩
      have hd := frun_drop (l.take i)
      rw [List.length_take, Nat.min_eq_left hi] at hd
      have : i - (frun (l.take i)).2.length = st.toNat := by omega
      rw [this, List.drop_take] at hd
      exact hd.symm
  · simp only at h1; omega
theorem spF_step {l : Bs} {i : Nat} {acc : List Bs} {st : Int} (h : spF l (i, acc, st)) (hi : i < l.length) :
    (¬ (l[i].toNat : Int) = 32 → st < 0 → spF l (i + 1, acc, i)) ∧ (¬ (l[i].toNat : Int) = 32 → 0 ≤ st → spF l (i + 1, acc, st)) ∧
    ((l[i].toNat : Int) = 32 → 0 ≤ st → spF l (i + 1, acc ++ [(l.drop st.toNat).take (i - st.toNat)], -1)) ∧ ((l[i].toNat : Int) = 32 → st < 0 → spF l (i + 1, acc, st)) := by
  obtain ⟨ha, hs⟩ := spF_in h (by omega)
  have hf : frun (l.take (i + 1)) = fstep (frun (l.take i)) l[i] := by rw [take_snoc _ _ hi, frun_snoc]
  refine ⟨fun hc hst => ?_, fun hc hst => ?_, fun hc hst => ?_, fun hc hst => ?_⟩
  · rcases hs with ⟨_, h2, h3⟩ | ⟨h2, _⟩
    · refine .inl ⟨by simp only []; omega, ?_, ?_⟩
      · simp only [hf, fstep]; rw [if_neg (fun e => hc ((u8_32 _).1 e))]; exact ha
      · simp only [hf, fstep]; rw [if_neg (fun e => hc ((u8_32 _).1 e))]; simp [h2]
    · omega
  · rcases hs with ⟨h2, _⟩ | ⟨h2, h3, h4, h5, h6⟩
    · omega
    · refine .inl ⟨by simp only []; omega, ?_, ?_⟩
      · simp only [hf, fstep]; rw [if_neg (fun e => hc ((u8_32 _).1 e))]; exact ha
      · simp only [hf, fstep]; rw [if_neg (fun e => hc ((u8_32 _).1 e))]; simp; omega
  · rcases hs with ⟨h2, _⟩ | ⟨h2, h3, h4, h5, h6⟩
    · omega
    · refine .inl ⟨by simp only []; omega, ?_, ?_⟩
      · simp only [hf, fstep]; rw [if_pos ((u8_32 _).2 hc), if_neg h4, ha, h6]
      · simp only [hf, fstep]; rw [if_pos ((u8_32 _).2 hc), if_neg h4]; simp
  · rcases hs with ⟨h2, h3, h4⟩ | ⟨h2, _⟩
    · refine .inl ⟨by simp only []; omega, ?_, ?_⟩
      · simp only [hf, fstep]; rw [if_pos ((u8_32 _).2 hc), if_pos h3]; exact ha
      · simp only [hf, fstep]; rw [if_pos ((u8_32 _).2 hc), if_pos h3]; simp [h3, h4]
    · omega
theorem spF_last {l : Bs} {acc : List Bs} {st : Int} (h : spF l (l.length, acc, st)) :
    (0 ≤ st → spF l (l.length + 1, acc ++ [(l.drop st.toNat).take (l.length - st.toNat)], -1)) ∧ (st < 0 → spF l (l.length + 1, acc, st)) := by
  obtain ⟨ha, hs⟩ := spF_in h (Nat.le_refl _)
  rw [List.take_length] at ha hs
  refine ⟨fun hst => ?_, fun hst => ?_⟩
  · rcases hs with ⟨h2, _⟩ | ⟨h2, h3, h4, h5, h6⟩
    · omega
    · refine .inr ⟨rfl, ?_, rfl⟩
      simp only [fieldsOf, flush]; rw [if_neg h4, ha, ← h6]
  · rcases hs with ⟨h2, h3, h4⟩ | ⟨h2, _⟩
    · refine .inr ⟨rfl, ?_, h4⟩
      simp only [fieldsOf, flush]; rw [if_pos h3, ha]
    · omega
theorem spF_many {l : Bs} {i : Nat} {acc : List Bs} {st : Int} (h : spF l (i, acc, st)) (hi : i ≤ l.length) (hl : l.length ≤ 600) : acc.length ≤ 600 := by
  obtain ⟨ha, _⟩ := spF_in h hi
  rw [ha]
  have := frun_many (l.take i)
  rw [List.length_take] at this
  omega
theorem spF_end {l : Bs} {i : Nat} {acc : List Bs} {st : Int} (h : spF l (i, acc, st)) (hi : l.length < i) : acc = fieldsOf l := by
  rcases h with ⟨h1, _⟩ | ⟨_, h2, _⟩
  · simp only at h1; omega
  · exact h2
theorem spF_st {l : Bs} {i : Nat} {acc : List Bs} {st : Int} (h : spF l (i, acc, st)) (hi : i ≤ l.length) : st ≤ i := by
  obtain ⟨_, hs⟩ := spF_in h hi
  rcases hs with h | h <;> omega
/-- The loop of the reference's SplitFields. -/
def spG (l : Bs) (x : Nat × List Bs × Int) : Prop := (x.1 ≤ l.length ∧ vis (l.take x.1) ∧ x.2.1 = (frun (l.take x.1)).1 ∧ x.2.2 = (x.1 : Int) - (frun (l.take x.1)).2.length) ∨ (x.1 = l.length + 1 ∧ vis l ∧ x.2.1 = fieldsOf l ∧ x.2.2 = (l.length : Int) + 1)
theorem spG_in {l : Bs} {i : Nat} {acc : List Bs} {b : Int} (h : spG l (i, acc, b)) (hi : i ≤ l.length) : vis (l.take i) ∧ acc = (frun (l.take i)).1 ∧ 0 ≤ b ∧ b ≤ i ∧ (b < i ↔ (frun (l.take i)).2 ≠ []) ∧ b = (i : Int) - (frun (l.take i)).2.length ∧ (frun (l.take i)).2 = (l.drop b.toNat).take (i - b.toNat) := by
  rcases h with ⟨h1, h0, h2, h3⟩ | ⟨h1, _⟩
  · simp only at h3
    have hl := frun_len (l.take i)
    rw [List.length_take] at hl
    have hd := frun_drop (l.take i)
    rw [List.length_take, Nat.min_eq_left hi] at hd
    have : i - (frun (l.take i)).2.length = b.toNat := by omega
    rw [this, List.drop_take] at hd
    refine ⟨h0, h2, by omega, by omega, ?_, h3, hd.symm⟩
    rw [← List.length_pos_iff]
    omega
  · simp only at h1; omega
theorem spG_step {l : Bs} {i : Nat} {acc : List Bs} {b : Int} (h : spG l (i, acc, b)) (hi : i < l.length) (h1 : 32 ≤ (l[i].toNat : Int)) (h2 : (l[i].toNat : Int) ≤ 126) :
    (¬ (l[i].toNat : Int) = 32 → spG l (i + 1, acc, b)) ∧ ((l[i].toNat : Int) = 32 → b < i → spG l (i + 1, acc ++ [(l.drop b.toNat).take (i - b.toNat)], (i : Int) + 1)) ∧ ((l[i].toNat : Int) = 32 → (i : Int) ≤ b → spG l (i + 1, acc, (i : Int) + 1)) := by
  obtain ⟨hv, ha, hb0, hb1, hb2, hb3, hd⟩ := spG_in h (by omega)
  have hf : frun (l.take (i + 1)) = fstep (frun (l.take i)) l[i] := by rw [take_snoc _ _ hi, frun_snoc]
  have hv' : vis (l.take (i + 1)) := by rw [take_snoc _ _ hi, vis_snoc]; exact ⟨hv, by omega, by omega⟩
  refine ⟨fun hc => .inl ⟨by simp only []; omega, hv', ?_, ?_⟩, fun hc hlt => .inl ⟨by simp only []; omega, hv', ?_, ?_⟩, fun hc hlt => .inl ⟨by simp only []; omega, hv', ?_, ?_⟩⟩
  · simp only [hf, fstep]; rw [if_neg (fun e => hc ((u8_32 _).1 e))]; exact ha
  · simp only [hf, fstep]; rw [if_neg (fun e => hc ((u8_32 _).1 e))]; simp; omega
  · simp only [hf, fstep]; rw [if_pos ((u8_32 _).2 hc), if_neg (hb2.1 hlt), ha, hd]
  · simp only [hf, fstep]; rw [if_pos ((u8_32 _).2 hc), if_neg (hb2.1 hlt)]; simp
  · have : (frun (l.take i)).2 = [] := Classical.byContradiction fun hne => by have := hb2.2 hne; omega
    simp only [hf, fstep]; rw [if_pos ((u8_32 _).2 hc), if_pos this]; exact ha
  · have : (frun (l.take i)).2 = [] := Classical.byContradiction fun hne => by have := hb2.2 hne; omega
    simp only [hf, fstep]; rw [if_pos ((u8_32 _).2 hc), if_pos this]; simp [this]
theorem spG_last {l : Bs} {acc : List Bs} {b : Int} (h : spG l (l.length, acc, b)) :
    (b < l.length → spG l (l.length + 1, acc ++ [(l.drop b.toNat).take (l.length - b.toNat)], (l.length : Int) + 1)) ∧ ((l.length : Int) ≤ b → spG l (l.length + 1, acc, (l.length : Int) + 1)) := by
  obtain ⟨hv, ha, hb0, hb1, hb2, hb3, hd⟩ := spG_in h (Nat.le_refl _)
  rw [List.take_length] at hv ha hb2 hd
  refine ⟨fun hlt => .inr ⟨rfl, hv, ?_, rfl⟩, fun hlt => .inr ⟨rfl, hv, ?_, rfl⟩⟩
  · simp only [fieldsOf, flush]; rw [if_neg (hb2.1 hlt), ha, ← hd]
  · have : (frun l).2 = [] := Classical.byContradiction fun hne => by have := hb2.2 hne; omega
    simp only [fieldsOf, flush]; rw [if_pos this, ha]
theorem spG_many {l : Bs} {i : Nat} {acc : List Bs} {st : Int} (h : spG l (i, acc, st)) (hi : i ≤ l.length) (hl : l.length ≤ 600) : acc.length ≤ 600 := by
  obtain ⟨_, ha, _⟩ := spG_in h hi
  rw [ha]
  have := frun_many (l.take i)
  rw [List.length_take] at this
  omega
theorem spG_end {l : Bs} {i : Nat} {acc : List Bs} {st : Int} (h : spG l (i, acc, st)) (hi : l.length < i) : acc = fieldsOf l ∧ vis l := by
  rcases h with ⟨h1, _⟩ | ⟨_, h1, h2, _⟩
  · simp only at h1; omega
  · exact ⟨h2, h1⟩
theorem spG_b {l : Bs} {i : Nat} {acc : List Bs} {b : Int} (h : spG l (i, acc, b)) (hi : i ≤ l.length) : 0 ≤ b ∧ b ≤ i := by
  obtain ⟨_, _, h1, h2, _⟩ := spG_in h hi
  exact ⟨h1, h2⟩
end Go.Pl
