import Derived.Test.YtljjnbgbndmidaaDoorM0
/- Numbers out of digits. -/
namespace Go.Pl
open Go.Lib
set_option linter.unusedSimpArgs false
set_option linter.unusedVariables false
def digs (l : Bs) : Prop := ∀ c ∈ l, 48 ≤ c.toNat ∧ c.toNat ≤ 57
instance (l : Bs) : Decidable (digs l) := by unfold digs; infer_instance
def val : Bs → Nat := fun l => l.foldl (fun n c => 10 * n + (c.toNat - 48)) 0
theorem val_snoc (l : Bs) (c : UInt8) : val (l ++ [c]) = 10 * val l + (c.toNat - 48) := by simp [val]
theorem digs_snoc (l : Bs) (c : UInt8) : digs (l ++ [c]) ↔ digs l ∧ 48 ≤ c.toNat ∧ c.toNat ≤ 57 := by
  simp only [digs, List.mem_append, List.mem_singleton]
  exact ⟨fun h => ⟨fun x hx => h x (.inl hx), h c (.inr rfl)⟩, fun h x hx => hx.elim (h.1 x) (fun e => e ▸ h.2)⟩
theorem snoc_ind {α : Type} {P : List α → Prop} (h0 : P []) (h1 : ∀ l c, P l → P (l ++ [c])) (l : List α) : P l := by
  rw [← List.reverse_reverse l]
  induction l.reverse with
  | nil => exact h0
  | cons c r ih => rw [List.reverse_cons]; exact h1 _ _ ih
theorem val_lt {l : Bs} (h : digs l) : val l < 10 ^ l.length := by
  induction l using snoc_ind with
  | h0 => simp [val]
  | h1 l c ih =>
    obtain ⟨h1, h2, h3⟩ := (digs_snoc l c).1 h
    have := ih h1
    rw [val_snoc, List.length_append, List.length_singleton, Nat.pow_succ]
    omega
theorem take_snoc (l : Bs) (k : Nat) (h : k < l.length) : l.take (k + 1) = l.take k ++ [l[k]] := by simp
open Go in
theorem iwrap {n : Int} (h : -9223372036854775808 ≤ n ∧ n ≤ 9223372036854775807) : IntKind.i64.wrap n = n := IntWalk.i64_in n h
open Go in
theorem uwrap {n : Int} (h : 0 ≤ n ∧ n ≤ 255) : IntKind.u8.wrap n = n := IntWalk.u8_in n h
open Go in
theorem dstep (v : Nat) (c : UInt8) (hv : v < 10000000000) (h1 : 48 ≤ (c.toNat : Int)) (h2 : (c.toNat : Int) ≤ 57) : IntKind.i64.wrap (IntKind.i64.wrap (10 * (v : Int)) + IntKind.i64.wrap (IntKind.u8.wrap ((c.toNat : Int) - 48))) = ((10 * v + (c.toNat - 48) : Nat) : Int) := by
  rw [uwrap (n := (c.toNat : Int) - 48) (by omega), iwrap (n := 10 * (v : Int)) (by omega), iwrap (n := (c.toNat : Int) - 48) (by omega), iwrap (by omega)]
  omega
open Go in
theorem dstep' (v : Nat) (c : UInt8) (hv : v < 10000000000) (h1 : 48 ≤ (c.toNat : Int)) (h2 : (c.toNat : Int) ≤ 57) : IntKind.i64.wrap (IntKind.i64.wrap (IntKind.i64.wrap (10 * (v : Int)) + IntKind.i64.wrap (c.toNat : Int)) - 48) = ((10 * v + (c.toNat - 48) : Nat) : Int) := by
  rw [iwrap (n := 10 * (v : Int)) (by omega), iwrap (n := (c.toNat : Int)) (by omega), iwrap (n := 10 * (v : Int) + (c.toNat : Int)) (by omega), iwrap (by omega)]
  omega
open Go in
theorem isucc (k : Nat) (h : k < 9223372036854775807) : IntKind.i64.wrap ((k : Int) + 1) = ((k + 1 : Nat) : Int) := by
  rw [iwrap (by omega)]; omega
/-- ParseUint. -/
def pUint (l : Bs) : Int × Bool := if l.length ≤ 10 ∧ digs l ∧ val l ≤ 1000000000 ∧ itoa (val l) = l then (val l, true) else (0, false)
theorem pUint_long {l : Bs} (h : 10 < l.length) : pUint l = (0, false) := if_neg (by omega)
theorem itoa_ne (n : Int) : itoa n ≠ [] := by
  unfold itoa
  split
  · simp
  · intro h
    have := congrArg List.length h
    rw [decDigits_length] at this
    have := nDigits_pos n.toNat
    simp at *; omega
theorem pUint_nil : pUint [] = (0, false) := by
  refine if_neg ?_
  rintro ⟨_, _, _, h⟩
  exact itoa_ne _ h
theorem pUint_bad {l : Bs} {k : Nat} (hk : k < l.length) (h : l[k].toNat < 48 ∨ 57 < l[k].toNat) : pUint l = (0, false) := by
  refine if_neg ?_
  rintro ⟨_, hd, _⟩
  have := hd l[k] (by simp)
  omega
theorem pUint_not {l : Bs} (h : 1000000000 < val l ∨ itoa (val l) ≠ l) : pUint l = (0, false) := by
  refine if_neg ?_
  rintro ⟨_, _, h1, h2⟩
  rcases h with h | h
  · omega
  · exact h h2
theorem pUint_ok {l : Bs} (h0 : l.length ≤ 10) (hd : digs l) (h1 : val l ≤ 1000000000) (h2 : itoa (val l) = l) : pUint l = ((val l : Int), true) := by unfold pUint; rw [if_pos ⟨h0, hd, h1, h2⟩]
theorem fmtI_eq {n : Int} {s : ByteArray} : fmtI n = s ↔ itoa n = lb s := by rw [fmtI, ← L_inj, L_S]
end Go.Pl
