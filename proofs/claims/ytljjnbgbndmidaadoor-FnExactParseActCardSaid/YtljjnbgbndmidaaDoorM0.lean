import Derived.Lib.ItoaNum
import Derived.IntWalk
/- Bytes as lists; numerals. -/
namespace Go.Pl
open Go.Lib
set_option linter.unusedSimpArgs false
set_option linter.unusedVariables false

abbrev Bs := List UInt8
def lb (s : ByteArray) : Bs := s.data.toList
def sb (l : Bs) : ByteArray := ⟨l.toArray⟩
@[simp] theorem L_S (l : Bs) : lb (sb l) = l := by simp [lb, sb]
@[simp] theorem S_L (s : ByteArray) : sb (lb s) = s := by simp [lb, sb]
theorem L_inj {a b : ByteArray} : lb a = lb b ↔ a = b := ⟨fun h => by rw [← S_L a, h, S_L], fun h => by rw [h]⟩
theorem S_inj {a b : Bs} : sb a = sb b ↔ a = b := ⟨fun h => by rw [← L_S a, h, L_S], fun h => by rw [h]⟩
theorem L_append (a b : ByteArray) : lb (a ++ b) = lb a ++ lb b := by
  show (a ++ b).data.toList = _
  rw [ByteArray.data_append, Array.toList_append]; rfl
theorem S_append (a b : Bs) : sb a ++ sb b = sb (a ++ b) := by rw [← L_inj, L_append, L_S, L_S, L_S]
theorem size_L (s : ByteArray) : s.size = (lb s).length := by simp [lb]
theorem size_S (l : Bs) : (sb l).size = l.length := by rw [size_L, L_S]
theorem get_L (s : ByteArray) (i : Nat) (h : i < s.size) : s[i] = (lb s)[i]'(by rw [← size_L]; exact h) := rfl
theorem extract_L (s : ByteArray) (i j : Nat) : lb (s.extract i j) = ((lb s).drop i).take (j - i) := by
  show (s.extract i j).data.toList = _
  rw [ByteArray.data_extract, Array.toList_extract, List.extract_eq_take_drop]; rfl
theorem extract_S (s : ByteArray) (i j : Nat) : s.extract i j = sb (((lb s).drop i).take (j - i)) := by rw [← L_inj, extract_L, L_S]

theorem mk_S (a : Array UInt8) : (⟨a⟩ : ByteArray) = sb a.toList := by simp [sb]
theorem S_nil_append (b : ByteArray) : sb [] ++ b = b := by rw [← L_inj, L_append, L_S]; rfl

theorem tdm (n b : Int) : (0 ≤ n → n.tdiv b = n / b ∧ n.tmod b = n % b) ∧ (n < 0 → n.tdiv b = -((-n) / b) ∧ n.tmod b = -((-n) % b)) := by
  refine ⟨fun h => ⟨Int.tdiv_eq_ediv_of_nonneg h, Int.tmod_eq_emod_of_nonneg h⟩, fun h => ⟨?_, ?_⟩⟩
  · have : n = -(-n) := by omega
    rw [this, Int.neg_tdiv, Int.tdiv_eq_ediv_of_nonneg (by omega), Int.neg_neg]
  · have : n = -(-n) := by omega
    rw [this, Int.neg_tmod, Int.tmod_eq_emod_of_nonneg (by omega), Int.neg_neg]

theorem nDigits_le {u k : Nat} (h : u < 10 ^ (k + 1)) : nDigits u ≤ k + 1 := by
  induction k generalizing u with
  | zero => rw [nDigits_small (by omega)]; omega
  | succ k ih =>
    by_cases h1 : u < 10
    · rw [nDigits_small h1]; omega
    · rw [nDigits_big h1]
      have : u / 10 < 10 ^ (k + 1) := by rw [Nat.div_lt_iff_lt_mul (by omega)]; rw [Nat.pow_succ] at h; omega
      have := ih this
      omega
theorem itoa_len (n : Int) (h : -9223372036854775808 ≤ n ∧ n ≤ 9223372036854775807) : (itoa n).length ≤ 20 := by
  have key : ∀ u : Nat, u ≤ 9223372036854775808 → (decDigits u).length ≤ 19 := fun u hu => by
    rw [decDigits_length]
    exact nDigits_le (k := 18) (by omega)
  unfold itoa
  split
  · have := key n.natAbs (by omega); simp; omega
  · have := key n.toNat (by omega); omega
/-- Digits still to come before those that are there. -/
def dig0 (u : Nat) : Bs := if u = 0 then [] else decDigits u
theorem dig0_step {u : Nat} (h : u ≠ 0) : dig0 u = dig0 (u / 10) ++ [UInt8.ofNat (48 + u % 10)] := by
  unfold dig0
  rw [if_neg h]
  by_cases h1 : u < 10
  · have : u / 10 = 0 := by omega
    rw [this, if_pos rfl, decDigits, dif_pos h1, List.nil_append, Nat.mod_eq_of_lt h1]
  · have : u / 10 ≠ 0 := by omega
    rw [if_neg this]
    conv => lhs; rw [decDigits, dif_neg h1]
def fmtI (n : Int) : ByteArray := sb (itoa n)
end Go.Pl
