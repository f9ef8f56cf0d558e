import Derived.Test.YtljjnbgbndmidaaDoorA1
import Derived.Test.YtljjnbgbndmidaaDoorM0
open Go Go.Eng Go.Proofs Go.Pl Go.Lib
namespace Go.Proofs.A
set_option linter.unusedSimpArgs false
set_option linter.unusedVariables false
set_option maxRecDepth 100000
theorem nums1 (x : Int) : strOfNums [x] = sb [UInt8.ofNat x.toNat] := rfl
theorem l01Figure_ct (n : Int) (h : 0 ≤ n ∧ n < 10) : CallsTo Tryd.prog 58 [.v (.int .i64 n)] (.v (.int .u8 (48 + n))) := by
  refine calls_of_code L_ok Tryd.func58 rfl rfl (ts := [.tmp 2]) rfl (n := 12) rfl (e_start ?_)
  simp only [List.replicate, List.length_cons, List.length_nil, List.cons_append, List.nil_append]
  repeat' (first
    | refine e_seq ?_ | refine e_block ?_ | refine e_region ?_
    | (refine g_op rfl (fun K hK => ?_); simp only [go_sem]; (first | refine hK _ ?_ | refine ⟨?_, hK _ ?_⟩ | refine ⟨?_, ?_, hK _ ?_⟩ | refine ⟨?_, ?_, ?_, hK _ ?_⟩ | refine idxI_map ?_ (hK _ ?_) | refine idxI_map' ?_ ?_ (hK _ ?_)) <;> clear hK K)
    | (refine e_op rfl (fun K hK => ?_); simp only [go_sem]; (first | refine hK _ ?_ | refine ⟨?_, hK _ ?_⟩ | refine ⟨?_, ?_, hK _ ?_⟩ | refine ⟨?_, ?_, ?_, hK _ ?_⟩ | refine idxI_map ?_ (hK _ ?_) | refine idxI_map' ?_ ?_ (hK _ ?_)) <;> clear hK K)
    | refine e_drawT mixed (by decide +kernel) rfl rfl rfl ?_
    | refine g_on rfl rfl rfl ?_ | (refine g_off rfl rfl rfl ?_; simp only [go_sem]) | (refine g_past rfl rfl rfl ?_; simp only [go_sem]) | refine e_on rfl rfl rfl ?_ | (refine e_off rfl rfl rfl ?_; simp only [go_sem]) | (refine e_past rfl rfl rfl ?_; simp only [go_sem])
    | refine g_nil ?_ | refine e_nil ?_ | refine e_blk ?_ | refine e_skip ?_ | refine e_ret ?_ | refine e_condT rfl ?_ | refine e_condF rfl ?_ | refine e_exit rfl ?_ | refine e_lp ?_
    | (refine g_guard rfl rfl rfl (fun h => ?_) (fun h => ?_) <;> (try simp only [h, go_sem]) <;> (try simp only [Bool.not_true, Bool.not_false, Bool.not_eq_true', Bool.not_eq_false', decide_eq_true_eq, decide_eq_false_iff_not, Bool.and_eq_true, Bool.or_eq_true, Int.not_lt, Int.not_le, Nat.not_lt, Nat.not_le] at h))
    | (refine e_guard rfl rfl rfl (fun h => ?_) (fun h => ?_) <;> (try simp only [h, go_sem]) <;> (try simp only [Bool.not_true, Bool.not_false, Bool.not_eq_true', Bool.not_eq_false', decide_eq_true_eq, decide_eq_false_iff_not, Bool.and_eq_true, Bool.or_eq_true, Int.not_lt, Int.not_le, Nat.not_lt, Nat.not_le] at h))
    | (refine e_cond rfl (fun h => ?_) (fun h => ?_) <;> (try simp only [h, go_sem]) <;> (try simp only [Bool.not_true, Bool.not_false, Bool.not_eq_true', Bool.not_eq_false', decide_eq_true_eq, decide_eq_false_iff_not, Bool.and_eq_true, Bool.or_eq_true, Int.not_lt, Int.not_le, Nat.not_lt, Nat.not_le] at h))
    | omega | decide)
  · simp [go_sem]; rw [IntKind.wrap_i64, IntKind.wrap_u8]; omega
theorem sFormatInt_ct (n0 : Int) (h0 : -9223372036854775808 ≤ n0 ∧ n0 ≤ 9223372036854775807) : CallsTo Tryd.prog 36 [.v (.int .i64 n0)] (.v (.string (fmtI n0))) := by
  refine calls_of_code L_ok Tryd.func36 rfl rfl (ts := [.tmp 2]) rfl (n := 30) rfl (e_start ?_)
  simp only [List.replicate, List.length_cons, List.length_nil, List.cons_append, List.nil_append]
  repeat' (first
    | refine e_seq ?_ | refine e_block ?_ | refine e_region ?_
    | (refine g_op rfl (fun K hK => ?_); simp only [go_sem]; (first | refine hK _ ?_ | refine ⟨?_, hK _ ?_⟩ | refine ⟨?_, ?_, hK _ ?_⟩ | refine ⟨?_, ?_, ?_, hK _ ?_⟩ | refine idxI_map ?_ (hK _ ?_) | refine idxI_map' ?_ ?_ (hK _ ?_)) <;> clear hK K)
    | (refine e_op rfl (fun K hK => ?_); simp only [go_sem]; (first | refine hK _ ?_ | refine ⟨?_, hK _ ?_⟩ | refine ⟨?_, ?_, hK _ ?_⟩ | refine ⟨?_, ?_, ?_, hK _ ?_⟩ | refine idxI_map ?_ (hK _ ?_) | refine idxI_map' ?_ ?_ (hK _ ?_)) <;> clear hK K)
    | refine e_drawT mixed (by decide +kernel) rfl rfl rfl ?_
    | refine g_on rfl rfl rfl ?_ | (refine g_off rfl rfl rfl ?_; simp only [go_sem]) | (refine g_past rfl rfl rfl ?_; simp only [go_sem]) | refine e_on rfl rfl rfl ?_ | (refine e_off rfl rfl rfl ?_; simp only [go_sem]) | (refine e_past rfl rfl rfl ?_; simp only [go_sem])
    | refine g_nil ?_ | refine e_nil ?_ | refine e_blk ?_ | refine e_skip ?_ | refine e_ret ?_ | refine e_condT rfl ?_ | refine e_condF rfl ?_ | refine e_exit rfl ?_ | refine e_lp ?_
    | (refine g_guard rfl rfl rfl (fun h => ?_) (fun h => ?_) <;> (try simp only [h, go_sem]) <;> (try simp only [Bool.not_true, Bool.not_false, Bool.not_eq_true', Bool.not_eq_false', decide_eq_true_eq, decide_eq_false_iff_not, Bool.and_eq_true, Bool.or_eq_true, Int.not_lt, Int.not_le, Nat.not_lt, Nat.not_le] at h))
    | (refine e_guard rfl rfl rfl (fun h => ?_) (fun h => ?_) <;> (try simp only [h, go_sem]) <;> (try simp only [Bool.not_true, Bool.not_false, Bool.not_eq_true', Bool.not_eq_false', decide_eq_true_eq, decide_eq_false_iff_not, Bool.and_eq_true, Bool.or_eq_true, Int.not_lt, Int.not_le, Nat.not_lt, Nat.not_le] at h))
    | (refine e_cond rfl (fun h => ?_) (fun h => ?_) <;> (try simp only [h, go_sem]) <;> (try simp only [Bool.not_true, Bool.not_false, Bool.not_eq_true', Bool.not_eq_false', decide_eq_true_eq, decide_eq_false_iff_not, Bool.and_eq_true, Bool.or_eq_true, Int.not_lt, Int.not_le, Nat.not_lt, Nat.not_le] at h))
    | omega | decide)
  · subst h; simp [go_sem]; decide +kernel
  · refine e_loop (fun i : Int × Bs => dig0 n0.natAbs = dig0 i.1.natAbs ++ i.2 ∧ (0 ≤ n0 → 0 ≤ i.1) ∧ (n0 ≤ 0 → i.1 ≤ 0) ∧ i.1.natAbs ≤ n0.natAbs) (fun i => ⟨fr 30 [(0, .v (.int .i64 i.1)), (3, .v (.bool (decide (n0 < 0)))), (4, .v (.string (sb i.2)))], []⟩) (fun i => i.1.natAbs) (n0, []) (by simp) ?_ ?_
    · refine gh_fits ?_
      constructor <;> simp [go_sem]
      rfl
    · rintro ⟨n, l⟩ ⟨h1, h2, h3, h4⟩
      simp only at h1 h2 h3 h4
      simp only [go_sem]
      have hlen : (dig0 n0.natAbs).length ≤ 19 := by
        unfold dig0; split
        · simp
        · rw [decDigits_length]; exact nDigits_le (k := 18) (by omega)
      have hl : l.length ≤ 19 := by have := congrArg List.length h1; simp at this; omega
      have tq := tdm n 10
      repeat' (first
        | refine e_seq ?_ | refine e_block ?_ | refine e_region ?_
        | (refine g_op rfl (fun K hK => ?_); simp only [go_sem]; (first | refine hK _ ?_ | refine ⟨?_, hK _ ?_⟩ | refine ⟨?_, ?_, hK _ ?_⟩ | refine ⟨?_, ?_, ?_, hK _ ?_⟩ | refine idxI_map ?_ (hK _ ?_) | refine idxI_map' ?_ ?_ (hK _ ?_)) <;> clear hK K)
        | (refine e_op rfl (fun K hK => ?_); simp only [go_sem]; (first | refine hK _ ?_ | refine ⟨?_, hK _ ?_⟩ | refine ⟨?_, ?_, hK _ ?_⟩ | refine ⟨?_, ?_, ?_, hK _ ?_⟩ | refine idxI_map ?_ (hK _ ?_) | refine idxI_map' ?_ ?_ (hK _ ?_)) <;> clear hK K)
        | (refine g_op rfl (fun K hK => ?_); simp only [go_sem]; (first | refine callK_of (l01Figure_ct _ ?_) ?_); rotate_right; (try simp only [go_sem]); refine hK _ ?_; all_goals (try clear hK K))
        | (refine e_op rfl (fun K hK => ?_); simp only [go_sem]; (first | refine callK_of (l01Figure_ct _ ?_) ?_); rotate_right; (try simp only [go_sem]); refine hK _ ?_; all_goals (try clear hK K))
        | refine e_drawT mixed (by decide +kernel) rfl rfl rfl ?_
        | refine g_on rfl rfl rfl ?_ | (refine g_off rfl rfl rfl ?_; simp only [go_sem]) | (refine g_past rfl rfl rfl ?_; simp only [go_sem]) | refine e_on rfl rfl rfl ?_ | (refine e_off rfl rfl rfl ?_; simp only [go_sem]) | (refine e_past rfl rfl rfl ?_; simp only [go_sem])
        | refine g_nil ?_ | refine e_nil ?_ | refine e_blk ?_ | refine e_skip ?_ | refine e_ret ?_ | refine e_condT rfl ?_ | refine e_condF rfl ?_ | refine e_exit rfl ?_ | refine e_lp ?_
        | (refine g_guard rfl rfl rfl (fun h => ?_) (fun h => ?_) <;> (try simp only [h, go_sem]) <;> (try simp only [Bool.not_true, Bool.not_false, Bool.not_eq_true', Bool.not_eq_false', decide_eq_true_eq, decide_eq_false_iff_not, Bool.and_eq_true, Bool.or_eq_true, Int.not_lt, Int.not_le, Nat.not_lt, Nat.not_le] at h))
        | (refine e_guard rfl rfl rfl (fun h => ?_) (fun h => ?_) <;> (try simp only [h, go_sem]) <;> (try simp only [Bool.not_true, Bool.not_false, Bool.not_eq_true', Bool.not_eq_false', decide_eq_true_eq, decide_eq_false_iff_not, Bool.and_eq_true, Bool.or_eq_true, Int.not_lt, Int.not_le, Nat.not_lt, Nat.not_le] at h))
        | (refine e_cond rfl (fun h => ?_) (fun h => ?_) <;> (try simp only [h, go_sem]) <;> (try simp only [Bool.not_true, Bool.not_false, Bool.not_eq_true', Bool.not_eq_false', decide_eq_true_eq, decide_eq_false_iff_not, Bool.and_eq_true, Bool.or_eq_true, Int.not_lt, Int.not_le, Nat.not_lt, Nat.not_le] at h))
        | omega | decide)
      all_goals (try (simp [size_S, nums1, mk_S]; omega))
      · refine ⟨(n.tdiv 10, UInt8.ofNat (48 + n.natAbs % 10) :: l), ⟨?_, ?_, ?_, ?_⟩, ?_, gh_fits ?_⟩
        · simp only
          rw [h1, dig0_step (u := n.natAbs) (by omega), show (n.tdiv 10).natAbs = n.natAbs / 10 by omega]; simp
        · simp only; omega
        · simp only; omega
        · simp only; omega
        · simp only; omega
        · constructor <;> simp [go_sem]
          refine ⟨by rw [IntKind.wrap_i64]; omega, ?_⟩
          rw [nums1, S_append, S_inj, List.cons_append, List.nil_append, show (48 + IntKind.i64.wrap (-n.tmod 10)).toNat = 48 + n.natAbs % 10 by rw [IntKind.wrap_i64]; omega]; simp
      · rw [IntKind.wrap_i64]; omega
      · refine ⟨(n.tdiv 10, UInt8.ofNat (48 + n.natAbs % 10) :: l), ⟨?_, ?_, ?_, ?_⟩, ?_, gh_fits ?_⟩
        · simp only
          rw [h1, dig0_step (u := n.natAbs) (by omega), show (n.tdiv 10).natAbs = n.natAbs / 10 by omega]; simp
        · simp only; omega
        · simp only; omega
        · simp only; omega
        · simp only; omega
        · constructor <;> simp [go_sem]
          refine ⟨by rw [IntKind.wrap_i64]; omega, ?_⟩
          rw [nums1, S_append, S_inj, List.cons_append, List.nil_append, show (48 + n.tmod 10).toNat = 48 + n.natAbs % 10 by omega]; simp
      · have e : n = 0 := by assumption
        rw [e] at h1
        simp [go_sem]
        rw [fmtI, mk_S, S_append, S_inj, itoa, if_pos h]
        simp only [Int.natAbs_zero, dig0, if_true, List.nil_append] at h1
        rw [← h1, if_neg (by omega)]; rfl
      · have e : n = 0 := by assumption
        rw [e] at h1
        simp [go_sem]
        rw [fmtI, S_inj, itoa, if_neg (by omega)]
        simp only [Int.natAbs_zero, dig0, if_true, List.nil_append] at h1
        rw [← h1, if_neg (by omega), show n0.toNat = n0.natAbs by omega]
end Go.Proofs.A
