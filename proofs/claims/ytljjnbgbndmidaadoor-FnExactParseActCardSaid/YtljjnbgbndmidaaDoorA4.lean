import Derived.Test.YtljjnbgbndmidaaDoorA3
import Derived.Test.YtljjnbgbndmidaaDoorM1
open Go Go.Eng Go.Proofs Go.Pl Go.Lib Go.RowKit
namespace Go.Proofs.A
set_option linter.unusedSimpArgs false
set_option linter.unusedVariables false
set_option maxRecDepth 100000
set_option maxHeartbeats 1000000 in
theorem iParseUint_ct (s : ByteArray) : CallsTo Tryd.prog 18 [.v (.string s)] (.tup [.v (.int .i64 (pUint (lb s)).1), .v (.bool (pUint (lb s)).2)]) := by
  have hsz := size_L s
  refine calls_of_code L_ok Tryd.func18 rfl rfl (ts := [.tmp 2, .tmp 3]) rfl (n := 47) rfl (e_start ?_)
  simp only [List.replicate, List.length_cons, List.length_nil, List.cons_append, List.nil_append]
  repeat' (first
    | refine e_seq ?_ | refine e_block ?_ | refine e_region ?_
    | (refine g_op rfl (fun K hK => ?_); simp only [go_sem]; (first | refine hK _ ?_ | refine ⟨?_, hK _ ?_⟩ | refine ⟨?_, ?_, hK _ ?_⟩ | refine ⟨?_, ?_, ?_, hK _ ?_⟩ | refine idxI_map ?_ (hK _ ?_) | refine idxI_map' ?_ ?_ (hK _ ?_)) <;> clear hK K)
    | (refine e_op rfl (fun K hK => ?_); simp only [go_sem]; (first | refine hK _ ?_ | refine ⟨?_, hK _ ?_⟩ | refine ⟨?_, ?_, hK _ ?_⟩ | refine ⟨?_, ?_, ?_, hK _ ?_⟩ | refine idxI_map ?_ (hK _ ?_) | refine idxI_map' ?_ ?_ (hK _ ?_)) <;> clear hK K)
    | refine e_drawT mixed (by decide +kernel) rfl rfl rfl ?_
    | refine g_on rfl rfl rfl ?_ | (refine g_off rfl rfl rfl ?_; simp only [go_sem]) | (refine g_past rfl rfl rfl ?_; simp only [go_sem]) | refine e_on rfl rfl rfl ?_ | (refine e_off rfl rfl rfl ?_; simp only [go_sem]) | (refine e_past rfl rfl rfl ?_; simp only [go_sem])
    | refine g_nil ?_ | refine e_nil ?_ | refine e_blk ?_ | refine e_skip ?_ | refine e_ret ?_ | refine e_condT rfl ?_ | refine e_condF rfl ?_ | refine e_exit rfl ?_ | refine e_lp ?_
    | (refine g_guard rfl rfl rfl (fun h => ?_) (fun h => ?_) <;> (try simp only [h, go_sem]) <;> (try simp only [Bool.not_true, Bool.not_false, Bool.not_eq_true', Bool.not_eq_false', decide_eq_true_eq, decide_eq_false_iff_not, Bool.and_eq_true, Bool.or_eq_true, Int.not_lt, Int.not_le, Nat.not_lt, Nat.not_le] at h))
    | (refine e_guard rfl rfl rfl (fun h => ?_) (fun h => ?_) <;> (try simp only [h, go_sem]) <;> (try simp only [Bool.not_true, Bool.not_false, Bool.not_eq_true', Bool.not_eq_false', decide_eq_true_eq, decide_eq_false_iff_not, Bool.and_eq_true, Bool.or_eq_true, Int.not_lt, Int.not_le, Nat.not_lt, Nat.not_le] at h))
    | (refine e_cond rfl (fun h => ?_) (fun h => ?_) <;> (try simp only [h, go_sem]) <;> (try simp only [Bool.not_true, Bool.not_false, Bool.not_eq_true', Bool.not_eq_false', decide_eq_true_eq, decide_eq_false_iff_not, Bool.and_eq_true, Bool.or_eq_true, Int.not_lt, Int.not_le, Nat.not_lt, Nat.not_le] at h))
    | omega | decide)
  · simp [go_sem, pUint_long (show 10 < (lb s).length by omega)]
  · refine e_loop (fun i : Nat => i ≤ s.size ∧ digs ((lb s).take i)) (fun i => ⟨fr 47 [(0, .v (.string s)), (4, .v (.int .i64 (val ((lb s).take i)))), (5, .v (.int .i64 i))], []⟩) (fun i => s.size - i) 0 (by simp [digs]) ?_ ?_
    · refine gh_fits ?_
      constructor <;> simp [go_sem, val]
    · rintro k ⟨hk, hd⟩
      simp only [go_sem]
      have hv := val_lt hd
      have hlt : val ((lb s).take k) < 10000000000 := Nat.lt_of_lt_of_le hv (Nat.pow_le_pow_right (n := 10) (j := 10) (by omega) (by rw [List.length_take]; omega))
      repeat' (first
        | refine e_seq ?_ | refine e_block ?_ | refine e_region ?_
        | (refine g_op rfl (fun K hK => ?_); simp only [go_sem]; (first | refine hK _ ?_ | refine ⟨?_, hK _ ?_⟩ | refine ⟨?_, ?_, hK _ ?_⟩ | refine ⟨?_, ?_, ?_, hK _ ?_⟩ | refine idxI_map ?_ (hK _ ?_) | refine idxI_map' ?_ ?_ (hK _ ?_)) <;> clear hK K)
        | (refine e_op rfl (fun K hK => ?_); simp only [go_sem]; (first | refine hK _ ?_ | refine ⟨?_, hK _ ?_⟩ | refine ⟨?_, ?_, hK _ ?_⟩ | refine ⟨?_, ?_, ?_, hK _ ?_⟩ | refine idxI_map ?_ (hK _ ?_) | refine idxI_map' ?_ ?_ (hK _ ?_)) <;> clear hK K)
        | (refine g_op rfl (fun K hK => ?_); simp only [go_sem]; (first | refine callK_of (iFormatInt_ct _ ?_) ?_); rotate_right; (try simp only [go_sem]); refine hK _ ?_; all_goals (try clear hK K))
        | (refine e_op rfl (fun K hK => ?_); simp only [go_sem]; (first | refine callK_of (iFormatInt_ct _ ?_) ?_); rotate_right; (try simp only [go_sem]); refine hK _ ?_; all_goals (try clear hK K))
        | refine e_drawT mixed (by decide +kernel) rfl rfl rfl ?_
        | refine g_on rfl rfl rfl ?_ | (refine g_off rfl rfl rfl ?_; simp only [go_sem]) | (refine g_past rfl rfl rfl ?_; simp only [go_sem]) | refine e_on rfl rfl rfl ?_ | (refine e_off rfl rfl rfl ?_; simp only [go_sem]) | (refine e_past rfl rfl rfl ?_; simp only [go_sem])
        | refine g_nil ?_ | refine e_nil ?_ | refine e_blk ?_ | refine e_skip ?_ | refine e_ret ?_ | refine e_condT rfl ?_ | refine e_condF rfl ?_ | refine e_exit rfl ?_ | refine e_lp ?_
        | (refine g_guard rfl rfl rfl (fun h => ?_) (fun h => ?_) <;> (try simp only [h, go_sem]) <;> (try simp only [Bool.not_true, Bool.not_false, Bool.not_eq_true', Bool.not_eq_false', decide_eq_true_eq, decide_eq_false_iff_not, Bool.and_eq_true, Bool.or_eq_true, Int.not_lt, Int.not_le, Nat.not_lt, Nat.not_le] at h))
        | (refine e_guard rfl rfl rfl (fun h => ?_) (fun h => ?_) <;> (try simp only [h, go_sem]) <;> (try simp only [Bool.not_true, Bool.not_false, Bool.not_eq_true', Bool.not_eq_false', decide_eq_true_eq, decide_eq_false_iff_not, Bool.and_eq_true, Bool.or_eq_true, Int.not_lt, Int.not_le, Nat.not_lt, Nat.not_le] at h))
        | (refine e_cond rfl (fun h => ?_) (fun h => ?_) <;> (try simp only [h, go_sem]) <;> (try simp only [Bool.not_true, Bool.not_false, Bool.not_eq_true', Bool.not_eq_false', decide_eq_true_eq, decide_eq_false_iff_not, Bool.and_eq_true, Bool.or_eq_true, Int.not_lt, Int.not_le, Nat.not_lt, Nat.not_le] at h))
        | omega | decide)
      · simp only [Int.toNat_natCast, get_L] at *
        simp [go_sem, pUint_bad (l := lb s) (k := k) (by omega) (by omega)]
      · rename_i h1 h2
        simp only [Int.toNat_natCast, get_L] at h h2
        have hkl : k < (lb s).length := by omega
        refine ⟨k + 1, ⟨by omega, ?_⟩, by simp only []; omega, gh_fits ?_⟩
        · rw [take_snoc _ _ hkl, digs_snoc]; exact ⟨hd, by omega, by omega⟩
        · have e1 : val ((lb s).take (k + 1)) = 10 * val ((lb s).take k) + ((lb s)[k].toNat - 48) := by rw [take_snoc _ _ hkl, val_snoc]
          have e2 := dstep (val ((lb s).take k)) (lb s)[k] hlt (by omega) h
          have e3 := isucc k (by omega)
          constructor <;> simp only [go_sem, Int.toNat_natCast, get_L, e1, e2, e3]
      · simp only [Int.toNat_natCast, get_L] at *
        simp [go_sem, pUint_bad (l := lb s) (k := k) (by omega) (by omega)]
      all_goals
        have hks : k = s.size := by omega
        have htk : (lb s).take k = lb s := List.take_of_length_le (by omega)
        rw [htk] at h hd
      · simp [go_sem, pUint_not (l := lb s) (.inr (fun e => h (fmtI_eq.2 e)))]
      · rename_i h1 h2
        rw [htk] at h2
        simp [go_sem, htk, pUint_ok (l := lb s) (by omega) hd (by omega) (fmtI_eq.1 h)]
      · simp [go_sem, pUint_not (l := lb s) (.inl (by omega))]
  · simp [go_sem, pUint_nil, show lb s = [] from List.eq_nil_of_length_eq_zero (by omega)]
set_option maxHeartbeats 1000000 in
theorem sParseUint_ct (s : ByteArray) : CallsTo Tryd.prog 34 [.v (.string s)] (.tup [.v (.int .i64 (pUint (lb s)).1), .v (.bool (pUint (lb s)).2)]) := by
  have hsz := size_L s
  refine calls_of_code L_ok Tryd.func34 rfl rfl (ts := [.tmp 2, .tmp 3]) rfl (n := 42) rfl (e_start ?_)
  simp only [List.replicate, List.length_cons, List.length_nil, List.cons_append, List.nil_append]
  repeat' (first
    | refine e_seq ?_ | refine e_block ?_ | refine e_region ?_
    | (refine g_op rfl (fun K hK => ?_); simp only [go_sem]; (first | refine hK _ ?_ | refine ⟨?_, hK _ ?_⟩ | refine ⟨?_, ?_, hK _ ?_⟩ | refine ⟨?_, ?_, ?_, hK _ ?_⟩ | refine idxI_map ?_ (hK _ ?_) | refine idxI_map' ?_ ?_ (hK _ ?_)) <;> clear hK K)
    | (refine e_op rfl (fun K hK => ?_); simp only [go_sem]; (first | refine hK _ ?_ | refine ⟨?_, hK _ ?_⟩ | refine ⟨?_, ?_, hK _ ?_⟩ | refine ⟨?_, ?_, ?_, hK _ ?_⟩ | refine idxI_map ?_ (hK _ ?_) | refine idxI_map' ?_ ?_ (hK _ ?_)) <;> clear hK K)
    | refine e_drawT mixed (by decide +kernel) rfl rfl rfl ?_
    | refine g_on rfl rfl rfl ?_ | (refine g_off rfl rfl rfl ?_; simp only [go_sem]) | (refine g_past rfl rfl rfl ?_; simp only [go_sem]) | refine e_on rfl rfl rfl ?_ | (refine e_off rfl rfl rfl ?_; simp only [go_sem]) | (refine e_past rfl rfl rfl ?_; simp only [go_sem])
    | refine g_nil ?_ | refine e_nil ?_ | refine e_blk ?_ | refine e_skip ?_ | refine e_ret ?_ | refine e_condT rfl ?_ | refine e_condF rfl ?_ | refine e_exit rfl ?_ | refine e_lp ?_
    | (refine g_guard rfl rfl rfl (fun h => ?_) (fun h => ?_) <;> (try simp only [h, go_sem]) <;> (try simp only [Bool.not_true, Bool.not_false, Bool.not_eq_true', Bool.not_eq_false', decide_eq_true_eq, decide_eq_false_iff_not, Bool.and_eq_true, Bool.or_eq_true, Int.not_lt, Int.not_le, Nat.not_lt, Nat.not_le] at h))
    | (refine e_guard rfl rfl rfl (fun h => ?_) (fun h => ?_) <;> (try simp only [h, go_sem]) <;> (try simp only [Bool.not_true, Bool.not_false, Bool.not_eq_true', Bool.not_eq_false', decide_eq_true_eq, decide_eq_false_iff_not, Bool.and_eq_true, Bool.or_eq_true, Int.not_lt, Int.not_le, Nat.not_lt, Nat.not_le] at h))
    | (refine e_cond rfl (fun h => ?_) (fun h => ?_) <;> (try simp only [h, go_sem]) <;> (try simp only [Bool.not_true, Bool.not_false, Bool.not_eq_true', Bool.not_eq_false', decide_eq_true_eq, decide_eq_false_iff_not, Bool.and_eq_true, Bool.or_eq_true, Int.not_lt, Int.not_le, Nat.not_lt, Nat.not_le] at h))
    | omega | decide)
  · simp [go_sem, pUint_long (show 10 < (lb s).length by omega)]
  · refine e_loop (fun i : Nat => i ≤ s.size ∧ digs ((lb s).take i)) (fun i => ⟨fr 42 [(0, .v (.string s)), (4, .v (.int .i64 (val ((lb s).take i)))), (5, .v (.int .i64 i))], []⟩) (fun i => s.size - i) 0 (by simp [digs]) ?_ ?_
    · refine gh_fits ?_
      constructor <;> simp [go_sem, val]
    · rintro k ⟨hk, hd⟩
      simp only [go_sem]
      have hv := val_lt hd
      have hlt : val ((lb s).take k) < 10000000000 := Nat.lt_of_lt_of_le hv (Nat.pow_le_pow_right (n := 10) (j := 10) (by omega) (by rw [List.length_take]; omega))
      repeat' (first
        | refine e_seq ?_ | refine e_block ?_ | refine e_region ?_
        | (refine g_op rfl (fun K hK => ?_); simp only [go_sem]; (first | refine hK _ ?_ | refine ⟨?_, hK _ ?_⟩ | refine ⟨?_, ?_, hK _ ?_⟩ | refine ⟨?_, ?_, ?_, hK _ ?_⟩ | refine idxI_map ?_ (hK _ ?_) | refine idxI_map' ?_ ?_ (hK _ ?_)) <;> clear hK K)
        | (refine e_op rfl (fun K hK => ?_); simp only [go_sem]; (first | refine hK _ ?_ | refine ⟨?_, hK _ ?_⟩ | refine ⟨?_, ?_, hK _ ?_⟩ | refine ⟨?_, ?_, ?_, hK _ ?_⟩ | refine idxI_map ?_ (hK _ ?_) | refine idxI_map' ?_ ?_ (hK _ ?_)) <;> clear hK K)
        | (refine g_op rfl (fun K hK => ?_); simp only [go_sem]; (first | refine callK_of (sFormatInt_ct _ ?_) ?_); rotate_right; (try simp only [go_sem]); refine hK _ ?_; all_goals (try clear hK K))
        | (refine e_op rfl (fun K hK => ?_); simp only [go_sem]; (first | refine callK_of (sFormatInt_ct _ ?_) ?_); rotate_right; (try simp only [go_sem]); refine hK _ ?_; all_goals (try clear hK K))
        | refine e_drawT mixed (by decide +kernel) rfl rfl rfl ?_
        | refine g_on rfl rfl rfl ?_ | (refine g_off rfl rfl rfl ?_; simp only [go_sem]) | (refine g_past rfl rfl rfl ?_; simp only [go_sem]) | refine e_on rfl rfl rfl ?_ | (refine e_off rfl rfl rfl ?_; simp only [go_sem]) | (refine e_past rfl rfl rfl ?_; simp only [go_sem])
        | refine g_nil ?_ | refine e_nil ?_ | refine e_blk ?_ | refine e_skip ?_ | refine e_ret ?_ | refine e_condT rfl ?_ | refine e_condF rfl ?_ | refine e_exit rfl ?_ | refine e_lp ?_
        | (refine g_guard rfl rfl rfl (fun h => ?_) (fun h => ?_) <;> (try simp only [h, go_sem]) <;> (try simp only [Bool.not_true, Bool.not_false, Bool.not_eq_true', Bool.not_eq_false', decide_eq_true_eq, decide_eq_false_iff_not, Bool.and_eq_true, Bool.or_eq_true, Int.not_lt, Int.not_le, Nat.not_lt, Nat.not_le] at h))
        | (refine e_guard rfl rfl rfl (fun h => ?_) (fun h => ?_) <;> (try simp only [h, go_sem]) <;> (try simp only [Bool.not_true, Bool.not_false, Bool.not_eq_true', Bool.not_eq_false', decide_eq_true_eq, decide_eq_false_iff_not, Bool.and_eq_true, Bool.or_eq_true, Int.not_lt, Int.not_le, Nat.not_lt, Nat.not_le] at h))
        | (refine e_cond rfl (fun h => ?_) (fun h => ?_) <;> (try simp only [h, go_sem]) <;> (try simp only [Bool.not_true, Bool.not_false, Bool.not_eq_true', Bool.not_eq_false', decide_eq_true_eq, decide_eq_false_iff_not, Bool.and_eq_true, Bool.or_eq_true, Int.not_lt, Int.not_le, Nat.not_lt, Nat.not_le] at h))
        | omega | decide)
      · simp only [Int.toNat_natCast, get_L] at *
        simp [go_sem, pUint_bad (l := lb s) (k := k) (by omega) (by omega)]
      · rename_i h1 h2
        simp only [Int.toNat_natCast, get_L] at h h2
        have hkl : k < (lb s).length := by omega
        refine ⟨k + 1, ⟨by omega, ?_⟩, by simp only []; omega, gh_fits ?_⟩
        · rw [take_snoc _ _ hkl, digs_snoc]; exact ⟨hd, by omega, by omega⟩
        · have e1 : val ((lb s).take (k + 1)) = 10 * val ((lb s).take k) + ((lb s)[k].toNat - 48) := by rw [take_snoc _ _ hkl, val_snoc]
          have e2 := dstep' (val ((lb s).take k)) (lb s)[k] hlt (by omega) h
          have e3 := isucc k (by omega)
          constructor <;> simp only [go_sem, Int.toNat_natCast, get_L, e1, e2, e3]
      · simp only [Int.toNat_natCast, get_L] at *
        simp [go_sem, pUint_bad (l := lb s) (k := k) (by omega) (by omega)]
      all_goals
        have hks : k = s.size := by omega
        have htk : (lb s).take k = lb s := List.take_of_length_le (by omega)
        rw [htk] at h hd
      · simp [go_sem, pUint_not (l := lb s) (.inr (fun e => h (fmtI_eq.2 e)))]
      · rename_i h1 h2
        rw [htk] at h2
        simp [go_sem, htk, pUint_ok (l := lb s) (by omega) hd (by omega) (fmtI_eq.1 h)]
      · simp [go_sem, pUint_not (l := lb s) (.inl (by omega))]
end Go.Proofs.A
