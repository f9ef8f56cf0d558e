import Derived.Test.YtljjnbgbndmidaaDoorA0
open Go Go.Eng Go.Proofs
namespace Go.Proofs.A
set_option linter.unusedSimpArgs false
set_option linter.unusedVariables false
set_option maxRecDepth 100000
def within (n a b : Int) : Bool := decide (a ≤ n) && decide (n ≤ b)
theorem l01In_ct (n a b : Int) : CallsTo Tryd.prog 14 [.v (.int .i64 n), .v (.int .i64 a), .v (.int .i64 b)] (.v (.bool (within n a b))) := by
  refine calls_of_code L_ok Tryd.func14 rfl rfl (ts := [.tmp 6]) rfl (n := 15) rfl (e_start ?_)
  simp only [List.replicate, List.length_cons, List.length_nil, List.cons_append, List.nil_append]
  repeat' (first
    | refine e_seq ?_ | refine e_block ?_ | refine e_region ?_
    | (refine g_op rfl (fun K hK => ?_); simp only [go_sem]; (first | refine hK _ ?_ | refine ⟨?_, hK _ ?_⟩ | refine ⟨?_, ?_, hK _ ?_⟩ | refine ⟨?_, ?_, ?_, hK _ ?_⟩ | refine idxI_map ?_ (hK _ ?_) | refine idxI_map' ?_ ?_ (hK _ ?_)) <;> clear hK K)
    | (refine e_op rfl (fun K hK => ?_); simp only [go_sem]; (first | refine hK _ ?_ | refine ⟨?_, hK _ ?_⟩ | refine ⟨?_, ?_, hK _ ?_⟩ | refine ⟨?_, ?_, ?_, hK _ ?_⟩ | refine idxI_map ?_ (hK _ ?_) | refine idxI_map' ?_ ?_ (hK _ ?_)) <;> clear hK K)
    | refine e_drawT mixed (by decide +kernel) rfl rfl rfl ?_
    | refine g_on rfl rfl rfl ?_ | (refine g_off rfl rfl rfl ?_; simp only [go_sem]) | (refine g_past rfl rfl rfl ?_; simp only [go_sem]) | refine e_on rfl rfl rfl ?_ | (refine e_off rfl rfl rfl ?_; simp only [go_sem]) | (refine e_past rfl rfl rfl ?_; simp only [go_sem])
    | refine g_nil ?_ | refine e_nil ?_ | refine e_blk ?_ | refine e_skip ?_ | refine e_ret ?_ | refine e_condT rfl ?_ | refine e_condF rfl ?_ | refine e_exit rfl ?_ | refine e_lp ?_
    | (refine g_guard rfl rfl rfl (fun h => ?_) (fun h => ?_) <;> (try simp only [h, go_sem]) <;> (try simp only [Bool.not_true, Bool.not_false, Bool.not_eq_true', Bool.not_eq_false', decide_eq_true_eq, decide_eq_false_iff_not, Bool.and_eq_true, Bool.or_eq_true, Int.not_lt, Int.not_le, Nat.not_lt, Nat.not_le] at h))
    | (refine e_guard rfl rfl rfl (fun h => ?_) (fun h => ?_) <;> (try simp only [h, go_sem]) <;> (try simp only [Bool.not_true, Bool.not_false, Bool.not_eq_true', Bool.not_eq_false', decide_eq_true_eq, decide_eq_false_iff_not, Bool.and_eq_true, Bool.or_eq_true, Int.not_lt, Int.not_le, Nat.not_lt, Nat.not_le] at h))
    | (refine e_cond rfl (fun h => ?_) (fun h => ?_) <;> (try simp only [h, go_sem]) <;> (try simp only [Bool.not_true, Bool.not_false, Bool.not_eq_true', Bool.not_eq_false', decide_eq_true_eq, decide_eq_false_iff_not, Bool.and_eq_true, Bool.or_eq_true, Int.not_lt, Int.not_le, Nat.not_lt, Nat.not_le] at h))
    | omega | decide)
  all_goals (simp [go_sem]; simp_all [within]; try omega)
theorem within_ct (n a b : Int) : CallsTo Tryd.prog 49 [.v (.int .i64 n), .v (.int .i64 a), .v (.int .i64 b)] (.v (.bool (within n a b))) := by
  refine calls_of_code L_ok Tryd.func49 rfl rfl (ts := [.tmp 6]) rfl (n := 15) rfl (e_start ?_)
  simp only [List.replicate, List.length_cons, List.length_nil, List.cons_append, List.nil_append]
  repeat' (first
    | refine e_seq ?_ | refine e_block ?_ | refine e_region ?_
    | (refine g_op rfl (fun K hK => ?_); simp only [go_sem]; (first | refine hK _ ?_ | refine ⟨?_, hK _ ?_⟩ | refine ⟨?_, ?_, hK _ ?_⟩ | refine ⟨?_, ?_, ?_, hK _ ?_⟩ | refine idxI_map ?_ (hK _ ?_) | refine idxI_map' ?_ ?_ (hK _ ?_)) <;> clear hK K)
    | (refine e_op rfl (fun K hK => ?_); simp only [go_sem]; (first | refine hK _ ?_ | refine ⟨?_, hK _ ?_⟩ | refine ⟨?_, ?_, hK _ ?_⟩ | refine ⟨?_, ?_, ?_, hK _ ?_⟩ | refine idxI_map ?_ (hK _ ?_) | refine idxI_map' ?_ ?_ (hK _ ?_)) <;> clear hK K)
    | refine e_drawT mixed (by decide +kernel) rfl rfl rfl ?_
    | refine g_on rfl rfl rfl ?_ | (refine g_off rfl rfl rfl ?_; simp only [go_sem]) | (refine g_past rfl rfl rfl ?_; simp only [go_sem]) | refine e_on rfl rfl rfl ?_ | (refine e_off rfl rfl rfl ?_; simp only [go_sem]) | (refine e_past rfl rfl rfl ?_; simp only [go_sem])
    | refine g_nil ?_ | refine e_nil ?_ | refine e_blk ?_ | refine e_skip ?_ | refine e_ret ?_ | refine e_condT rfl ?_ | refine e_condF rfl ?_ | refine e_exit rfl ?_ | refine e_lp ?_
    | (refine g_guard rfl rfl rfl (fun h => ?_) (fun h => ?_) <;> (try simp only [h, go_sem]) <;> (try simp only [Bool.not_true, Bool.not_false, Bool.not_eq_true', Bool.not_eq_false', decide_eq_true_eq, decide_eq_false_iff_not, Bool.and_eq_true, Bool.or_eq_true, Int.not_lt, Int.not_le, Nat.not_lt, Nat.not_le] at h))
    | (refine e_guard rfl rfl rfl (fun h => ?_) (fun h => ?_) <;> (try simp only [h, go_sem]) <;> (try simp only [Bool.not_true, Bool.not_false, Bool.not_eq_true', Bool.not_eq_false', decide_eq_true_eq, decide_eq_false_iff_not, Bool.and_eq_true, Bool.or_eq_true, Int.not_lt, Int.not_le, Nat.not_lt, Nat.not_le] at h))
    | (refine e_cond rfl (fun h => ?_) (fun h => ?_) <;> (try simp only [h, go_sem]) <;> (try simp only [Bool.not_true, Bool.not_false, Bool.not_eq_true', Bool.not_eq_false', decide_eq_true_eq, decide_eq_false_iff_not, Bool.and_eq_true, Bool.or_eq_true, Int.not_lt, Int.not_le, Nat.not_lt, Nat.not_le] at h))
    | omega | decide)
  all_goals (simp [go_sem]; simp_all [within]; try omega)
def actOk (k a b : Int) : Bool :=
  if k = 1 ∨ k = 6 then within a 0 40 && within b 0 40
  else if k = 7 then within a 0 40 && within b 1 50
  else if k = 2 ∨ k = 3 ∨ k = 5 ∨ k = 8 then within a 0 40 && decide (b = 0)
  else if k = 4 ∨ k = 9 then decide (a = 0) && decide (b = 0)
  else false
theorem sActOk_ct (k a b : Int) : CallsTo Tryd.prog 35 [.agg [.v (.int .i64 k), .v (.int .i64 a), .v (.int .i64 b)]] (.v (.bool (actOk k a b))) := by
  refine calls_of_code L_ok Tryd.func35 rfl rfl (ts := [.tmp 2]) rfl (n := 50) rfl (e_start ?_)
  simp only [List.replicate, List.length_cons, List.length_nil, List.cons_append, List.nil_append]
  repeat' (first
    | refine e_seq ?_ | refine e_block ?_ | refine e_region ?_
    | (refine g_op rfl (fun K hK => ?_); simp only [go_sem]; (first | refine hK _ ?_ | refine ⟨?_, hK _ ?_⟩ | refine ⟨?_, ?_, hK _ ?_⟩ | refine ⟨?_, ?_, ?_, hK _ ?_⟩ | refine idxI_map ?_ (hK _ ?_) | refine idxI_map' ?_ ?_ (hK _ ?_)) <;> clear hK K)
    | (refine e_op rfl (fun K hK => ?_); simp only [go_sem]; (first | refine hK _ ?_ | refine ⟨?_, hK _ ?_⟩ | refine ⟨?_, ?_, hK _ ?_⟩ | refine ⟨?_, ?_, ?_, hK _ ?_⟩ | refine idxI_map ?_ (hK _ ?_) | refine idxI_map' ?_ ?_ (hK _ ?_)) <;> clear hK K)
    | (refine g_op rfl (fun K hK => ?_); simp only [go_sem]; (first | refine callK_of (l01In_ct _ _ _) ?_); rotate_right; (try simp only [go_sem]); refine hK _ ?_; all_goals (try clear hK K))
    | (refine e_op rfl (fun K hK => ?_); simp only [go_sem]; (first | refine callK_of (l01In_ct _ _ _) ?_); rotate_right; (try simp only [go_sem]); refine hK _ ?_; all_goals (try clear hK K))
    | refine e_drawT mixed (by decide +kernel) rfl rfl rfl ?_
    | refine g_on rfl rfl rfl ?_ | (refine g_off rfl rfl rfl ?_; simp only [go_sem]) | (refine g_past rfl rfl rfl ?_; simp only [go_sem]) | refine e_on rfl rfl rfl ?_ | (refine e_off rfl rfl rfl ?_; simp only [go_sem]) | (refine e_past rfl rfl rfl ?_; simp only [go_sem])
    | refine g_nil ?_ | refine e_nil ?_ | refine e_blk ?_ | refine e_skip ?_ | refine e_ret ?_ | refine e_condT rfl ?_ | refine e_condF rfl ?_ | refine e_exit rfl ?_ | refine e_lp ?_
    | (refine g_guard rfl rfl rfl (fun h => ?_) (fun h => ?_) <;> (try simp only [h, go_sem]) <;> (try simp only [Bool.not_true, Bool.not_false, Bool.not_eq_true', Bool.not_eq_false', decide_eq_true_eq, decide_eq_false_iff_not, Bool.and_eq_true, Bool.or_eq_true, Int.not_lt, Int.not_le, Nat.not_lt, Nat.not_le] at h))
    | (refine e_guard rfl rfl rfl (fun h => ?_) (fun h => ?_) <;> (try simp only [h, go_sem]) <;> (try simp only [Bool.not_true, Bool.not_false, Bool.not_eq_true', Bool.not_eq_false', decide_eq_true_eq, decide_eq_false_iff_not, Bool.and_eq_true, Bool.or_eq_true, Int.not_lt, Int.not_le, Nat.not_lt, Nat.not_le] at h))
    | (refine e_cond rfl (fun h => ?_) (fun h => ?_) <;> (try simp only [h, go_sem]) <;> (try simp only [Bool.not_true, Bool.not_false, Bool.not_eq_true', Bool.not_eq_false', decide_eq_true_eq, decide_eq_false_iff_not, Bool.and_eq_true, Bool.or_eq_true, Int.not_lt, Int.not_le, Nat.not_lt, Nat.not_le] at h))
    | omega | decide)
  all_goals (simp [go_sem]; simp_all [actOk])
theorem iActOk_ct (k a b : Int) : CallsTo Tryd.prog 38 [.agg [.v (.int .i64 k), .v (.int .i64 a), .v (.int .i64 b)]] (.v (.bool (actOk k a b))) := by
  refine calls_of_code L_ok Tryd.func38 rfl rfl (ts := [.tmp 2]) rfl (n := 50) rfl (e_start ?_)
  simp only [List.replicate, List.length_cons, List.length_nil, List.cons_append, List.nil_append]
  repeat' (first
    | refine e_seq ?_ | refine e_block ?_ | refine e_region ?_
    | (refine g_op rfl (fun K hK => ?_); simp only [go_sem]; (first | refine hK _ ?_ | refine ⟨?_, hK _ ?_⟩ | refine ⟨?_, ?_, hK _ ?_⟩ | refine ⟨?_, ?_, ?_, hK _ ?_⟩ | refine idxI_map ?_ (hK _ ?_) | refine idxI_map' ?_ ?_ (hK _ ?_)) <;> clear hK K)
    | (refine e_op rfl (fun K hK => ?_); simp only [go_sem]; (first | refine hK _ ?_ | refine ⟨?_, hK _ ?_⟩ | refine ⟨?_, ?_, hK _ ?_⟩ | refine ⟨?_, ?_, ?_, hK _ ?_⟩ | refine idxI_map ?_ (hK _ ?_) | refine idxI_map' ?_ ?_ (hK _ ?_)) <;> clear hK K)
    | (refine g_op rfl (fun K hK => ?_); simp only [go_sem]; (first | refine callK_of (within_ct _ _ _) ?_); rotate_right; (try simp only [go_sem]); refine hK _ ?_; all_goals (try clear hK K))
    | (refine e_op rfl (fun K hK => ?_); simp only [go_sem]; (first | refine callK_of (within_ct _ _ _) ?_); rotate_right; (try simp only [go_sem]); refine hK _ ?_; all_goals (try clear hK K))
    | refine e_drawT mixed (by decide +kernel) rfl rfl rfl ?_
    | refine g_on rfl rfl rfl ?_ | (refine g_off rfl rfl rfl ?_; simp only [go_sem]) | (refine g_past rfl rfl rfl ?_; simp only [go_sem]) | refine e_on rfl rfl rfl ?_ | (refine e_off rfl rfl rfl ?_; simp only [go_sem]) | (refine e_past rfl rfl rfl ?_; simp only [go_sem])
    | refine g_nil ?_ | refine e_nil ?_ | refine e_blk ?_ | refine e_skip ?_ | refine e_ret ?_ | refine e_condT rfl ?_ | refine e_condF rfl ?_ | refine e_exit rfl ?_ | refine e_lp ?_
    | (refine g_guard rfl rfl rfl (fun h => ?_) (fun h => ?_) <;> (try simp only [h, go_sem]) <;> (try simp only [Bool.not_true, Bool.not_false, Bool.not_eq_true', Bool.not_eq_false', decide_eq_true_eq, decide_eq_false_iff_not, Bool.and_eq_true, Bool.or_eq_true, Int.not_lt, Int.not_le, Nat.not_lt, Nat.not_le] at h))
    | (refine e_guard rfl rfl rfl (fun h => ?_) (fun h => ?_) <;> (try simp only [h, go_sem]) <;> (try simp only [Bool.not_true, Bool.not_false, Bool.not_eq_true', Bool.not_eq_false', decide_eq_true_eq, decide_eq_false_iff_not, Bool.and_eq_true, Bool.or_eq_true, Int.not_lt, Int.not_le, Nat.not_lt, Nat.not_le] at h))
    | (refine e_cond rfl (fun h => ?_) (fun h => ?_) <;> (try simp only [h, go_sem]) <;> (try simp only [Bool.not_true, Bool.not_false, Bool.not_eq_true', Bool.not_eq_false', decide_eq_true_eq, decide_eq_false_iff_not, Bool.and_eq_true, Bool.or_eq_true, Int.not_lt, Int.not_le, Nat.not_lt, Nat.not_le] at h))
    | omega | decide)
  all_goals (simp [go_sem]; simp_all [actOk])
end Go.Proofs.A
