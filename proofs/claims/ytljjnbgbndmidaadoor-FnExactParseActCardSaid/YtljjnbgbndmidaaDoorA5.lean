import Derived.Test.YtljjnbgbndmidaaDoorA4
import Derived.Test.YtljjnbgbndmidaaDoorM2
open Go Go.Eng Go.Proofs Go.Pl Go.Lib Go.RowKit
namespace Go.Proofs.A
set_option linter.unusedSimpArgs false
set_option linter.unusedVariables false
set_option maxRecDepth 100000
@[go_sem] def eS (l : Bs) : AV := .v (.string (sb l))
@[go_sem] theorem eS_own (l : List Bs) : ownC.ownL (l.map eS) ↔ True := iff_true_intro (ownL_map (fun x => show ownC (eS x) by simp only [eS, ownC]) l)
@[go_sem] theorem eS_flat (l : List Bs) : AllFlat (l.map eS) ↔ True := iff_true_intro (AllFlat_map _ _ (fun _ => rfl))
set_option maxHeartbeats 2000000 in
theorem iSplitFields_ct (s : ByteArray) : CallsTo Tryd.prog 17 [.v (.string s)] (.tup [.sl 1 true none ((pFields (lb s)).1.map eS), .v (.bool (pFields (lb s)).2)]) := by
  have hsz := size_L s
  refine calls_of_code L_ok Tryd.func17 rfl rfl (ts := [.tmp 2, .tmp 3]) rfl (n := 67) rfl (e_start ?_)
  simp only [List.replicate, List.length_cons, List.length_nil, List.cons_append, List.nil_append]
  repeat' (first
    | refine e_seq ?_ | refine e_block ?_ | refine e_region ?_
    | (refine g_op rfl (fun K hK => ?_); simp only [go_sem]; (first | refine hK _ ?_ | refine ⟨?_, hK _ ?_⟩ | refine ⟨?_, ?_, hK _ ?_⟩ | refine ⟨?_, ?_, ?_, hK _ ?_⟩ | refine idxI_map ?_ (hK _ ?_) | refine idxI_map' ?_ ?_ (hK _ ?_)) <;> clear hK K)
    | (refine e_op rfl (fun K hK => ?_); simp only [go_sem]; (first | refine hK _ ?_ | refine ⟨?_, hK _ ?_⟩ | refine ⟨?_, ?_, hK _ ?_⟩ | refine ⟨?_, ?_, ?_, hK _ ?_⟩ | refine idxI_map ?_ (hK _ ?_) | refine idxI_map' ?_ ?_ (hK _ ?_)) <;> clear hK K)
    | refine e_drawT mixed (by decide +kernel) rfl rfl rfl ?_
    | refine g_on rfl rfl rfl ?_ | (refine g_off rfl rfl rfl ?_; simp only [go_sem]) | (refine g_past rfl rfl rfl ?_; simp only [go_sem]) | refine e_on rfl rfl rfl ?_ | (refine e_off rfl rfl rfl ?_; simp only [go_sem]) | (refine e_past rfl rfl rfl ?_; simp only [go_sem])
    | refine g_nil ?_ | refine e_nil ?_ | refine e_blk ?_ | refine e_skip ?_ | refine e_ret ?_ | refine e_condT rfl ?_ | refine e_condF rfl ?_ | refine e_exit rfl ?_ | refine e_lp ?_
    | (refine g_guard rfl rfl rfl (fun h => ?_) (fun h => ?_) <;> (try simp only [h, go_sem]) <;> (try simp only [Bool.not_true, Bool.not_false, Bool.not_eq_true', Bool.not_eq_false', decide_eq_true_eq, decide_eq_false_iff_not, Bool.and_eq_true, Bool.or_eq_true, Int.not_lt, Int.not_le, Nat.not_lt, Nat.not_le] at h))
    | (refine e_guard rfl rfl rfl (fun h => ?_) (fun h => ?_) <;> (try simp only [h, go_sem]) <;> (try simp only [Bool.not_true, Bool.not_false, Bool.not_eq_true', Bool.not_eq_false', decide_eq_true_eq, decide_eq_false_iff_not, Bool.and_eq_true, Bool.or_eq_true, Int.not_lt, Int.not_le, Nat.not_lt, Nat.not_le] at h))
    | (refine e_cond rfl (fun h => ?_) (fun h => ?_) <;> (try simp only [h, go_sem]) <;> (try simp only [Bool.not_true, Bool.not_false, Bool.not_eq_true', Bool.not_eq_false', decide_eq_true_eq, decide_eq_false_iff_not, Bool.and_eq_true, Bool.or_eq_true, Int.not_lt, Int.not_le, Nat.not_lt, Nat.not_le] at h))
    | omega | decide)
  · simp [go_sem, pFields_long (show 600 < (lb s).length by omega)]
  · refine e_loop (fun i : Nat => i ≤ s.size ∧ vis ((lb s).take i)) (fun i => ⟨fr 67 [(0, .v (.string s)), (4, .v (.int .i64 i))], []⟩) (fun i => s.size - i) 0 (by simp [vis]) ?_ ?_
    · refine gh_fits ?_
      constructor <;> simp [go_sem]
    · rintro k ⟨hk, hd⟩
      simp only [go_sem]
      repeat' (first
        | refine e_seq ?_ | refine e_block ?_ | refine e_region ?_
        | (refine g_op rfl (fun K hK => ?_); simp only [go_sem]; (first | refine hK _ ?_ | refine ⟨?_, hK _ ?_⟩ | refine ⟨?_, ?_, hK _ ?_⟩ | refine ⟨?_, ?_, ?_, hK _ ?_⟩ | refine idxI_map ?_ (hK _ ?_) | refine idxI_map' ?_ ?_ (hK _ ?_)) <;> clear hK K)
        | (refine e_op rfl (fun K hK => ?_); simp only [go_sem]; (first | refine hK _ ?_ | refine ⟨?_, hK _ ?_⟩ | refine ⟨?_, ?_, hK _ ?_⟩ | refine ⟨?_, ?_, ?_, hK _ ?_⟩ | refine idxI_map ?_ (hK _ ?_) | refine idxI_map' ?_ ?_ (hK _ ?_)) <;> clear hK K)
        | refine e_drawT mixed (by decide +kernel) rfl rfl rfl ?_
        | refine g_on rfl rfl rfl ?_ | (refine g_off rfl rfl rfl ?_; simp only [go_sem]) | (refine g_past rfl rfl rfl ?_; simp only [go_sem]) | refine e_on rfl rfl rfl ?_ | (refine e_off rfl rfl rfl ?_; simp only [go_sem]) | (refine e_past rfl rfl rfl ?_; simp only [go_sem])
        | refine g_nil ?_ | refine e_nil ?_ | refine e_blk ?_ | refine e_skip ?_ | refine e_ret ?_ | refine e_condT rfl ?_ | refine e_condF rfl ?_ | refine e_exit rfl ?_ | refine e_lp ?_
        | (refine g_guard rfl rfl rfl (fun h => ?_) (fun h => ?_) <;> (try simp only [h, go_sem]) <;> (try simp only [Bool.not_true, Bool.not_false, Bool.not_eq_true', Bool.not_eq_false', decide_eq_true_eq, decide_eq_false_iff_not, Bool.and_eq_true, Bool.or_eq_true, Int.not_lt, Int.not_le, Nat.not_lt, Nat.not_le] at h))
        | (refine e_guard rfl rfl rfl (fun h => ?_) (fun h => ?_) <;> (try simp only [h, go_sem]) <;> (try simp only [Bool.not_true, Bool.not_false, Bool.not_eq_true', Bool.not_eq_false', decide_eq_true_eq, decide_eq_false_iff_not, Bool.and_eq_true, Bool.or_eq_true, Int.not_lt, Int.not_le, Nat.not_lt, Nat.not_le] at h))
        | (refine e_cond rfl (fun h => ?_) (fun h => ?_) <;> (try simp only [h, go_sem]) <;> (try simp only [Bool.not_true, Bool.not_false, Bool.not_eq_true', Bool.not_eq_false', decide_eq_true_eq, decide_eq_false_iff_not, Bool.and_eq_true, Bool.or_eq_true, Int.not_lt, Int.not_le, Nat.not_lt, Nat.not_le] at h))
        | omega | decide)
      · simp only [Int.toNat_natCast, get_L] at *
        simp [go_sem, pFields_bad (l := lb s) (k := k) (by omega) (by omega)]
      · rename_i h1 h2
        simp only [Int.toNat_natCast, get_L] at h h2
        have hkl : k < (lb s).length := by omega
        refine ⟨k + 1, ⟨by omega, ?_⟩, by simp only []; omega, gh_fits ?_⟩
        · rw [take_snoc _ _ hkl, vis_snoc]; exact ⟨hd, by omega, by omega⟩
        · have e3 := isucc k (by omega)
          constructor <;> simp only [go_sem, Int.toNat_natCast, e3]
      · simp only [Int.toNat_natCast, get_L] at *
        simp [go_sem, pFields_bad (l := lb s) (k := k) (by omega) (by omega)]
      · have hks : k = s.size := by omega
        have htk : (lb s).take k = lb s := List.take_of_length_le (by omega)
        rw [htk] at hd
        refine e_loop (spF (lb s)) (fun x => ⟨fr 67 [(0, .v (.string s)), (5, .row 62), (6, .v (.int .i64 x.2.2)), (7, .v (.int .i64 x.1))], [(62, ⟨1, false, none, x.2.1.map eS⟩)]⟩) (fun x => s.size + 1 - x.1) (0, [], -1) (.inl ⟨by simp, by simp [frun], by simp [frun]⟩) ?_ ?_
        · refine gh_fits ?_
          constructor <;> simp [go_sem]
        · rintro ⟨i, acc, st0⟩ hp
          simp only [go_sem]
          have hil : i ≤ s.size → acc.length ≤ 600 := fun hi => spF_many hp (by omega) (by omega)
          have hst : i ≤ s.size → st0 ≤ i := fun hi => spF_st hp (by omega)
          have e3 : i ≤ s.size → IntKind.i64.wrap ((i : Int) + 1) = ((i + 1 : Nat) : Int) := fun hi => isucc i (by omega)
          repeat' (first
            | refine e_seq ?_ | refine e_block ?_ | refine e_region ?_
            | (refine g_op rfl (fun K hK => ?_); simp only [go_sem]; (first | refine hK _ ?_ | refine ⟨?_, hK _ ?_⟩ | refine ⟨?_, ?_, hK _ ?_⟩ | refine ⟨?_, ?_, ?_, hK _ ?_⟩ | refine idxI_map ?_ (hK _ ?_) | refine idxI_map' ?_ ?_ (hK _ ?_)) <;> clear hK K)
            | (refine e_op rfl (fun K hK => ?_); simp only [go_sem]; (first | refine hK _ ?_ | refine ⟨?_, hK _ ?_⟩ | refine ⟨?_, ?_, hK _ ?_⟩ | refine ⟨?_, ?_, ?_, hK _ ?_⟩ | refine idxI_map ?_ (hK _ ?_) | refine idxI_map' ?_ ?_ (hK _ ?_)) <;> clear hK K)
            | refine e_drawT mixed (by decide +kernel) rfl rfl rfl ?_
            | refine g_on rfl rfl rfl ?_ | (refine g_off rfl rfl rfl ?_; simp only [go_sem]) | (refine g_past rfl rfl rfl ?_; simp only [go_sem]) | refine e_on rfl rfl rfl ?_ | (refine e_off rfl rfl rfl ?_; simp only [go_sem]) | (refine e_past rfl rfl rfl ?_; simp only [go_sem])
            | refine g_nil ?_ | refine e_nil ?_ | refine e_blk ?_ | refine e_skip ?_ | refine e_ret ?_ | refine e_condT rfl ?_ | refine e_condF rfl ?_ | refine e_exit rfl ?_ | refine e_lp ?_
            | (refine g_guard rfl rfl rfl (fun h => ?_) (fun h => ?_) <;> (try simp only [h, go_sem]) <;> (try simp only [Bool.not_true, Bool.not_false, Bool.not_eq_true', Bool.not_eq_false', decide_eq_true_eq, decide_eq_false_iff_not, Bool.and_eq_true, Bool.or_eq_true, Int.not_lt, Int.not_le, Nat.not_lt, Nat.not_le] at h))
            | (refine e_guard rfl rfl rfl (fun h => ?_) (fun h => ?_) <;> (try simp only [h, go_sem]) <;> (try simp only [Bool.not_true, Bool.not_false, Bool.not_eq_true', Bool.not_eq_false', decide_eq_true_eq, decide_eq_false_iff_not, Bool.and_eq_true, Bool.or_eq_true, Int.not_lt, Int.not_le, Nat.not_lt, Nat.not_le] at h))
            | (refine e_cond rfl (fun h => ?_) (fun h => ?_) <;> (try simp only [h, go_sem]) <;> (try simp only [Bool.not_true, Bool.not_false, Bool.not_eq_true', Bool.not_eq_false', decide_eq_true_eq, decide_eq_false_iff_not, Bool.and_eq_true, Bool.or_eq_true, Int.not_lt, Int.not_le, Nat.not_lt, Nat.not_le] at h))
            | omega | decide)
          · simp only [Int.toNat_natCast, get_L] at *
            refine ⟨(i + 1, acc, i), (spF_step hp (by omega)).1 h (by omega), by simp only []; omega, gh_fits ?_⟩
            constructor <;> simp [go_sem, e3 (by omega)]
          · simp only [Int.toNat_natCast, get_L] at *
            refine ⟨(i + 1, acc, st0), (spF_step hp (by omega)).2.1 h (by omega), by simp only []; omega, gh_fits ?_⟩
            constructor <;> simp [go_sem, e3 (by omega)]
          · rename_i _ _ _ h1 h2
            simp only [Int.toNat_natCast, get_L] at *
            refine ⟨(i + 1, acc ++ [((lb s).drop st0.toNat).take (i - st0.toNat)], -1), (spF_step hp (by omega)).2.2.1 h1 h, by simp only []; omega, gh_fits ?_⟩
            constructor <;> simp [go_sem, e3 (by omega), extract_S]
          · rename_i _ _ _ h1 h2
            simp only [Int.toNat_natCast, get_L] at *
            refine ⟨(i + 1, acc, st0), (spF_step hp (by omega)).2.2.2 h1 h, by simp only []; omega, gh_fits ?_⟩
            constructor <;> simp [go_sem, e3 (by omega)]
          · have hi : i = (lb s).length := by omega
            rename_i h1 _
            clear h1
            subst hi
            simp only [Int.toNat_natCast] at *
            refine ⟨((lb s).length + 1, acc ++ [((lb s).drop st0.toNat).take ((lb s).length - st0.toNat)], -1), (spF_last hp).1 (by omega), by simp only []; omega, gh_fits ?_⟩
            constructor <;> simp [go_sem, e3 (by omega), extract_S]
          · have hi : i = (lb s).length := by omega
            rename_i h1 _
            clear h1
            subst hi
            refine ⟨((lb s).length + 1, acc, st0), (spF_last hp).2 (by omega), by simp only []; omega, gh_fits ?_⟩
            constructor <;> simp [go_sem, e3 (by omega)]
          · have ha := spF_end hp (by omega)
            subst ha
            simp [go_sem, pFields_many (l := lb s) (by omega)]
          · have ha := spF_end hp (by omega)
            subst ha
            simp [go_sem, pFields_ok (l := lb s) (by omega) hd (by omega)]
set_option maxHeartbeats 2000000 in
theorem sSplitFields_ct (s : ByteArray) : CallsTo Tryd.prog 13 [.v (.string s)] (.tup [.sl 1 true none ((pFields (lb s)).1.map eS), .v (.bool (pFields (lb s)).2)]) := by
  have hsz := size_L s
  refine calls_of_code L_ok Tryd.func13 rfl rfl (ts := [.tmp 2, .tmp 3]) rfl (n := 62) rfl (e_start ?_)
  simp only [List.replicate, List.length_cons, List.length_nil, List.cons_append, List.nil_append]
  repeat' (first
    | refine e_seq ?_ | refine e_block ?_ | refine e_region ?_
    | (refine g_op rfl (fun K hK => ?_); simp only [go_sem]; (first | refine hK _ ?_ | refine ⟨?_, hK _ ?_⟩ | refine ⟨?_, ?_, hK _ ?_⟩ | refine ⟨?_, ?_, ?_, hK _ ?_⟩ | refine idxI_map ?_ (hK _ ?_) | refine idxI_map' ?_ ?_ (hK _ ?_)) <;> clear hK K)
    | (refine e_op rfl (fun K hK => ?_); simp only [go_sem]; (first | refine hK _ ?_ | refine ⟨?_, hK _ ?_⟩ | refine ⟨?_, ?_, hK _ ?_⟩ | refine ⟨?_, ?_, ?_, hK _ ?_⟩ | refine idxI_map ?_ (hK _ ?_) | refine idxI_map' ?_ ?_ (hK _ ?_)) <;> clear hK K)
    | refine e_drawT mixed (by decide +kernel) rfl rfl rfl ?_
    | refine g_on rfl rfl rfl ?_ | (refine g_off rfl rfl rfl ?_; simp only [go_sem]) | (refine g_past rfl rfl rfl ?_; simp only [go_sem]) | refine e_on rfl rfl rfl ?_ | (refine e_off rfl rfl rfl ?_; simp only [go_sem]) | (refine e_past rfl rfl rfl ?_; simp only [go_sem])
    | refine g_nil ?_ | refine e_nil ?_ | refine e_blk ?_ | refine e_skip ?_ | refine e_ret ?_ | refine e_condT rfl ?_ | refine e_condF rfl ?_ | refine e_exit rfl ?_ | refine e_lp ?_
    | (refine g_guard rfl rfl rfl (fun h => ?_) (fun h => ?_) <;> (try simp only [h, go_sem]) <;> (try simp only [Bool.not_true, Bool.not_false, Bool.not_eq_true', Bool.not_eq_false', decide_eq_true_eq, decide_eq_false_iff_not, Bool.and_eq_true, Bool.or_eq_true, Int.not_lt, Int.not_le, Nat.not_lt, Nat.not_le] at h))
    | (refine e_guard rfl rfl rfl (fun h => ?_) (fun h => ?_) <;> (try simp only [h, go_sem]) <;> (try simp only [Bool.not_true, Bool.not_false, Bool.not_eq_true', Bool.not_eq_false', decide_eq_true_eq, decide_eq_false_iff_not, Bool.and_eq_true, Bool.or_eq_true, Int.not_lt, Int.not_le, Nat.not_lt, Nat.not_le] at h))
    | (refine e_cond rfl (fun h => ?_) (fun h => ?_) <;> (try simp only [h, go_sem]) <;> (try simp only [Bool.not_true, Bool.not_false, Bool.not_eq_true', Bool.not_eq_false', decide_eq_true_eq, decide_eq_false_iff_not, Bool.and_eq_true, Bool.or_eq_true, Int.not_lt, Int.not_le, Nat.not_lt, Nat.not_le] at h))
    | omega | decide)
  · simp [go_sem, pFields_long (show 600 < (lb s).length by omega)]
  · refine e_loop (spG (lb s)) (fun x => ⟨fr 62 [(0, .v (.string s)), (4, .row 54), (5, .v (.int .i64 x.2.2)), (6, .v (.int .i64 x.1))], [(54, ⟨1, false, none, x.2.1.map eS⟩)]⟩) (fun x => s.size + 1 - x.1) (0, [], 0) (.inl ⟨by simp, by simp [vis], by simp [frun], by simp [frun]⟩) ?_ ?_
    · refine Gh.ren 7 54 _ rfl rfl rfl (gh_fits ?_)
      constructor <;> simp [go_sem]
    · rintro ⟨i, acc, b⟩ hp
      simp only [go_sem]
      have hil : i ≤ s.size → acc.length ≤ 600 := fun hi => spG_many hp (by omega) (by omega)
      have hst : i ≤ s.size → 0 ≤ b ∧ b ≤ i := fun hi => spG_b hp (by omega)
      have e3 : i ≤ s.size → IntKind.i64.wrap ((i : Int) + 1) = ((i + 1 : Nat) : Int) := fun hi => isucc i (by omega)
      repeat' (first
        | refine e_seq ?_ | refine e_block ?_ | refine e_region ?_
        | (refine g_op rfl (fun K hK => ?_); simp only [go_sem]; (first | refine hK _ ?_ | refine ⟨?_, hK _ ?_⟩ | refine ⟨?_, ?_, hK _ ?_⟩ | refine ⟨?_, ?_, ?_, hK _ ?_⟩ | refine idxI_map ?_ (hK _ ?_) | refine idxI_map' ?_ ?_ (hK _ ?_)) <;> clear hK K)
        | (refine e_op rfl (fun K hK => ?_); simp only [go_sem]; (first | refine hK _ ?_ | refine ⟨?_, hK _ ?_⟩ | refine ⟨?_, ?_, hK _ ?_⟩ | refine ⟨?_, ?_, ?_, hK _ ?_⟩ | refine idxI_map ?_ (hK _ ?_) | refine idxI_map' ?_ ?_ (hK _ ?_)) <;> clear hK K)
        | refine e_drawT mixed (by decide +kernel) rfl rfl rfl ?_
        | refine g_on rfl rfl rfl ?_ | (refine g_off rfl rfl rfl ?_; simp only [go_sem]) | (refine g_past rfl rfl rfl ?_; simp only [go_sem]) | refine e_on rfl rfl rfl ?_ | (refine e_off rfl rfl rfl ?_; simp only [go_sem]) | (refine e_past rfl rfl rfl ?_; simp only [go_sem])
        | refine g_nil ?_ | refine e_nil ?_ | refine e_blk ?_ | refine e_skip ?_ | refine e_ret ?_ | refine e_condT rfl ?_ | refine e_condF rfl ?_ | refine e_exit rfl ?_ | refine e_lp ?_
        | (refine g_guard rfl rfl rfl (fun h => ?_) (fun h => ?_) <;> (try simp only [h, go_sem]) <;> (try simp only [Bool.not_true, Bool.not_false, Bool.not_eq_true', Bool.not_eq_false', decide_eq_true_eq, decide_eq_false_iff_not, Bool.and_eq_true, Bool.or_eq_true, Int.not_lt, Int.not_le, Nat.not_lt, Nat.not_le] at h))
        | (refine e_guard rfl rfl rfl (fun h => ?_) (fun h => ?_) <;> (try simp only [h, go_sem]) <;> (try simp only [Bool.not_true, Bool.not_false, Bool.not_eq_true', Bool.not_eq_false', decide_eq_true_eq, decide_eq_false_iff_not, Bool.and_eq_true, Bool.or_eq_true, Int.not_lt, Int.not_le, Nat.not_lt, Nat.not_le] at h))
        | (refine e_cond rfl (fun h => ?_) (fun h => ?_) <;> (try simp only [h, go_sem]) <;> (try simp only [Bool.not_true, Bool.not_false, Bool.not_eq_true', Bool.not_eq_false', decide_eq_true_eq, decide_eq_false_iff_not, Bool.and_eq_true, Bool.or_eq_true, Int.not_lt, Int.not_le, Nat.not_lt, Nat.not_le] at h))
        | omega | decide)
      · simp only [Int.toNat_natCast, get_L] at *
        simp [go_sem, pFields_bad (l := lb s) (k := i) (by omega) (by omega)]
      · rename_i _ _ h1 h2 _
        simp only [Int.toNat_natCast, get_L] at *
        refine ⟨(i + 1, acc, b), (spG_step hp (by omega) h1 h2).1 h, by simp only []; omega, gh_fits ?_⟩
        constructor <;> simp [go_sem, e3 (by omega)]
      · rename_i _ _ h1 h2 _ h3
        simp only [Int.toNat_natCast, get_L] at *
        refine ⟨(i + 1, acc ++ [((lb s).drop b.toNat).take (i - b.toNat)], (i : Int) + 1), (spG_step hp (by omega) h1 h2).2.1 h3 h, by simp only []; omega, gh_fits ?_⟩
        constructor <;> simp [go_sem, e3 (by omega), extract_S]
      · rename_i _ _ h1 h2 _ h3
        simp only [Int.toNat_natCast, get_L] at *
        refine ⟨(i + 1, acc, (i : Int) + 1), (spG_step hp (by omega) h1 h2).2.2 h3 h, by simp only []; omega, gh_fits ?_⟩
        constructor <;> simp [go_sem, e3 (by omega)]
      · simp only [Int.toNat_natCast, get_L] at *
        simp [go_sem, pFields_bad (l := lb s) (k := i) (by omega) (by omega)]
      · have hi : i = (lb s).length := by omega
        subst hi
        have e3' := e3 (by omega)
        simp only [Int.toNat_natCast] at *
        refine ⟨((lb s).length + 1, acc ++ [((lb s).drop b.toNat).take ((lb s).length - b.toNat)], ((lb s).length : Int) + 1), (spG_last hp).1 (by omega), by simp only []; omega, gh_fits ?_⟩
        constructor <;> simp [go_sem, e3', extract_S]
      · have hi : i = (lb s).length := by omega
        subst hi
        have e3' := e3 (by omega)
        refine ⟨((lb s).length + 1, acc, ((lb s).length : Int) + 1), (spG_last hp).2 (by omega), by simp only []; omega, gh_fits ?_⟩
        constructor <;> simp [go_sem, e3']
      · have ha := spG_end hp (by omega)
        obtain ⟨ha, hv⟩ := ha
        subst ha
        simp [go_sem, pFields_many (l := lb s) (by omega)]
      · have ha := spG_end hp (by omega)
        obtain ⟨ha, hv⟩ := ha
        subst ha
        simp [go_sem, pFields_ok (l := lb s) (by omega) hv (by omega)]
end Go.Proofs.A
