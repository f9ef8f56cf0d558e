import Derived.Test.YtljjnbgbndmidaaDoorA5
open Go Go.Eng Go.Proofs Go.Pl Go.Lib Go.RowKit
namespace Go.Proofs.A
set_option linter.unusedSimpArgs false
set_option linter.unusedVariables false
set_option maxRecDepth 100000
def numL (l : Bs) : Int := if 1 < l.length ∧ l.head? = some 45 then -(pUint (l.drop 1)).1 else (pUint l).1
theorem pUint_b (l : Bs) : 0 ≤ (pUint l).1 ∧ (pUint l).1 ≤ 1000000000 := by
  unfold pUint
  split
  · simp only []; omega
  · simp
theorem l40Number_ct (s : ByteArray) : CallsTo Tryd.prog 15 [.v (.string s)] (.v (.int .i64 (numL (lb s)))) := by
  have hsz := size_L s
  refine calls_of_code L_ok Tryd.func15 rfl rfl (ts := [.tmp 2]) rfl (n := 29) rfl (e_start ?_)
  simp only [List.replicate, List.length_cons, List.length_nil, List.cons_append, List.nil_append]
  repeat' (first
    | refine e_seq ?_ | refine e_block ?_ | refine e_region ?_
    | (refine g_op rfl (fun K hK => ?_); simp only [go_sem]; (first | refine hK _ ?_ | refine ⟨?_, hK _ ?_⟩ | refine ⟨?_, ?_, hK _ ?_⟩ | refine ⟨?_, ?_, ?_, hK _ ?_⟩ | refine idxK_map ?_ (hK _ ?_) | refine idxI_map ?_ (hK _ ?_) | refine idxI_map' ?_ ?_ (hK _ ?_)) <;> clear hK K)
    | (refine e_op rfl (fun K hK => ?_); simp only [go_sem]; (first | refine hK _ ?_ | refine ⟨?_, hK _ ?_⟩ | refine ⟨?_, ?_, hK _ ?_⟩ | refine ⟨?_, ?_, ?_, hK _ ?_⟩ | refine idxK_map ?_ (hK _ ?_) | refine idxI_map ?_ (hK _ ?_) | refine idxI_map' ?_ ?_ (hK _ ?_)) <;> clear hK K)
    | (refine g_op rfl (fun K hK => ?_); simp only [go_sem]; (first | refine callK_of (sParseUint_ct _) ?_); rotate_right; (try simp only [go_sem]); refine hK _ ?_; all_goals (try clear hK K))
    | (refine e_op rfl (fun K hK => ?_); simp only [go_sem]; (first | refine callK_of (sParseUint_ct _) ?_); rotate_right; (try simp only [go_sem]); refine hK _ ?_; all_goals (try clear hK K))
    | refine e_drawT mixed (by decide +kernel) rfl rfl rfl ?_
    | refine g_on rfl rfl rfl ?_ | (refine g_off rfl rfl rfl ?_; simp only [go_sem]) | (refine g_past rfl rfl rfl ?_; simp only [go_sem]) | refine e_on rfl rfl rfl ?_ | (refine e_off rfl rfl rfl ?_; simp only [go_sem]) | (refine e_past rfl rfl rfl ?_; simp only [go_sem])
    | refine g_nil ?_ | refine e_nil ?_ | refine e_blk ?_ | refine e_skip ?_ | refine e_ret ?_ | refine e_condT rfl ?_ | refine e_condF rfl ?_ | refine e_exit rfl ?_ | refine e_lp ?_
    | (refine g_guard rfl rfl rfl (fun h => ?_) (fun h => ?_) <;> (try simp only [h, go_sem]) <;> (try simp only [Bool.not_true, Bool.not_false, Bool.not_eq_true', Bool.not_eq_false', decide_eq_true_eq, decide_eq_false_iff_not, Bool.and_eq_true, Bool.or_eq_true, Int.not_lt, Int.not_le, Nat.not_lt, Nat.not_le] at h))
    | (refine e_guard rfl rfl rfl (fun h => ?_) (fun h => ?_) <;> (try simp only [h, go_sem]) <;> (try simp only [Bool.not_true, Bool.not_false, Bool.not_eq_true', Bool.not_eq_false', decide_eq_true_eq, decide_eq_false_iff_not, Bool.and_eq_true, Bool.or_eq_true, Int.not_lt, Int.not_le, Nat.not_lt, Nat.not_le] at h))
    | (refine e_cond rfl (fun h => ?_) (fun h => ?_) <;> (try simp only [h, go_sem]) <;> (try simp only [Bool.not_true, Bool.not_false, Bool.not_eq_true', Bool.not_eq_false', decide_eq_true_eq, decide_eq_false_iff_not, Bool.and_eq_true, Bool.or_eq_true, Int.not_lt, Int.not_le, Nat.not_lt, Nat.not_le] at h))
    | omega | decide)
  · have h1 : 1 < (lb s).length := by omega
    have h2 : (lb s).head? = some 45 := by
      simp only [get_L] at h
      rw [List.head?_eq_getElem?, List.getElem?_eq_getElem (by omega)]
      exact congrArg some (UInt8.toNat_inj.mp (by show _ = 45; omega))
    have h3 : lb (s.extract 1 (s.size : Int).toNat) = (lb s).drop 1 := by
      rw [extract_L]; exact List.take_of_length_le (by simp [hsz])
    have h4 := pUint_b ((lb s).drop 1)
    simp only [h3, Int.zero_sub]
    rw [iwrap (by omega)]
    simp [go_sem, numL, h1, h2]
  · have h2 : ¬ (lb s).head? = some 45 := by
      intro hh
      apply h
      simp only [get_L]
      rw [List.head?_eq_getElem?, List.getElem?_eq_getElem (by omega)] at hh
      simp only [Option.some.injEq] at hh
      simp [hh]
    simp [go_sem, numL, h2]
  · have h1 : ¬ 1 < (lb s).length := by omega
    simp [go_sem, numL, h1]
def wAct (k : Int) : Bs :=
  if k = 1 then [97, 100, 100] else if k = 2 then [100, 114, 111, 112] else if k = 3 then [106, 111, 105, 110] else if k = 4 then [117, 110, 100, 111]
  else if k = 5 then [99, 111, 108, 111, 114] else if k = 6 then [115, 119, 97, 112] else if k = 7 then [115, 116, 111, 114, 101] else if k = 8 then [102, 101, 116, 99, 104]
  else [112, 97, 110, 101, 115]
def nAct (k : Int) : Nat := if k = 1 ∨ k = 6 ∨ k = 7 then 2 else if k = 4 ∨ k = 9 then 0 else 1
def tAct (k a b : Int) : Bs := wAct k ++ (if 0 < nAct k then 32 :: itoa a else []) ++ (if 1 < nAct k then 32 :: itoa b else [])
def fAct (k a b : Int) : Bs × Bool := if actOk k a b then (tAct k a b, true) else ([], false)
theorem actOk_rng {k a b : Int} (h : actOk k a b = true) : 0 ≤ a ∧ a ≤ 50 ∧ 0 ≤ b ∧ b ≤ 50 ∧ (k = 1 ∨ k = 2 ∨ k = 3 ∨ k = 4 ∨ k = 5 ∨ k = 6 ∨ k = 7 ∨ k = 8 ∨ k = 9) := by
  unfold actOk within at h
  split at h
  · simp at h; omega
  split at h
  · simp at h; omega
  split at h
  · simp at h; omega
  split at h
  · simp at h; omega
  simp at h
theorem fmtI_size {n : Int} (h : 0 ≤ n ∧ n ≤ 50) : (fmtI n).size ≤ 20 := by
  rw [fmtI, size_S]; exact itoa_len n (by omega)
def tA (k a b : Int) (i : Nat) : Bs := wAct k ++ (if 0 < i then 32 :: itoa a else []) ++ (if 1 < i then 32 :: itoa b else [])
def abv (a b : Int) : List Int := [a, b]
theorem abv_len (a b : Int) : (abv a b).length = 2 := rfl
theorem tA_size {k a b : Int} (h : actOk k a b = true) (i : Nat) : (tA k a b i).length ≤ 50 := by
  have hr := actOk_rng h
  have h1 := itoa_len a (by omega)
  have h2 := itoa_len b (by omega)
  have h3 : (wAct k).length ≤ 5 := by
    unfold wAct
    repeat' split
    all_goals simp
  unfold tA
  simp only [List.length_append]
  repeat' split
  all_goals simp only [List.length_cons, List.length_nil]; omega
theorem tA_step {k a b : Int} {i : Nat} (h : i < 2) (h' : i < (abv a b).length) : sb (tA k a b i) ++ { data := #[32] } ++ fmtI (abv a b)[i] = sb (tA k a b (i + 1)) := by
  have : i = 0 ∨ i = 1 := by omega
  rcases this with rfl | rfl <;> simp [tA, abv, fmtI, mk_S, S_append]
theorem abv_rng {k a b : Int} (h : actOk k a b = true) {i : Nat} (h' : i < (abv a b).length) : 0 ≤ (abv a b)[i] ∧ (abv a b)[i] ≤ 50 := by
  have hr := actOk_rng h
  have : i = 0 ∨ i = 1 := by simp [abv_len] at h'; omega
  rcases this with rfl | rfl <;> simp [abv] <;> omega
theorem tabW {k : Int} {K : AV → Prop} (h : 1 ≤ k ∧ k ≤ 9) (hK : K (.v (.string (sb (wAct k))))) : idxK [.v (.string { data := #[] }), .v (.string { data := #[97, 100, 100] }), .v (.string { data := #[100, 114, 111, 112] }), .v (.string { data := #[106, 111, 105, 110] }), .v (.string { data := #[117, 110, 100, 111] }), .v (.string { data := #[99, 111, 108, 111, 114] }), .v (.string { data := #[115, 119, 97, 112] }), .v (.string { data := #[115, 116, 111, 114, 101] }), .v (.string { data := #[102, 101, 116, 99, 104] }), .v (.string { data := #[112, 97, 110, 101, 115] })] k.toNat K := by
  have hk : k = 1 ∨ k = 2 ∨ k = 3 ∨ k = 4 ∨ k = 5 ∨ k = 6 ∨ k = 7 ∨ k = 8 ∨ k = 9 := by omega
  rw [idxK_iff]
  rcases hk with rfl | rfl | rfl | rfl | rfl | rfl | rfl | rfl | rfl <;> exact ⟨_, rfl, hK⟩
theorem tabN {k : Int} {K : AV → Prop} (h : 1 ≤ k ∧ k ≤ 9) (hK : K (.v (.int .i64 (nAct k)))) : idxK [.v (.int .i64 0), .v (.int .i64 2), .v (.int .i64 1), .v (.int .i64 1), .v (.int .i64 0), .v (.int .i64 1), .v (.int .i64 2), .v (.int .i64 2), .v (.int .i64 1), .v (.int .i64 0)] k.toNat K := by
  have hk : k = 1 ∨ k = 2 ∨ k = 3 ∨ k = 4 ∨ k = 5 ∨ k = 6 ∨ k = 7 ∨ k = 8 ∨ k = 9 := by omega
  rw [idxK_iff]
  rcases hk with rfl | rfl | rfl | rfl | rfl | rfl | rfl | rfl | rfl <;> exact ⟨_, rfl, hK⟩
set_option maxHeartbeats 2000000 in
theorem sFormatAct_ct (k a b : Int) : CallsTo Tryd.prog 16 [.agg [.v (.int .i64 k), .v (.int .i64 a), .v (.int .i64 b)]] (.tup [.v (.string (sb (fAct k a b).1)), .v (.bool (fAct k a b).2)]) := by
  by_cases hok : actOk k a b = true
  · have hr := actOk_rng hok
    obtain ⟨ha0, ha1, hb0, hb1, hk⟩ := hr
    have hk19 : 1 ≤ k ∧ k ≤ 9 := by omega
    clear hk
    refine calls_of_code L_ok Tryd.func16 rfl rfl (ts := [.tmp 2, .tmp 3]) rfl (n := 40) rfl (e_start ?_)
    simp only [List.replicate, List.length_cons, List.length_nil, List.cons_append, List.nil_append]
    repeat' (first
      | refine e_seq ?_ | refine e_block ?_ | refine e_region ?_
      | (refine g_op rfl (fun K hK => ?_); simp only [go_sem]; (first | refine hK _ ?_ | refine ⟨?_, hK _ ?_⟩ | refine ⟨?_, ?_, hK _ ?_⟩ | refine ⟨?_, ?_, ?_, hK _ ?_⟩ | refine idxK_map ?_ (hK _ ?_) | refine idxI_map ?_ (hK _ ?_) | refine idxI_map' ?_ ?_ (hK _ ?_)) <;> clear hK K)
      | (refine e_op rfl (fun K hK => ?_); simp only [go_sem]; (first | refine hK _ ?_ | refine ⟨?_, hK _ ?_⟩ | refine ⟨?_, ?_, hK _ ?_⟩ | refine ⟨?_, ?_, ?_, hK _ ?_⟩ | refine idxK_map ?_ (hK _ ?_) | refine idxI_map ?_ (hK _ ?_) | refine idxI_map' ?_ ?_ (hK _ ?_)) <;> clear hK K)
      | (refine g_op rfl (fun K hK => ?_); simp only [go_sem]; (first | refine callK_of (sActOk_ct _ _ _) ?_); rotate_right; (try simp only [go_sem]); refine hK _ ?_; all_goals (try clear hK K))
      | (refine e_op rfl (fun K hK => ?_); simp only [go_sem]; (first | refine callK_of (sActOk_ct _ _ _) ?_); rotate_right; (try simp only [go_sem]); refine hK _ ?_; all_goals (try clear hK K))
      | (refine g_op rfl (fun K hK => ?_); simp only [go_sem]; (first | refine tabW hk19 (hK _ ?_) | refine tabN hk19 (hK _ ?_)); clear hK K)
      | refine e_drawT mixed (by decide +kernel) rfl rfl rfl ?_
      | refine g_on rfl rfl rfl ?_ | (refine g_off rfl rfl rfl ?_; simp only [go_sem]) | (refine g_past rfl rfl rfl ?_; simp only [go_sem]) | refine e_on rfl rfl rfl ?_ | (refine e_off rfl rfl rfl ?_; simp only [go_sem]) | (refine e_past rfl rfl rfl ?_; simp only [go_sem])
      | refine g_nil ?_ | refine e_nil ?_ | refine e_blk ?_ | refine e_skip ?_ | refine e_ret ?_ | refine e_condT rfl ?_ | refine e_condF rfl ?_ | refine e_exit rfl ?_ | refine e_lp ?_
      | (refine g_guard rfl rfl rfl (fun h => ?_) (fun h => ?_) <;> (try simp only [h, go_sem]) <;> (try simp only [Bool.not_true, Bool.not_false, Bool.not_eq_true', Bool.not_eq_false', decide_eq_true_eq, decide_eq_false_iff_not, Bool.and_eq_true, Bool.or_eq_true, Int.not_lt, Int.not_le, Nat.not_lt, Nat.not_le] at h))
      | (refine e_guard rfl rfl rfl (fun h => ?_) (fun h => ?_) <;> (try simp only [h, go_sem]) <;> (try simp only [Bool.not_true, Bool.not_false, Bool.not_eq_true', Bool.not_eq_false', decide_eq_true_eq, decide_eq_false_iff_not, Bool.and_eq_true, Bool.or_eq_true, Int.not_lt, Int.not_le, Nat.not_lt, Nat.not_le] at h))
      | (refine e_cond rfl (fun h => ?_) (fun h => ?_) <;> (try simp only [h, go_sem]) <;> (try simp only [Bool.not_true, Bool.not_false, Bool.not_eq_true', Bool.not_eq_false', decide_eq_true_eq, decide_eq_false_iff_not, Bool.and_eq_true, Bool.or_eq_true, Int.not_lt, Int.not_le, Nat.not_lt, Nat.not_le] at h))
      | omega | decide)
    · simp [hok] at h
    refine e_loop (fun i : Nat => i ≤ nAct k) (fun i => ⟨fr 40 [(4, .v (.string (sb (tA k a b i)))), (5, .v (.int .i64 (nAct k))), (6, .row 25), (7, .v (.int .i64 i))], [(25, ⟨1, false, some false, (abv a b).map fun x => .v (.int .i64 x)⟩)]⟩) (fun i => nAct k - i) 0 (by omega) ?_ ?_
    · refine gh_fits ?_
      constructor <;> simp [go_sem, abv, tA]
    · intro i hi
      simp only [go_sem]
      have hi2 : nAct k ≤ 2 := by unfold nAct; split; omega; split <;> omega
      have hsz := tA_size h i
      have hal := abv_len a b
      have hrg := @abv_rng _ _ _ h i
      have hst := @tA_step k a b i
      have e3 := isucc i (by omega)
      repeat' (first
        | refine e_seq ?_ | refine e_block ?_ | refine e_region ?_
        | (refine g_op rfl (fun K hK => ?_); simp only [go_sem]; (first | refine hK _ ?_ | refine ⟨?_, hK _ ?_⟩ | refine ⟨?_, ?_, hK _ ?_⟩ | refine ⟨?_, ?_, ?_, hK _ ?_⟩ | refine idxK_map ?_ (hK _ ?_) | refine idxI_map ?_ (hK _ ?_) | refine idxI_map' ?_ ?_ (hK _ ?_)) <;> clear hK K)
        | (refine e_op rfl (fun K hK => ?_); simp only [go_sem]; (first | refine hK _ ?_ | refine ⟨?_, hK _ ?_⟩ | refine ⟨?_, ?_, hK _ ?_⟩ | refine ⟨?_, ?_, ?_, hK _ ?_⟩ | refine idxK_map ?_ (hK _ ?_) | refine idxI_map ?_ (hK _ ?_) | refine idxI_map' ?_ ?_ (hK _ ?_)) <;> clear hK K)
        | (refine g_op rfl (fun K hK => ?_); simp only [go_sem]; (first | refine callK_of (sFormatInt_ct _ ?_) ?_); rotate_right; (try simp only [go_sem]); refine hK _ ?_; all_goals (try clear hK K))
        | (refine e_op rfl (fun K hK => ?_); simp only [go_sem]; (first | refine callK_of (sFormatInt_ct _ ?_) ?_); rotate_right; (try simp only [go_sem]); refine hK _ ?_; all_goals (try clear hK K))
        | refine e_drawT mixed (by decide +kernel) rfl rfl rfl ?_
        | refine g_on rfl rfl rfl ?_ | (refine g_off rfl rfl rfl ?_; simp only [go_sem]) | (refine g_past rfl rfl rfl ?_; simp only [go_sem]) | refine e_on rfl rfl rfl ?_ | (refine e_off rfl rfl rfl ?_; simp only [go_sem]) | (refine e_past rfl rfl rfl ?_; simp only [go_sem])
        | refine g_nil ?_ | refine e_nil ?_ | refine e_blk ?_ | refine e_skip ?_ | refine e_ret ?_ | refine e_condT rfl ?_ | refine e_condF rfl ?_ | refine e_exit rfl ?_ | refine e_lp ?_
        | (refine g_guard rfl rfl rfl (fun h => ?_) (fun h => ?_) <;> (try simp only [h, go_sem]) <;> (try simp only [Bool.not_true, Bool.not_false, Bool.not_eq_true', Bool.not_eq_false', decide_eq_true_eq, decide_eq_false_iff_not, Bool.and_eq_true, Bool.or_eq_true, Int.not_lt, Int.not_le, Nat.not_lt, Nat.not_le] at h))
        | (refine e_guard rfl rfl rfl (fun h => ?_) (fun h => ?_) <;> (try simp only [h, go_sem]) <;> (try simp only [Bool.not_true, Bool.not_false, Bool.not_eq_true', Bool.not_eq_false', decide_eq_true_eq, decide_eq_false_iff_not, Bool.and_eq_true, Bool.or_eq_true, Int.not_lt, Int.not_le, Nat.not_lt, Nat.not_le] at h))
        | (refine e_cond rfl (fun h => ?_) (fun h => ?_) <;> (try simp only [h, go_sem]) <;> (try simp only [Bool.not_true, Bool.not_false, Bool.not_eq_true', Bool.not_eq_false', decide_eq_true_eq, decide_eq_false_iff_not, Bool.and_eq_true, Bool.or_eq_true, Int.not_lt, Int.not_le, Nat.not_lt, Nat.not_le] at h))
        | omega | decide)
      all_goals (try simp only [Int.toNat_natCast, size_S, List.size_toArray, List.length_cons, List.length_nil] at *)
      · omega
      · have := fmtI_size (hrg (by omega))
        omega
      · refine ⟨i + 1, by simp only []; omega, by simp only []; omega, gh_fits ?_⟩
        have hst' := hst (by omega) (by omega)
        constructor <;> simp [go_sem, e3, hst']
      · have := hrg (by omega)
        omega
      · have hie : i = nAct k := by omega
        rw [hie]
        simp [go_sem, fAct, hok, tA, tAct]
  · have hok := hok
    refine calls_of_code L_ok Tryd.func16 rfl rfl (ts := [.tmp 2, .tmp 3]) rfl (n := 40) rfl (e_start ?_)
    simp only [List.replicate, List.length_cons, List.length_nil, List.cons_append, List.nil_append]
    repeat' (first
      | refine e_seq ?_ | refine e_block ?_ | refine e_region ?_
      | (refine g_op rfl (fun K hK => ?_); simp only [go_sem]; (first | refine hK _ ?_ | refine ⟨?_, hK _ ?_⟩ | refine ⟨?_, ?_, hK _ ?_⟩ | refine ⟨?_, ?_, ?_, hK _ ?_⟩ | refine idxK_map ?_ (hK _ ?_) | refine idxI_map ?_ (hK _ ?_) | refine idxI_map' ?_ ?_ (hK _ ?_)) <;> clear hK K)
      | (refine e_op rfl (fun K hK => ?_); simp only [go_sem]; (first | refine hK _ ?_ | refine ⟨?_, hK _ ?_⟩ | refine ⟨?_, ?_, hK _ ?_⟩ | refine ⟨?_, ?_, ?_, hK _ ?_⟩ | refine idxK_map ?_ (hK _ ?_) | refine idxI_map ?_ (hK _ ?_) | refine idxI_map' ?_ ?_ (hK _ ?_)) <;> clear hK K)
      | (refine g_op rfl (fun K hK => ?_); simp only [go_sem]; (first | refine callK_of (sActOk_ct _ _ _) ?_); rotate_right; (try simp only [go_sem]); refine hK _ ?_; all_goals (try clear hK K))
      | (refine e_op rfl (fun K hK => ?_); simp only [go_sem]; (first | refine callK_of (sActOk_ct _ _ _) ?_); rotate_right; (try simp only [go_sem]); refine hK _ ?_; all_goals (try clear hK K))
      | (exact absurd h hok)
      | refine e_drawT mixed (by decide +kernel) rfl rfl rfl ?_
      | refine g_on rfl rfl rfl ?_ | (refine g_off rfl rfl rfl ?_; simp only [go_sem]) | (refine g_past rfl rfl rfl ?_; simp only [go_sem]) | refine e_on rfl rfl rfl ?_ | (refine e_off rfl rfl rfl ?_; simp only [go_sem]) | (refine e_past rfl rfl rfl ?_; simp only [go_sem])
      | refine g_nil ?_ | refine e_nil ?_ | refine e_blk ?_ | refine e_skip ?_ | refine e_ret ?_ | refine e_condT rfl ?_ | refine e_condF rfl ?_ | refine e_exit rfl ?_ | refine e_lp ?_
      | (refine g_guard rfl rfl rfl (fun h => ?_) (fun h => ?_) <;> (try simp only [h, go_sem]) <;> (try simp only [Bool.not_true, Bool.not_false, Bool.not_eq_true', Bool.not_eq_false', decide_eq_true_eq, decide_eq_false_iff_not, Bool.and_eq_true, Bool.or_eq_true, Int.not_lt, Int.not_le, Nat.not_lt, Nat.not_le] at h))
      | (refine e_guard rfl rfl rfl (fun h => ?_) (fun h => ?_) <;> (try simp only [h, go_sem]) <;> (try simp only [Bool.not_true, Bool.not_false, Bool.not_eq_true', Bool.not_eq_false', decide_eq_true_eq, decide_eq_false_iff_not, Bool.and_eq_true, Bool.or_eq_true, Int.not_lt, Int.not_le, Nat.not_lt, Nat.not_le] at h))
      | (refine e_cond rfl (fun h => ?_) (fun h => ?_) <;> (try simp only [h, go_sem]) <;> (try simp only [Bool.not_true, Bool.not_false, Bool.not_eq_true', Bool.not_eq_false', decide_eq_true_eq, decide_eq_false_iff_not, Bool.and_eq_true, Bool.or_eq_true, Int.not_lt, Int.not_le, Nat.not_lt, Nat.not_le] at h))
      | omega | decide)
    · simp [go_sem, fAct, h, mk_S]
set_option maxHeartbeats 2000000 in
theorem iFormatAct_ct (k a b : Int) : CallsTo Tryd.prog 19 [.agg [.v (.int .i64 k), .v (.int .i64 a), .v (.int .i64 b)]] (.tup [.v (.string (sb (fAct k a b).1)), .v (.bool (fAct k a b).2)]) := by
  by_cases hok : actOk k a b = true
  · have hr := actOk_rng hok
    have hsa := fmtI_size (n := a) (by omega)
    have hsb := fmtI_size (n := b) (by omega)
    obtain ⟨ha0, ha1, hb0, hb1, hk⟩ := hr
    refine calls_of_code L_ok Tryd.func19 rfl rfl (ts := [.tmp 2, .tmp 3]) rfl (n := 51) rfl (e_start ?_)
    simp only [List.replicate, List.length_cons, List.length_nil, List.cons_append, List.nil_append]
    repeat' (first
      | refine e_seq ?_ | refine e_block ?_ | refine e_region ?_
      | (refine g_op rfl (fun K hK => ?_); simp only [go_sem]; (first | refine hK _ ?_ | refine ⟨?_, hK _ ?_⟩ | refine ⟨?_, ?_, hK _ ?_⟩ | refine ⟨?_, ?_, ?_, hK _ ?_⟩ | refine idxK_map ?_ (hK _ ?_) | refine idxI_map ?_ (hK _ ?_) | refine idxI_map' ?_ ?_ (hK _ ?_)) <;> clear hK K)
      | (refine e_op rfl (fun K hK => ?_); simp only [go_sem]; (first | refine hK _ ?_ | refine ⟨?_, hK _ ?_⟩ | refine ⟨?_, ?_, hK _ ?_⟩ | refine ⟨?_, ?_, ?_, hK _ ?_⟩ | refine idxK_map ?_ (hK _ ?_) | refine idxI_map ?_ (hK _ ?_) | refine idxI_map' ?_ ?_ (hK _ ?_)) <;> clear hK K)
      | (refine g_op rfl (fun K hK => ?_); simp only [go_sem]; (first | refine callK_of (iActOk_ct _ _ _) ?_ | refine callK_of (iFormatInt_ct _ ?_) ?_); rotate_right; (try simp only [go_sem]); refine hK _ ?_; all_goals (try clear hK K))
      | (refine e_op rfl (fun K hK => ?_); simp only [go_sem]; (first | refine callK_of (iActOk_ct _ _ _) ?_ | refine callK_of (iFormatInt_ct _ ?_) ?_); rotate_right; (try simp only [go_sem]); refine hK _ ?_; all_goals (try clear hK K))
      | refine e_drawT mixed (by decide +kernel) rfl rfl rfl ?_
      | refine g_on rfl rfl rfl ?_ | (refine g_off rfl rfl rfl ?_; simp only [go_sem]) | (refine g_past rfl rfl rfl ?_; simp only [go_sem]) | refine e_on rfl rfl rfl ?_ | (refine e_off rfl rfl rfl ?_; simp only [go_sem]) | (refine e_past rfl rfl rfl ?_; simp only [go_sem])
      | refine g_nil ?_ | refine e_nil ?_ | refine e_blk ?_ | refine e_skip ?_ | refine e_ret ?_ | refine e_condT rfl ?_ | refine e_condF rfl ?_ | refine e_exit rfl ?_ | refine e_lp ?_
      | (refine g_guard rfl rfl rfl (fun h => ?_) (fun h => ?_) <;> (try simp only [h, go_sem]) <;> (try simp only [Bool.not_true, Bool.not_false, Bool.not_eq_true', Bool.not_eq_false', decide_eq_true_eq, decide_eq_false_iff_not, Bool.and_eq_true, Bool.or_eq_true, Int.not_lt, Int.not_le, Nat.not_lt, Nat.not_le] at h))
      | (refine e_guard rfl rfl rfl (fun h => ?_) (fun h => ?_) <;> (try simp only [h, go_sem]) <;> (try simp only [Bool.not_true, Bool.not_false, Bool.not_eq_true', Bool.not_eq_false', decide_eq_true_eq, decide_eq_false_iff_not, Bool.and_eq_true, Bool.or_eq_true, Int.not_lt, Int.not_le, Nat.not_lt, Nat.not_le] at h))
      | (refine e_cond rfl (fun h => ?_) (fun h => ?_) <;> (try simp only [h, go_sem]) <;> (try simp only [Bool.not_true, Bool.not_false, Bool.not_eq_true', Bool.not_eq_false', decide_eq_true_eq, decide_eq_false_iff_not, Bool.and_eq_true, Bool.or_eq_true, Int.not_lt, Int.not_le, Nat.not_lt, Nat.not_le] at h))
      | omega | decide)
    · simp [hok] at h
    all_goals first
      | (simp only [List.size_toArray, List.length_cons, List.length_nil]; omega)
      | (rcases hk with hk | hk | hk | hk | hk | hk | hk | hk | hk <;> subst hk <;> simp_all [go_sem, fAct, tAct, nAct, wAct, mk_S, fmtI, S_append]; done)
  · have hok := hok
    refine calls_of_code L_ok Tryd.func19 rfl rfl (ts := [.tmp 2, .tmp 3]) rfl (n := 51) rfl (e_start ?_)
    simp only [List.replicate, List.length_cons, List.length_nil, List.cons_append, List.nil_append]
    repeat' (first
      | refine e_seq ?_ | refine e_block ?_ | refine e_region ?_
      | (refine g_op rfl (fun K hK => ?_); simp only [go_sem]; (first | refine hK _ ?_ | refine ⟨?_, hK _ ?_⟩ | refine ⟨?_, ?_, hK _ ?_⟩ | refine ⟨?_, ?_, ?_, hK _ ?_⟩ | refine idxK_map ?_ (hK _ ?_) | refine idxI_map ?_ (hK _ ?_) | refine idxI_map' ?_ ?_ (hK _ ?_)) <;> clear hK K)
      | (refine e_op rfl (fun K hK => ?_); simp only [go_sem]; (first | refine hK _ ?_ | refine ⟨?_, hK _ ?_⟩ | refine ⟨?_, ?_, hK _ ?_⟩ | refine ⟨?_, ?_, ?_, hK _ ?_⟩ | refine idxK_map ?_ (hK _ ?_) | refine idxI_map ?_ (hK _ ?_) | refine idxI_map' ?_ ?_ (hK _ ?_)) <;> clear hK K)
      | (refine g_op rfl (fun K hK => ?_); simp only [go_sem]; (first | refine callK_of (iActOk_ct _ _ _) ?_); rotate_right; (try simp only [go_sem]); refine hK _ ?_; all_goals (try clear hK K))
      | (refine e_op rfl (fun K hK => ?_); simp only [go_sem]; (first | refine callK_of (iActOk_ct _ _ _) ?_); rotate_right; (try simp only [go_sem]); refine hK _ ?_; all_goals (try clear hK K))
      | refine e_drawT mixed (by decide +kernel) rfl rfl rfl ?_
      | refine g_on rfl rfl rfl ?_ | (refine g_off rfl rfl rfl ?_; simp only [go_sem]) | (refine g_past rfl rfl rfl ?_; simp only [go_sem]) | refine e_on rfl rfl rfl ?_ | (refine e_off rfl rfl rfl ?_; simp only [go_sem]) | (refine e_past rfl rfl rfl ?_; simp only [go_sem])
      | refine g_nil ?_ | refine e_nil ?_ | refine e_blk ?_ | refine e_skip ?_ | refine e_ret ?_ | refine e_condT rfl ?_ | refine e_condF rfl ?_ | refine e_exit rfl ?_ | refine e_lp ?_
      | (refine g_guard rfl rfl rfl (fun h => ?_) (fun h => ?_) <;> (try simp only [h, go_sem]) <;> (try simp only [Bool.not_true, Bool.not_false, Bool.not_eq_true', Bool.not_eq_false', decide_eq_true_eq, decide_eq_false_iff_not, Bool.and_eq_true, Bool.or_eq_true, Int.not_lt, Int.not_le, Nat.not_lt, Nat.not_le] at h))
      | (refine e_guard rfl rfl rfl (fun h => ?_) (fun h => ?_) <;> (try simp only [h, go_sem]) <;> (try simp only [Bool.not_true, Bool.not_false, Bool.not_eq_true', Bool.not_eq_false', decide_eq_true_eq, decide_eq_false_iff_not, Bool.and_eq_true, Bool.or_eq_true, Int.not_lt, Int.not_le, Nat.not_lt, Nat.not_le] at h))
      | (refine e_cond rfl (fun h => ?_) (fun h => ?_) <;> (try simp only [h, go_sem]) <;> (try simp only [Bool.not_true, Bool.not_false, Bool.not_eq_true', Bool.not_eq_false', decide_eq_true_eq, decide_eq_false_iff_not, Bool.and_eq_true, Bool.or_eq_true, Int.not_lt, Int.not_le, Nat.not_lt, Nat.not_le] at h))
      | omega | decide)
    · simp [go_sem, fAct, h, mk_S]
    · exact absurd h hok
end Go.Proofs.A
