import Derived.Test.YtljjnbgbndmidaaDoorA7
open Go Go.Eng Go.Proofs Go.Pl Go.Lib Go.RowKit
namespace Go.Proofs.A
set_option linter.unusedSimpArgs false
set_option linter.unusedVariables false
set_option maxRecDepth 100000
@[go_sem] theorem zero3 : (Tryd.prog.info? 3).bind (fun x => x.zero) = some (.int .i64 0) := by kernel_rfl
@[go_sem] theorem kinds_look' (f : Bs) : lkE (.int .i64 0) kinds (sb f) = .int .i64 (kOf f) := kinds_look f
theorem jt_len {r : List Bs} (hl : r.length ≤ 2) (h1 : ∀ x ∈ r, x.length ≤ 600) : (jt r).length ≤ 1202 := by
  match r, hl, h1 with
  | [], _, _ => simp [jt]
  | [x], _, h1 =>
    have := h1 x (by simp)
    simp [jt]; omega
  | [x, y], _, h1 =>
    have h2 := h1 x (by simp)
    have h3 := h1 y (by simp)
    simp [jt]; omega
theorem join_fs {fs : List Bs} {f : Bs} {r : List Bs} (hfs : fs = f :: r) (hl : r.length ≤ 2) (hs : ∀ x ∈ fs, x.length ≤ 600) :
    CallsTo Tryd.prog 20 [.sl 1 true none (fs.map eS), .v (.string ⟨#[32]⟩)] (.v (.string (sb (f ++ jt r)))) := by
  have hj : Lib.join ((fs.map sb).map lb) (lb ⟨#[32]⟩) = f ++ jt r := by
    have : (fs.map sb).map lb = fs := by rw [List.map_map]; exact (List.map_congr_left (fun x _ => L_S x)).trans (List.map_id fs)
    rw [this, hfs, mk_S, L_S]
    exact jt_join f r
  have hjl := jt_len hl (fun x hx => hs x (by rw [hfs]; simp [hx]))
  have hf := hs f (by rw [hfs]; simp)
  have := join_ct true none (fs.map sb) ⟨#[32]⟩ (by rw [hj, List.length_append]; omega) (by rw [List.length_map, hfs, List.length_cons]; omega)
  rw [hj, List.map_map] at this
  exact this
theorem nc0 : ((0 : Nat) : Int) = 0 := rfl
theorem nc1 : ((1 : Nat) : Int) = 1 := rfl
def a0 (r : List Bs) (i : Nat) : Int := if 0 < i then nI r 0 else 0
def a1 (r : List Bs) (i : Nat) : Int := if 1 < i then nI r 1 else 0
theorem a0_all (r : List Bs) : a0 r r.length = nI r 0 := by cases r <;> simp [a0, nI]
theorem a1_all (r : List Bs) : a1 r r.length = nI r 1 := by
  match r with
  | [] => simp [a1, nI]
  | [x] => simp [a1, nI]
  | x :: y :: r => simp [a1, nI]
theorem i64_01 : IntKind.i64.wrap 1 = 1 := rfl
theorem i64_12 : IntKind.i64.wrap 2 = 2 := rfl
set_option maxHeartbeats 2000000 in
theorem iParseAct_ct (s : ByteArray) : CallsTo Tryd.prog 6 [.v (.string s)] (.tup [rA (rAct (lb s)).1, .v (.bool (rAct (lb s)).2)]) := by
  have ct := iSplitFields_ct s
  rcases hp : pFields (lb s) with ⟨fs, ok⟩
  rw [hp] at ct
  simp only at ct
  by_cases hz : ok = false ∨ fs = [] ∨ 3 < fs.length
  · have hr := rAct_zero (l := lb s) (by rw [hp]; exact hz)
    rw [hr]
    refine calls_of_code L_ok Tryd.func6 rfl rfl (ts := [.cell 2 23, .tmp 3]) rfl (n := 80) rfl (e_start ?_)
    simp only [List.replicate, List.length_cons, List.length_nil, List.cons_append, List.nil_append]
    repeat' (first
      | refine e_seq ?_ | refine e_block ?_ | refine e_region ?_
      | (refine g_op rfl (fun K hK => ?_); simp only [go_sem]; (first | refine hK _ ?_ | refine ⟨?_, hK _ ?_⟩ | refine ⟨?_, ?_, hK _ ?_⟩ | refine ⟨?_, ?_, ?_, hK _ ?_⟩ | refine idxK_map ?_ (hK _ ?_) | refine idxI_map ?_ (hK _ ?_) | refine idxI_map' ?_ ?_ (hK _ ?_)) <;> clear hK K)
      | (refine e_op rfl (fun K hK => ?_); simp only [go_sem]; (first | refine hK _ ?_ | refine ⟨?_, hK _ ?_⟩ | refine ⟨?_, ?_, hK _ ?_⟩ | refine ⟨?_, ?_, ?_, hK _ ?_⟩ | refine idxK_map ?_ (hK _ ?_) | refine idxI_map ?_ (hK _ ?_) | refine idxI_map' ?_ ?_ (hK _ ?_)) <;> clear hK K)
      | (refine g_op rfl (fun K hK => ?_); simp only [go_sem]; (first | refine callK_of (ct) ?_); rotate_right; (try simp only [go_sem]); refine hK _ ?_; all_goals (try clear hK K))
      | (refine e_op rfl (fun K hK => ?_); simp only [go_sem]; (first | refine callK_of (ct) ?_); rotate_right; (try simp only [go_sem]); refine hK _ ?_; all_goals (try clear hK K))
      | (exfalso; rcases hz with hz | hz | hz <;> simp_all <;> omega)
      | refine e_drawT mixed (by decide +kernel) rfl rfl rfl ?_
      | refine g_on rfl rfl rfl ?_ | (refine g_off rfl rfl rfl ?_; simp only [go_sem]) | (refine g_past rfl rfl rfl ?_; simp only [go_sem]) | refine e_on rfl rfl rfl ?_ | (refine e_off rfl rfl rfl ?_; simp only [go_sem]) | (refine e_past rfl rfl rfl ?_; simp only [go_sem])
      | refine g_nil ?_ | refine e_nil ?_ | refine e_blk ?_ | refine e_skip ?_ | refine e_ret ?_ | refine e_condT rfl ?_ | refine e_condF rfl ?_ | refine e_exit rfl ?_ | refine e_lp ?_
      | (refine g_guard rfl rfl rfl (fun h => ?_) (fun h => ?_) <;> (try simp only [h, go_sem]) <;> (try simp only [Bool.not_true, Bool.not_false, Bool.not_eq_true', Bool.not_eq_false', decide_eq_true_eq, decide_eq_false_iff_not, Bool.and_eq_true, Bool.or_eq_true, Int.not_lt, Int.not_le, Nat.not_lt, Nat.not_le] at h))
      | (refine e_guard rfl rfl rfl (fun h => ?_) (fun h => ?_) <;> (try simp only [h, go_sem]) <;> (try simp only [Bool.not_true, Bool.not_false, Bool.not_eq_true', Bool.not_eq_false', decide_eq_true_eq, decide_eq_false_iff_not, Bool.and_eq_true, Bool.or_eq_true, Int.not_lt, Int.not_le, Nat.not_lt, Nat.not_le] at h))
      | (refine e_cond rfl (fun h => ?_) (fun h => ?_) <;> (try simp only [h, go_sem]) <;> (try simp only [Bool.not_true, Bool.not_false, Bool.not_eq_true', Bool.not_eq_false', decide_eq_true_eq, decide_eq_false_iff_not, Bool.and_eq_true, Bool.or_eq_true, Int.not_lt, Int.not_le, Nat.not_lt, Nat.not_le] at h))
      | omega | decide)
    all_goals simp [go_sem]
  · have hok : ok = true := by cases ok <;> simp_all
    subst hok
    obtain ⟨f, r, hfs⟩ : ∃ f r, fs = f :: r := by
      cases fs with
      | nil => simp at hz
      | cons f r => exact ⟨f, r, rfl⟩
    have hlen : fs.length = r.length + 1 := by rw [hfs]; rfl
    have hl : r.length ≤ 2 := by simp only [hlen] at hz; omega
    have hs := pFields_sf hp
    have hjn := join_fs hfs hl (fun x hx => (hs x hx).2)
    have h0 : fs[0]'(by omega) = f := by simp [hfs]
    refine calls_of_code L_ok Tryd.func6 rfl rfl (ts := [.cell 2 23, .tmp 3]) rfl (n := 80) rfl (e_start ?_)
    simp only [List.replicate, List.length_cons, List.length_nil, List.cons_append, List.nil_append]
    repeat' (first
      | refine e_seq ?_ | refine e_block ?_ | refine e_region ?_
      | (refine g_op rfl (fun K hK => ?_); simp only [go_sem]; (first | refine hK _ ?_ | refine ⟨?_, hK _ ?_⟩ | refine ⟨?_, ?_, hK _ ?_⟩ | refine ⟨?_, ?_, ?_, hK _ ?_⟩ | refine idxK_map ?_ (hK _ ?_) | refine idxI_map ?_ (hK _ ?_) | refine idxI_map' ?_ ?_ (hK _ ?_)) <;> clear hK K)
      | (refine e_op rfl (fun K hK => ?_); simp only [go_sem]; (first | refine hK _ ?_ | refine ⟨?_, hK _ ?_⟩ | refine ⟨?_, ?_, hK _ ?_⟩ | refine ⟨?_, ?_, ?_, hK _ ?_⟩ | refine idxK_map ?_ (hK _ ?_) | refine idxI_map ?_ (hK _ ?_) | refine idxI_map' ?_ ?_ (hK _ ?_)) <;> clear hK K)
      | (refine g_op rfl (fun K hK => ?_); simp only [go_sem]; (first | refine callK_of (ct) ?_); rotate_right; (try simp only [go_sem]); refine hK _ ?_; all_goals (try clear hK K))
      | (refine e_op rfl (fun K hK => ?_); simp only [go_sem]; (first | refine callK_of (ct) ?_); rotate_right; (try simp only [go_sem]); refine hK _ ?_; all_goals (try clear hK K))
      | refine e_drawT mixed (by decide +kernel) rfl rfl rfl ?_
      | refine g_on rfl rfl rfl ?_ | (refine g_off rfl rfl rfl ?_; simp only [go_sem]) | (refine g_past rfl rfl rfl ?_; simp only [go_sem]) | refine e_on rfl rfl rfl ?_ | (refine e_off rfl rfl rfl ?_; simp only [go_sem]) | (refine e_past rfl rfl rfl ?_; simp only [go_sem])
      | refine g_nil ?_ | refine e_nil ?_ | refine e_blk ?_ | refine e_skip ?_ | refine e_ret ?_ | refine e_condT rfl ?_ | refine e_condF rfl ?_ | refine e_exit rfl ?_ | refine e_lp ?_
      | (refine g_guard rfl rfl rfl (fun h => ?_) (fun h => ?_) <;> (try simp only [h, go_sem]) <;> (try simp only [Bool.not_true, Bool.not_false, Bool.not_eq_true', Bool.not_eq_false', decide_eq_true_eq, decide_eq_false_iff_not, Bool.and_eq_true, Bool.or_eq_true, Int.not_lt, Int.not_le, Nat.not_lt, Nat.not_le] at h))
      | (refine e_guard rfl rfl rfl (fun h => ?_) (fun h => ?_) <;> (try simp only [h, go_sem]) <;> (try simp only [Bool.not_true, Bool.not_false, Bool.not_eq_true', Bool.not_eq_false', decide_eq_true_eq, decide_eq_false_iff_not, Bool.and_eq_true, Bool.or_eq_true, Int.not_lt, Int.not_le, Nat.not_lt, Nat.not_le] at h))
      | (refine e_cond rfl (fun h => ?_) (fun h => ?_) <;> (try simp only [h, go_sem]) <;> (try simp only [Bool.not_true, Bool.not_false, Bool.not_eq_true', Bool.not_eq_false', decide_eq_true_eq, decide_eq_false_iff_not, Bool.and_eq_true, Bool.or_eq_true, Int.not_lt, Int.not_le, Nat.not_lt, Nat.not_le] at h))
      | omega | decide)
    refine e_loop (fun i : Nat => i ≤ r.length ∧ ∀ (j : Nat) (h : j < r.length), j < i → (pUint r[j]).2 = true) (fun i => ⟨fr 80 [(2, .ptr 2 0 0), (4, .sl 1 true none (fs.map eS)), (6, .ptr 6 0 0), (34, .sl 1 false none (r.map eS)), (35, .v (.int .i64 r.length)), (36, .v (.int .i64 i))], [(2, ⟨3, true, none, [rA (0, 0, 0)]⟩), (6, ⟨2, true, none, [.agg [.v (.int .i64 (a0 r i)), .v (.int .i64 (a1 r i))]]⟩)]⟩) (fun i => r.length - i) 0 ⟨by omega, fun j _ hj => by omega⟩ ?_ ?_
    · refine gh_fits ?_
      constructor <;> simp [go_sem, a0, a1, hfs]
      exact List.take_of_length_le (by simp)
    · rintro i ⟨hi, hok⟩
      simp only [go_sem]
      by_cases hir : i = r.length
      · subst hir
        repeat' (first
          | refine e_lit (n := 9) (d := 53) (es := kinds) rfl rfl ?_
          | refine e_seq ?_ | refine e_block ?_ | refine e_region ?_
          | (refine g_op rfl (fun K hK => ?_); simp only [go_sem]; (first | refine hK _ ?_ | refine ⟨?_, hK _ ?_⟩ | refine ⟨?_, ?_, hK _ ?_⟩ | refine ⟨?_, ?_, ?_, hK _ ?_⟩ | refine idxK_map ?_ (hK _ ?_) | refine idxI_map ?_ (hK _ ?_) | refine idxI_map' ?_ ?_ (hK _ ?_)) <;> clear hK K)
          | (refine e_op rfl (fun K hK => ?_); simp only [go_sem]; (first | refine hK _ ?_ | refine ⟨?_, hK _ ?_⟩ | refine ⟨?_, ?_, hK _ ?_⟩ | refine ⟨?_, ?_, ?_, hK _ ?_⟩ | refine idxK_map ?_ (hK _ ?_) | refine idxI_map ?_ (hK _ ?_) | refine idxI_map' ?_ ?_ (hK _ ?_)) <;> clear hK K)
          | (refine g_op rfl (fun K hK => ?_); simp only [go_sem]; (first | refine callK_of (iFormatAct_ct _ _ _) ?_ | refine callK_of (hjn) ?_); rotate_right; (try simp only [go_sem]); refine hK _ ?_; all_goals (try clear hK K))
          | (refine e_op rfl (fun K hK => ?_); simp only [go_sem]; (first | refine callK_of (iFormatAct_ct _ _ _) ?_ | refine callK_of (hjn) ?_); rotate_right; (try simp only [go_sem]); refine hK _ ?_; all_goals (try clear hK K))
          | omega
          | refine e_drawT mixed (by decide +kernel) rfl rfl rfl ?_
          | refine g_on rfl rfl rfl ?_ | (refine g_off rfl rfl rfl ?_; simp only [go_sem]) | (refine g_past rfl rfl rfl ?_; simp only [go_sem]) | refine e_on rfl rfl rfl ?_ | (refine e_off rfl rfl rfl ?_; simp only [go_sem]) | (refine e_past rfl rfl rfl ?_; simp only [go_sem])
          | refine g_nil ?_ | refine e_nil ?_ | refine e_blk ?_ | refine e_skip ?_ | refine e_ret ?_ | refine e_condT rfl ?_ | refine e_condF rfl ?_ | refine e_exit rfl ?_ | refine e_lp ?_
          | (refine g_guard rfl rfl rfl (fun h => ?_) (fun h => ?_) <;> (try simp only [h, go_sem]) <;> (try simp only [Bool.not_true, Bool.not_false, Bool.not_eq_true', Bool.not_eq_false', decide_eq_true_eq, decide_eq_false_iff_not, Bool.and_eq_true, Bool.or_eq_true, Int.not_lt, Int.not_le, Nat.not_lt, Nat.not_le] at h))
          | (refine e_guard rfl rfl rfl (fun h => ?_) (fun h => ?_) <;> (try simp only [h, go_sem]) <;> (try simp only [Bool.not_true, Bool.not_false, Bool.not_eq_true', Bool.not_eq_false', decide_eq_true_eq, decide_eq_false_iff_not, Bool.and_eq_true, Bool.or_eq_true, Int.not_lt, Int.not_le, Nat.not_lt, Nat.not_le] at h))
          | (refine e_cond rfl (fun h => ?_) (fun h => ?_) <;> (try simp only [h, go_sem]) <;> (try simp only [Bool.not_true, Bool.not_false, Bool.not_eq_true', Bool.not_eq_false', decide_eq_true_eq, decide_eq_false_iff_not, Bool.and_eq_true, Bool.or_eq_true, Int.not_lt, Int.not_le, Nat.not_lt, Nat.not_le] at h))
          | omega | decide)
        all_goals (have hA0 : a0 r r.length = nI r 0 := a0_all r)
        all_goals (have hA1 : a1 r r.length = nI r 1 := a1_all r)
        all_goals (have hpu : ∀ x ∈ r, (pUint x).2 = true := fun x hx => by obtain ⟨j, hj, rfl⟩ := List.getElem_of_mem hx; exact hok j hj hj)
        · have hr : rAct (lb s) = ((0, 0, 0), false) := by
            unfold rAct
            rw [hp, hfs]
            simp only
            rw [if_neg]
            rintro ⟨_, _, he⟩
            apply h
            rw [S_inj, h0, hA0, hA1, he]
          rw [hr]; simp [go_sem]
        · rename_i hb
          have hr : rAct (lb s) = ((kOf f, nI r 0, nI r 1), true) := by
            unfold rAct
            rw [hp, hfs]
            simp only
            rw [if_pos]
            refine ⟨hl, hpu, ?_⟩
            rw [h0, hA0, hA1] at hb
            rw [h0, hA0, hA1, S_inj] at h
            exact Prod.ext h hb
          rw [hr]; simp [go_sem, h0, hA0, hA1]
        · have hr : rAct (lb s) = ((0, 0, 0), false) := by
            unfold rAct
            rw [hp, hfs]
            simp only
            rw [if_neg]
            rintro ⟨_, _, he⟩
            rw [h0, hA0, hA1, he] at h
            cases h
          rw [hr]; simp [go_sem]
      · have hlt : i < r.length := by omega
        obtain rfl | rfl : i = 0 ∨ i = 1 := by omega
        · simp only [nc0]
          repeat' (first
            | refine e_seq ?_ | refine e_block ?_ | refine e_region ?_
            | (refine g_op rfl (fun K hK => ?_); simp only [go_sem]; (first | refine hK _ ?_ | refine ⟨?_, hK _ ?_⟩ | refine ⟨?_, ?_, hK _ ?_⟩ | refine ⟨?_, ?_, ?_, hK _ ?_⟩ | refine idxK_map ?_ (hK _ ?_) | refine idxI_map ?_ (hK _ ?_) | refine idxI_map' ?_ ?_ (hK _ ?_)) <;> clear hK K)
            | (refine e_op rfl (fun K hK => ?_); simp only [go_sem]; (first | refine hK _ ?_ | refine ⟨?_, hK _ ?_⟩ | refine ⟨?_, ?_, hK _ ?_⟩ | refine ⟨?_, ?_, ?_, hK _ ?_⟩ | refine idxK_map ?_ (hK _ ?_) | refine idxI_map ?_ (hK _ ?_) | refine idxI_map' ?_ ?_ (hK _ ?_)) <;> clear hK K)
            | (refine g_op rfl (fun K hK => ?_); simp only [go_sem]; (first | refine callK_of (iParseUint_ct _) ?_); rotate_right; (try simp only [go_sem]); refine hK _ ?_; all_goals (try clear hK K))
            | (refine e_op rfl (fun K hK => ?_); simp only [go_sem]; (first | refine callK_of (iParseUint_ct _) ?_); rotate_right; (try simp only [go_sem]); refine hK _ ?_; all_goals (try clear hK K))
            | refine e_drawT mixed (by decide +kernel) rfl rfl rfl ?_
            | refine g_on rfl rfl rfl ?_ | (refine g_off rfl rfl rfl ?_; simp only [go_sem]) | (refine g_past rfl rfl rfl ?_; simp only [go_sem]) | refine e_on rfl rfl rfl ?_ | (refine e_off rfl rfl rfl ?_; simp only [go_sem]) | (refine e_past rfl rfl rfl ?_; simp only [go_sem])
            | refine g_nil ?_ | refine e_nil ?_ | refine e_blk ?_ | refine e_skip ?_ | refine e_ret ?_ | refine e_condT rfl ?_ | refine e_condF rfl ?_ | refine e_exit rfl ?_ | refine e_lp ?_
            | (refine g_guard rfl rfl rfl (fun h => ?_) (fun h => ?_) <;> (try simp only [h, go_sem]) <;> (try simp only [Bool.not_true, Bool.not_false, Bool.not_eq_true', Bool.not_eq_false', decide_eq_true_eq, decide_eq_false_iff_not, Bool.and_eq_true, Bool.or_eq_true, Int.not_lt, Int.not_le, Nat.not_lt, Nat.not_le] at h))
            | (refine e_guard rfl rfl rfl (fun h => ?_) (fun h => ?_) <;> (try simp only [h, go_sem]) <;> (try simp only [Bool.not_true, Bool.not_false, Bool.not_eq_true', Bool.not_eq_false', decide_eq_true_eq, decide_eq_false_iff_not, Bool.and_eq_true, Bool.or_eq_true, Int.not_lt, Int.not_le, Nat.not_lt, Nat.not_le] at h))
            | (refine e_cond rfl (fun h => ?_) (fun h => ?_) <;> (try simp only [h, go_sem]) <;> (try simp only [Bool.not_true, Bool.not_false, Bool.not_eq_true', Bool.not_eq_false', decide_eq_true_eq, decide_eq_false_iff_not, Bool.and_eq_true, Bool.or_eq_true, Int.not_lt, Int.not_le, Nat.not_lt, Nat.not_le] at h))
            | omega | decide)
          · rw [L_S] at h
            rw [impl_bad (l := lb s) (f := f) (r := r) (by rw [hp, hfs]) (List.getElem_mem _) h]
            simp [go_sem]
          · rw [L_S] at h
            refine ⟨1, ⟨by omega, fun j hj hji => ?_⟩, by simp only []; omega, gh_fits ?_⟩
            · obtain rfl : j = 0 := by omega
              exact h
            · constructor <;> simp [go_sem, L_S, a0, a1, i64_01, nI, hlt]
        · simp only [nc1]
          repeat' (first
            | refine e_seq ?_ | refine e_block ?_ | refine e_region ?_
            | (refine g_op rfl (fun K hK => ?_); simp only [go_sem]; (first | refine hK _ ?_ | refine ⟨?_, hK _ ?_⟩ | refine ⟨?_, ?_, hK _ ?_⟩ | refine ⟨?_, ?_, ?_, hK _ ?_⟩ | refine idxK_map ?_ (hK _ ?_) | refine idxI_map ?_ (hK _ ?_) | refine idxI_map' ?_ ?_ (hK _ ?_)) <;> clear hK K)
            | (refine e_op rfl (fun K hK => ?_); simp only [go_sem]; (first | refine hK _ ?_ | refine ⟨?_, hK _ ?_⟩ | refine ⟨?_, ?_, hK _ ?_⟩ | refine ⟨?_, ?_, ?_, hK _ ?_⟩ | refine idxK_map ?_ (hK _ ?_) | refine idxI_map ?_ (hK _ ?_) | refine idxI_map' ?_ ?_ (hK _ ?_)) <;> clear hK K)
            | (refine g_op rfl (fun K hK => ?_); simp only [go_sem]; (first | refine callK_of (iParseUint_ct _) ?_); rotate_right; (try simp only [go_sem]); refine hK _ ?_; all_goals (try clear hK K))
            | (refine e_op rfl (fun K hK => ?_); simp only [go_sem]; (first | refine callK_of (iParseUint_ct _) ?_); rotate_right; (try simp only [go_sem]); refine hK _ ?_; all_goals (try clear hK K))
            | refine e_drawT mixed (by decide +kernel) rfl rfl rfl ?_
            | refine g_on rfl rfl rfl ?_ | (refine g_off rfl rfl rfl ?_; simp only [go_sem]) | (refine g_past rfl rfl rfl ?_; simp only [go_sem]) | refine e_on rfl rfl rfl ?_ | (refine e_off rfl rfl rfl ?_; simp only [go_sem]) | (refine e_past rfl rfl rfl ?_; simp only [go_sem])
            | refine g_nil ?_ | refine e_nil ?_ | refine e_blk ?_ | refine e_skip ?_ | refine e_ret ?_ | refine e_condT rfl ?_ | refine e_condF rfl ?_ | refine e_exit rfl ?_ | refine e_lp ?_
            | (refine g_guard rfl rfl rfl (fun h => ?_) (fun h => ?_) <;> (try simp only [h, go_sem]) <;> (try simp only [Bool.not_true, Bool.not_false, Bool.not_eq_true', Bool.not_eq_false', decide_eq_true_eq, decide_eq_false_iff_not, Bool.and_eq_true, Bool.or_eq_true, Int.not_lt, Int.not_le, Nat.not_lt, Nat.not_le] at h))
            | (refine e_guard rfl rfl rfl (fun h => ?_) (fun h => ?_) <;> (try simp only [h, go_sem]) <;> (try simp only [Bool.not_true, Bool.not_false, Bool.not_eq_true', Bool.not_eq_false', decide_eq_true_eq, decide_eq_false_iff_not, Bool.and_eq_true, Bool.or_eq_true, Int.not_lt, Int.not_le, Nat.not_lt, Nat.not_le] at h))
            | (refine e_cond rfl (fun h => ?_) (fun h => ?_) <;> (try simp only [h, go_sem]) <;> (try simp only [Bool.not_true, Bool.not_false, Bool.not_eq_true', Bool.not_eq_false', decide_eq_true_eq, decide_eq_false_iff_not, Bool.and_eq_true, Bool.or_eq_true, Int.not_lt, Int.not_le, Nat.not_lt, Nat.not_le] at h))
            | omega | decide)
          · rw [L_S] at h
            rw [impl_bad (l := lb s) (f := f) (r := r) (by rw [hp, hfs]) (List.getElem_mem _) h]
            simp [go_sem]
          · rw [L_S] at h
            refine ⟨2, ⟨by omega, fun j hj hji => ?_⟩, by simp only []; omega, gh_fits ?_⟩
            · by_cases hj1 : j = 1
              · subst hj1; exact h
              · exact hok j hj (by omega)
            · constructor <;> simp [go_sem, L_S, a0, a1, i64_12, nI, hlt]
end Go.Proofs.A
