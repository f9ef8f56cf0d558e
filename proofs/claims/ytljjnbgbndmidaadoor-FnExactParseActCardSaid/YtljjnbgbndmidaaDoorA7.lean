import Derived.Test.YtljjnbgbndmidaaDoorM3
open Go Go.Eng Go.Proofs Go.Pl Go.Lib Go.RowKit
namespace Go.Proofs.A
set_option linter.unusedSimpArgs false
set_option linter.unusedVariables false
set_option maxRecDepth 100000
@[go_sem] def rA (p : Int × Int × Int) : AV := .agg [.v (.int .i64 p.1), .v (.int .i64 p.2.1), .v (.int .i64 p.2.2)]
@[go_sem] def eN (x : Bs) : AV := .v (.int .i64 (numL x))
@[go_sem] theorem eN_own (l : List Bs) : ownC.ownL (l.map eN) ↔ True := iff_true_intro (ownL_map (fun x => show ownC (eN x) by simp only [eN, ownC]) l)
@[go_sem] theorem eN_flat (l : List Bs) : AllFlat (l.map eN) ↔ True := iff_true_intro (AllFlat_map _ _ (fun _ => rfl))
def ns (r : List Bs) : List Int := r.map numL ++ [0, 0]
theorem ns_len (r : List Bs) : (ns r).length = r.length + 2 := by simp [ns]
theorem ns_0 (r : List Bs) (h : 0 < (ns r).length) : (ns r)[0] = nS r 0 := by
  cases r <;> simp [ns, nS]
theorem ns_1 (r : List Bs) (h : 1 < (ns r).length) : (ns r)[1] = nS r 1 := by
  match r with
  | [] => simp [ns, nS]
  | [x] => simp [ns, nS]
  | x :: y :: r => simp [ns, nS]
set_option maxHeartbeats 2000000 in
theorem sParseAct_ct (s : ByteArray) : CallsTo Tryd.prog 5 [.v (.string s)] (.tup [rA (rAct (lb s)).1, .v (.bool (rAct (lb s)).2)]) := by
  have ct := sSplitFields_ct s
  rcases hp : pFields (lb s) with ⟨fs, ok⟩
  rw [hp] at ct
  simp only at ct
  by_cases hz : ok = false ∨ fs = [] ∨ 3 < fs.length
  · have hr := rAct_zero (l := lb s) (by rw [hp]; exact hz)
    rw [hr]
    refine calls_of_code L_ok Tryd.func5 rfl rfl (ts := [.cell 2 23, .tmp 3]) rfl (n := 80) rfl (e_start ?_)
    simp only [List.replicate, List.length_cons, List.length_nil, List.cons_append, List.nil_append]
    repeat' (first
      | refine e_seq ?_ | refine e_block ?_ | refine e_region ?_
      | (refine g_op rfl (fun K hK => ?_); simp only [go_sem]; (first | refine hK _ ?_ | refine ⟨?_, hK _ ?_⟩ | refine ⟨?_, ?_, hK _ ?_⟩ | refine ⟨?_, ?_, ?_, hK _ ?_⟩ | refine idxK_map ?_ (hK _ ?_) | refine idxI_map ?_ (hK _ ?_) | refine idxI_map' ?_ ?_ (hK _ ?_)) <;> clear hK K)
      | (refine e_op rfl (fun K hK => ?_); simp only [go_sem]; (first | refine hK _ ?_ | refine ⟨?_, hK _ ?_⟩ | refine ⟨?_, ?_, hK _ ?_⟩ | refine ⟨?_, ?_, ?_, hK _ ?_⟩ | refine idxK_map ?_ (hK _ ?_) | refine idxI_map ?_ (hK _ ?_) | refine idxI_map' ?_ ?_ (hK _ ?_)) <;> clear hK K)
      | (refine g_op rfl (fun K hK => ?_); simp only [go_sem]; (first | refine callK_of (ct) ?_ | refine callK_of (l01In_ct _ _ _) ?_); rotate_right; (try simp only [go_sem]); refine hK _ ?_; all_goals (try clear hK K))
      | (refine e_op rfl (fun K hK => ?_); simp only [go_sem]; (first | refine callK_of (ct) ?_ | refine callK_of (l01In_ct _ _ _) ?_); rotate_right; (try simp only [go_sem]); refine hK _ ?_; all_goals (try clear hK K))
      | refine e_drawT mixed (by decide +kernel) rfl rfl rfl ?_
      | refine g_on rfl rfl rfl ?_ | (refine g_off rfl rfl rfl ?_; simp only [go_sem]) | (refine g_past rfl rfl rfl ?_; simp only [go_sem]) | refine e_on rfl rfl rfl ?_ | (refine e_off rfl rfl rfl ?_; simp only [go_sem]) | (refine e_past rfl rfl rfl ?_; simp only [go_sem])
      | refine g_nil ?_ | refine e_nil ?_ | refine e_blk ?_ | refine e_skip ?_ | refine e_ret ?_ | refine e_condT rfl ?_ | refine e_condF rfl ?_ | refine e_exit rfl ?_ | refine e_lp ?_
      | (refine g_guard rfl rfl rfl (fun h => ?_) (fun h => ?_) <;> (try simp only [h, go_sem]) <;> (try simp only [Bool.not_true, Bool.not_false, Bool.not_eq_true', Bool.not_eq_false', decide_eq_true_eq, decide_eq_false_iff_not, Bool.and_eq_true, Bool.or_eq_true, Int.not_lt, Int.not_le, Nat.not_lt, Nat.not_le] at h))
      | (refine e_guard rfl rfl rfl (fun h => ?_) (fun h => ?_) <;> (try simp only [h, go_sem]) <;> (try simp only [Bool.not_true, Bool.not_false, Bool.not_eq_true', Bool.not_eq_false', decide_eq_true_eq, decide_eq_false_iff_not, Bool.and_eq_true, Bool.or_eq_true, Int.not_lt, Int.not_le, Nat.not_lt, Nat.not_le] at h))
      | (refine e_cond rfl (fun h => ?_) (fun h => ?_) <;> (try simp only [h, go_sem]) <;> (try simp only [Bool.not_true, Bool.not_false, Bool.not_eq_true', Bool.not_eq_false', decide_eq_true_eq, decide_eq_false_iff_not, Bool.and_eq_true, Bool.or_eq_true, Int.not_lt, Int.not_le, Nat.not_lt, Nat.not_le] at h))
      | omega | decide)
    · simp [go_sem]
    · exfalso
      simp only [within, Bool.and_eq_true, decide_eq_true_eq] at h
      rcases hz with hz | hz | hz
      · simp_all
      · simp [hz] at h
      · omega
    · exfalso
      simp only [within, Bool.and_eq_true, decide_eq_true_eq] at h
      rcases hz with hz | hz | hz
      · simp_all
      · simp [hz] at h
      · omega
    · simp [go_sem]
  · have hok : ok = true := by cases ok <;> simp_all
    subst hok
    obtain ⟨f, r, hfs⟩ : ∃ f r, fs = f :: r := by
      cases fs with
      | nil => simp at hz
      | cons f r => exact ⟨f, r, rfl⟩
    have hlen : fs.length = r.length + 1 := by rw [hfs]; rfl
    have hl : r.length ≤ 2 := by simp only [hlen] at hz; omega
    have hs := pFields_sf hp
    have hfl : f.length ≤ 600 := (hs f (by rw [hfs]; simp)).2
    have hget : ∀ (i : Nat) (h : i + 1 < fs.length) (h' : i < r.length), fs[i + 1] = r[i] := fun i h h' => by simp only [hfs, List.getElem_cons_succ]
    have hrl : ∀ (i : Nat) (h : i < r.length), (r[i]).length ≤ 600 := fun i h => (hs r[i] (by rw [hfs]; simp)).2
    have hjl : ∀ i, (jt (r.take i)).length ≤ 1202 := fun i => by
      have h1 : ∀ x ∈ r, x.length ≤ 600 := fun x hx => (hs x (by rw [hfs]; simp [hx])).2
      match r, hl, h1 with
      | [], _, _ => simp [jt]
      | [x], _, h1 =>
        have := h1 x (by simp)
        rcases i with _ | i <;> simp [jt] <;> omega
      | [x, y], _, h1 =>
        have h2 := h1 x (by simp)
        have h3 := h1 y (by simp)
        rcases i with _ | _ | i <;> simp [jt] <;> omega
    have h0 : fs[0]'(by omega) = f := by simp [hfs]
    refine calls_of_code L_ok Tryd.func5 rfl rfl (ts := [.cell 2 23, .tmp 3]) rfl (n := 80) rfl (e_start ?_)
    simp only [List.replicate, List.length_cons, List.length_nil, List.cons_append, List.nil_append]
    repeat' (first
      | refine e_seq ?_ | refine e_block ?_ | refine e_region ?_
      | (refine g_op rfl (fun K hK => ?_); simp only [go_sem]; (first | refine hK _ ?_ | refine ⟨?_, hK _ ?_⟩ | refine ⟨?_, ?_, hK _ ?_⟩ | refine ⟨?_, ?_, ?_, hK _ ?_⟩ | refine idxK_map ?_ (hK _ ?_) | refine idxI_map ?_ (hK _ ?_) | refine idxI_map' ?_ ?_ (hK _ ?_)) <;> clear hK K)
      | (refine e_op rfl (fun K hK => ?_); simp only [go_sem]; (first | refine hK _ ?_ | refine ⟨?_, hK _ ?_⟩ | refine ⟨?_, ?_, hK _ ?_⟩ | refine ⟨?_, ?_, ?_, hK _ ?_⟩ | refine idxK_map ?_ (hK _ ?_) | refine idxI_map ?_ (hK _ ?_) | refine idxI_map' ?_ ?_ (hK _ ?_)) <;> clear hK K)
      | (refine g_op rfl (fun K hK => ?_); simp only [go_sem]; (first | refine callK_of (ct) ?_ | refine callK_of (l01In_ct _ _ _) ?_); rotate_right; (try simp only [go_sem]); refine hK _ ?_; all_goals (try clear hK K))
      | (refine e_op rfl (fun K hK => ?_); simp only [go_sem]; (first | refine callK_of (ct) ?_ | refine callK_of (l01In_ct _ _ _) ?_); rotate_right; (try simp only [go_sem]); refine hK _ ?_; all_goals (try clear hK K))
      | refine e_drawT mixed (by decide +kernel) rfl rfl rfl ?_
      | refine g_on rfl rfl rfl ?_ | (refine g_off rfl rfl rfl ?_; simp only [go_sem]) | (refine g_past rfl rfl rfl ?_; simp only [go_sem]) | refine e_on rfl rfl rfl ?_ | (refine e_off rfl rfl rfl ?_; simp only [go_sem]) | (refine e_past rfl rfl rfl ?_; simp only [go_sem])
      | refine g_nil ?_ | refine e_nil ?_ | refine e_blk ?_ | refine e_skip ?_ | refine e_ret ?_ | refine e_condT rfl ?_ | refine e_condF rfl ?_ | refine e_exit rfl ?_ | refine e_lp ?_
      | (refine g_guard rfl rfl rfl (fun h => ?_) (fun h => ?_) <;> (try simp only [h, go_sem]) <;> (try simp only [Bool.not_true, Bool.not_false, Bool.not_eq_true', Bool.not_eq_false', decide_eq_true_eq, decide_eq_false_iff_not, Bool.and_eq_true, Bool.or_eq_true, Int.not_lt, Int.not_le, Nat.not_lt, Nat.not_le] at h))
      | (refine e_guard rfl rfl rfl (fun h => ?_) (fun h => ?_) <;> (try simp only [h, go_sem]) <;> (try simp only [Bool.not_true, Bool.not_false, Bool.not_eq_true', Bool.not_eq_false', decide_eq_true_eq, decide_eq_false_iff_not, Bool.and_eq_true, Bool.or_eq_true, Int.not_lt, Int.not_le, Nat.not_lt, Nat.not_le] at h))
      | (refine e_cond rfl (fun h => ?_) (fun h => ?_) <;> (try simp only [h, go_sem]) <;> (try simp only [Bool.not_true, Bool.not_false, Bool.not_eq_true', Bool.not_eq_false', decide_eq_true_eq, decide_eq_false_iff_not, Bool.and_eq_true, Bool.or_eq_true, Int.not_lt, Int.not_le, Nat.not_lt, Nat.not_le] at h))
      | omega | decide)
    · exfalso
      have : within (fs.length : Int) 1 3 = true := by simp [within]; omega
      rw [this] at h; cases h
    · rw [h0]
      refine e_loop (fun i : Nat => i ≤ r.length) (fun i => ⟨fr 80 [(2, .ptr 2 0 0), (4, .sl 1 true none (fs.map eS)), (6, .v (.string (sb (f ++ jt (r.take i))))), (7, .row 51), (8, .v (.int .i64 (i + 1 : Nat)))], [(2, ⟨3, true, none, [rA (0, 0, 0)]⟩), (51, ⟨1, false, none, (r.take i).map eN⟩)]⟩) (fun i => r.length - i) 0 (by simp) ?_ ?_
      · refine Gh.ren 30 51 _ rfl rfl rfl (gh_fits ?_)
        constructor <;> simp [go_sem, jt]
      · intro i hi
        simp only [go_sem]
        have hsz := hjl i
        have hsz' := hjl (i + 1)
        have e3 := isucc (i + 1) (by omega)
        repeat' (first
          | refine e_seq ?_ | refine e_block ?_ | refine e_region ?_
          | (refine g_op rfl (fun K hK => ?_); simp only [go_sem]; (first | refine hK _ ?_ | refine ⟨?_, hK _ ?_⟩ | refine ⟨?_, ?_, hK _ ?_⟩ | refine ⟨?_, ?_, ?_, hK _ ?_⟩ | refine idxK_map ?_ (hK _ ?_) | refine idxI_map ?_ (hK _ ?_) | refine idxI_map' ?_ ?_ (hK _ ?_)) <;> clear hK K)
          | (refine e_op rfl (fun K hK => ?_); simp only [go_sem]; (first | refine hK _ ?_ | refine ⟨?_, hK _ ?_⟩ | refine ⟨?_, ?_, hK _ ?_⟩ | refine ⟨?_, ?_, ?_, hK _ ?_⟩ | refine idxK_map ?_ (hK _ ?_) | refine idxI_map ?_ (hK _ ?_) | refine idxI_map' ?_ ?_ (hK _ ?_)) <;> clear hK K)
          | (refine g_op rfl (fun K hK => ?_); simp only [go_sem]; (first | refine callK_of (l40Number_ct _) ?_); rotate_right; (try simp only [go_sem]); refine hK _ ?_; all_goals (try clear hK K))
          | (refine e_op rfl (fun K hK => ?_); simp only [go_sem]; (first | refine callK_of (l40Number_ct _) ?_); rotate_right; (try simp only [go_sem]); refine hK _ ?_; all_goals (try clear hK K))
          | refine e_drawT mixed (by decide +kernel) rfl rfl rfl ?_
          | refine g_on rfl rfl rfl ?_ | (refine g_off rfl rfl rfl ?_; simp only [go_sem]) | (refine g_past rfl rfl rfl ?_; simp only [go_sem]) | refine e_on rfl rfl rfl ?_ | (refine e_off rfl rfl rfl ?_; simp only [go_sem]) | (refine e_past rfl rfl rfl ?_; simp only [go_sem])
          | refine g_nil ?_ | refine e_nil ?_ | refine e_blk ?_ | refine e_skip ?_ | refine e_ret ?_ | refine e_condT rfl ?_ | refine e_condF rfl ?_ | refine e_exit rfl ?_ | refine e_lp ?_
          | (refine g_guard rfl rfl rfl (fun h => ?_) (fun h => ?_) <;> (try simp only [h, go_sem]) <;> (try simp only [Bool.not_true, Bool.not_false, Bool.not_eq_true', Bool.not_eq_false', decide_eq_true_eq, decide_eq_false_iff_not, Bool.and_eq_true, Bool.or_eq_true, Int.not_lt, Int.not_le, Nat.not_lt, Nat.not_le] at h))
          | (refine e_guard rfl rfl rfl (fun h => ?_) (fun h => ?_) <;> (try simp only [h, go_sem]) <;> (try simp only [Bool.not_true, Bool.not_false, Bool.not_eq_true', Bool.not_eq_false', decide_eq_true_eq, decide_eq_false_iff_not, Bool.and_eq_true, Bool.or_eq_true, Int.not_lt, Int.not_le, Nat.not_lt, Nat.not_le] at h))
          | (refine e_cond rfl (fun h => ?_) (fun h => ?_) <;> (try simp only [h, go_sem]) <;> (try simp only [Bool.not_true, Bool.not_false, Bool.not_eq_true', Bool.not_eq_false', decide_eq_true_eq, decide_eq_false_iff_not, Bool.and_eq_true, Bool.or_eq_true, Int.not_lt, Int.not_le, Nat.not_lt, Nat.not_le] at h))
          | omega | decide)
        · simp only [size_S, List.length_append, List.size_toArray, List.length_cons, List.length_nil]; omega
        · have := hrl i (by omega)
          simp only [size_S, List.length_append, List.size_toArray, List.length_cons, List.length_nil, hget i (by omega) (by omega)]; omega
        · simp only [List.length_take]; omega
        · have hi' : i < r.length := by omega
          refine ⟨i + 1, by simp only []; omega, by simp only []; omega, gh_fits ?_⟩
          have hT : sb (f ++ jt (r.take i)) ++ { data := #[32] } ++ sb r[i] = sb (f ++ jt (r.take (i + 1))) := by
            rw [List.take_succ_eq_append_getElem hi', jt_snoc]; simp [mk_S, S_append]
          have hN : (r.take (i + 1)).map eN = (r.take i).map eN ++ [.v (.int .i64 (numL r[i]))] := by
            rw [List.take_succ_eq_append_getElem hi', List.map_append]; rfl
          constructor <;> simp only [go_sem, e3, hget i (by omega) hi', hT, hN, L_S]
          all_goals simp [go_sem]
        · simp only [List.length_take]; omega
        · have hie : i = r.length := by omega
          subst hie
          rw [List.take_length]
          refine e_loop (fun k : Nat => 1 ≤ k ∧ k ≤ 10 ∧ ∀ j : Int, 1 ≤ j ∧ j < k → fAct j (nS r 0) (nS r 1) ≠ (f ++ jt r, true)) (fun k => ⟨fr 80 [(2, .ptr 2 0 0), (6, .v (.string (sb (f ++ jt r)))), (7, .row 54), (9, .v (.int .i64 k))], [(2, ⟨3, true, none, [rA (0, 0, 0)]⟩), (54, ⟨1, false, none, (ns r).map fun x => .v (.int .i64 x)⟩)]⟩) (fun k => 10 - k) 1 ⟨by omega, by omega, fun j hj => by omega⟩ ?_ ?_
          · refine gh_fits ?_
            constructor <;> simp [go_sem, ns, eN]
          · rintro k ⟨hk1, hk2, hno⟩
            simp only [go_sem]
            have e3 := isucc k (by omega)
            have hn2 := ns_len r
            have hn0 : (ns r)[0]'(by omega) = nS r 0 := ns_0 r _
            have hn1 : (ns r)[1]'(by omega) = nS r 1 := ns_1 r _
            repeat' (first
              | refine e_seq ?_ | refine e_block ?_ | refine e_region ?_
              | (refine g_op rfl (fun K hK => ?_); simp only [go_sem]; (first | refine hK _ ?_ | refine ⟨?_, hK _ ?_⟩ | refine ⟨?_, ?_, hK _ ?_⟩ | refine ⟨?_, ?_, ?_, hK _ ?_⟩ | refine idxK_map ?_ (hK _ ?_) | refine idxI_map ?_ (hK _ ?_) | refine idxI_map' ?_ ?_ (hK _ ?_)) <;> clear hK K)
              | (refine e_op rfl (fun K hK => ?_); simp only [go_sem]; (first | refine hK _ ?_ | refine ⟨?_, hK _ ?_⟩ | refine ⟨?_, ?_, hK _ ?_⟩ | refine ⟨?_, ?_, ?_, hK _ ?_⟩ | refine idxK_map ?_ (hK _ ?_) | refine idxI_map ?_ (hK _ ?_) | refine idxI_map' ?_ ?_ (hK _ ?_)) <;> clear hK K)
              | (refine g_op rfl (fun K hK => ?_); simp only [go_sem]; (first | refine callK_of (sFormatAct_ct _ _ _) ?_); rotate_right; (try simp only [go_sem]); refine hK _ ?_; all_goals (try clear hK K))
              | (refine e_op rfl (fun K hK => ?_); simp only [go_sem]; (first | refine callK_of (sFormatAct_ct _ _ _) ?_); rotate_right; (try simp only [go_sem]); refine hK _ ?_; all_goals (try clear hK K))
              | refine e_drawT mixed (by decide +kernel) rfl rfl rfl ?_
              | refine g_on rfl rfl rfl ?_ | (refine g_off rfl rfl rfl ?_; simp only [go_sem]) | (refine g_past rfl rfl rfl ?_; simp only [go_sem]) | refine e_on rfl rfl rfl ?_ | (refine e_off rfl rfl rfl ?_; simp only [go_sem]) | (refine e_past rfl rfl rfl ?_; simp only [go_sem])
              | refine g_nil ?_ | refine e_nil ?_ | refine e_blk ?_ | refine e_skip ?_ | refine e_ret ?_ | refine e_condT rfl ?_ | refine e_condF rfl ?_ | refine e_exit rfl ?_ | refine e_lp ?_
              | (refine g_guard rfl rfl rfl (fun h => ?_) (fun h => ?_) <;> (try simp only [h, go_sem]) <;> (try simp only [Bool.not_true, Bool.not_false, Bool.not_eq_true', Bool.not_eq_false', decide_eq_true_eq, decide_eq_false_iff_not, Bool.and_eq_true, Bool.or_eq_true, Int.not_lt, Int.not_le, Nat.not_lt, Nat.not_le] at h))
              | (refine e_guard rfl rfl rfl (fun h => ?_) (fun h => ?_) <;> (try simp only [h, go_sem]) <;> (try simp only [Bool.not_true, Bool.not_false, Bool.not_eq_true', Bool.not_eq_false', decide_eq_true_eq, decide_eq_false_iff_not, Bool.and_eq_true, Bool.or_eq_true, Int.not_lt, Int.not_le, Nat.not_lt, Nat.not_le] at h))
              | (refine e_cond rfl (fun h => ?_) (fun h => ?_) <;> (try simp only [h, go_sem]) <;> (try simp only [Bool.not_true, Bool.not_false, Bool.not_eq_true', Bool.not_eq_false', decide_eq_true_eq, decide_eq_false_iff_not, Bool.and_eq_true, Bool.or_eq_true, Int.not_lt, Int.not_le, Nat.not_lt, Nat.not_le] at h))
              | omega | decide)
            · rename_i hb
              simp only [hn0, hn1, S_inj] at hb h ⊢
              have hf : fAct k (nS r 0) (nS r 1) = (f ++ jt r, true) := Prod.ext h hb
              rw [spec_hit (l := lb s) (by rw [hp, hfs]) hl hf]
              simp [go_sem]
            · rename_i hb _
              simp only [hn0, hn1, S_inj] at hb h ⊢
              refine ⟨k + 1, ⟨by omega, by omega, fun j hj => ?_⟩, by simp only []; omega, gh_fits ?_⟩
              · by_cases hjk : j < k
                · exact hno j ⟨hj.1, hjk⟩
                · have : j = k := by omega
                  subst this
                  intro he
                  exact h (by rw [he])
              · constructor <;> simp [go_sem, e3]
            · rename_i hb
              simp only [hn0, hn1] at h ⊢
              refine ⟨k + 1, ⟨by omega, by omega, fun j hj => ?_⟩, by simp only []; omega, gh_fits ?_⟩
              · by_cases hjk : j < k
                · exact hno j ⟨hj.1, hjk⟩
                · have : j = k := by omega
                  subst this
                  intro he
                  rw [he] at h; cases h
              · constructor <;> simp [go_sem, e3]
            · rw [spec_none (l := lb s) (f := f) (r := r) (by rw [hp, hfs]) (fun j hj => hno j ⟨hj.1, by omega⟩)]
              simp [go_sem]
theorem eqAct_ct (p q : Int × Int × Int) : CallsTo Tryd.prog 7 [rA p, rA q] (.v (.bool (decide (p = q)))) := by
  obtain ⟨a, b, c⟩ := p
  obtain ⟨a', b', c'⟩ := q
  simp only [rA]
  refine calls_of_code L_ok Tryd.func7 rfl rfl (ts := [.tmp 4]) rfl (n := 20) rfl (e_start ?_)
  simp only [List.replicate, List.length_cons, List.length_nil, List.cons_append, List.nil_append]
  repeat' (first
    | refine e_seq ?_ | refine e_block ?_ | refine e_region ?_
    | (refine g_op rfl (fun K hK => ?_); simp only [go_sem]; (first | refine hK _ ?_ | refine ⟨?_, hK _ ?_⟩ | refine ⟨?_, ?_, hK _ ?_⟩ | refine ⟨?_, ?_, ?_, hK _ ?_⟩ | refine idxK_map ?_ (hK _ ?_) | refine idxI_map ?_ (hK _ ?_) | refine idxI_map' ?_ ?_ (hK _ ?_)) <;> clear hK K)
    | (refine e_op rfl (fun K hK => ?_); simp only [go_sem]; (first | refine hK _ ?_ | refine ⟨?_, hK _ ?_⟩ | refine ⟨?_, ?_, hK _ ?_⟩ | refine ⟨?_, ?_, ?_, hK _ ?_⟩ | refine idxK_map ?_ (hK _ ?_) | refine idxI_map ?_ (hK _ ?_) | refine idxI_map' ?_ ?_ (hK _ ?_)) <;> clear hK K)
    | refine e_drawT mixed (by decide +kernel) rfl rfl rfl ?_
    | refine g_on rfl rfl rfl ?_ | (refine g_off rfl rfl rfl ?_; simp only [go_sem]) | (refine g_past rfl rfl rfl ?_; simp only [go_sem]) | refine e_on rfl rfl rfl ?_ | (refine e_off rfl rfl rfl ?_; simp only [go_sem]) | (refine e_past rfl rfl rfl ?_; simp only [go_sem])
    | refine g_nil ?_ | refine e_nil ?_ | refine e_blk ?_ | refine e_skip ?_ | refine e_ret ?_ | refine e_condT rfl ?_ | refine e_condF rfl ?_ | refine e_exit rfl ?_ | refine e_lp ?_
    | (refine g_guard rfl rfl rfl (fun h => ?_) (fun h => ?_) <;> (try simp only [h, go_sem]) <;> (try simp only [Bool.not_true, Bool.not_false, Bool.not_eq_true', Bool.not_eq_false', decide_eq_true_eq, decide_eq_false_iff_not, Bool.and_eq_true, Bool.or_eq_true, Int.not_lt, Int.not_le, Nat.not_lt, Nat.not_le] at h))
    | (refine e_guard rfl rfl rfl (fun h => ?_) (fun h => ?_) <;> (try simp only [h, go_sem]) <;> (try simp only [Bool.not_true, Bool.not_false, Bool.not_eq_true', Bool.not_eq_false', decide_eq_true_eq, decide_eq_false_iff_not, Bool.and_eq_true, Bool.or_eq_true, Int.not_lt, Int.not_le, Nat.not_lt, Nat.not_le] at h))
    | (refine e_cond rfl (fun h => ?_) (fun h => ?_) <;> (try simp only [h, go_sem]) <;> (try simp only [Bool.not_true, Bool.not_false, Bool.not_eq_true', Bool.not_eq_false', decide_eq_true_eq, decide_eq_false_iff_not, Bool.and_eq_true, Bool.or_eq_true, Int.not_lt, Int.not_le, Nat.not_lt, Nat.not_le] at h))
    | omega | decide)
  all_goals (simp [go_sem]; simp_all)
end Go.Proofs.A
