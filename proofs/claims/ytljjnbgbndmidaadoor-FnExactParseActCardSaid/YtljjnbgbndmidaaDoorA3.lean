import Derived.Test.YtljjnbgbndmidaaDoorA2
import Derived.Test.YtljjnbgbndmidaaDoorEngD
import Derived.Test.YtljjnbgbndmidaaDoorShelf
open Go Go.Eng Go.Proofs Go.Pl Go.Lib Go.RowKit
namespace Go.Proofs.A
set_option linter.unusedSimpArgs false
set_option linter.unusedVariables false
set_option maxRecDepth 100000
theorem itoa_ct (n : Int) (h : -9223372036854775808 ≤ n ∧ n ≤ 9223372036854775807) : CallsTo Tryd.prog 59 [.v (.int .i64 n)] (.v (.string (fmtI n))) :=
  lib_plain (vs := [.int .i64 n]) (by kernel_rfl) rfl fun w hg => (Tryd.strconv_Itoa n h.1 h.2 w (hg.tab (by kernel_rfl))).mono fun e w' he => ⟨he.1, by obtain ⟨k, os, rfl⟩ := he.2; exact below_grow w k os⟩
theorem cut_ct (s sep : ByteArray) (hs : s.size < 4294967281) : CallsTo Tryd.prog 48 [.v (.string s), .v (.string sep)] (.tup [.v (.string (sb (Lib.cut (lb s) (lb sep)).1)), .v (.string (sb (Lib.cut (lb s) (lb sep)).2.1)), .v (.bool (Lib.cut (lb s) (lb sep)).2.2)]) :=
  lib_plains (vs := [.string s, .string sep]) (rs := [.string _, .string _, .bool _]) (by kernel_rfl) (by simp [plain]) fun w hg => by
    obtain ⟨v, ⟨m, rfl⟩, hm⟩ := hg.cell (b := 0) (o := 0) (Φ := fun v => ∃ m, v = .int .i64 m) (fun wb hwb => by
      obtain ⟨m, hm⟩ := Tryd.laysM145.s1_3 wb hwb
      exact ⟨_, ⟨m, rfl⟩, hm⟩)
    refine (Tryd.strings_Cut s sep m w hs hm).mono ?_
    rintro e w' ⟨he, k, rfl⟩
    exact ⟨he, below_drewN w k⟩
theorem join_ct (own : Bool) (nl : Option Bool) (xs : List ByteArray) (sep : ByteArray) (hlen : (Lib.join (xs.map lb) (lb sep)).length ≤ 140737488355328) (hN : xs.length ≤ 140737488355328) :
    CallsTo Tryd.prog 20 [.sl 1 own nl (xs.map fun x => .v (.string x)), .v (.string sep)] (.v (.string (sb (Lib.join (xs.map lb) (lb sep))))) := by
  refine ⟨by kernel_rfl, fun w hg cargs ha => ?_⟩
  match cargs, ha with
  | [c, d], ha =>
    simp only [RTL] at ha
    rw [ha.2.1.str_inv]
    rcases strs_in ha.1 with ⟨rfl, rfl⟩ | ⟨b, o, cap, rfl, hcap, hb, hc⟩
    · refine (Tryd.strings_Join_none none 0 sep w).mono ?_
      rintro e w' ⟨rfl, rfl⟩
      exact ⟨_, rfl, Below.refl _ _, rr_plain rfl⟩
    · refine (Tryd.strings_Join b o cap xs sep w hc hb hN hcap hlen).mono ?_
      rintro e w' ⟨rfl, hb⟩
      exact ⟨_, rfl, hb, rr_plain rfl⟩
  | [], ha => simp [RTL] at ha
  | [_], ha => simp [RTL] at ha
  | _ :: _ :: _ :: _, ha => simp [RTL] at ha
theorem split_ct (s sep : ByteArray) (hs : s.size < 4294967281) (h1 : 1 ≤ sep.size) : CallsTo Tryd.prog 24 [.v (.string s), .v (.string sep)] (.sl 1 true (some false) ((Lib.splitB sep 0 (Lib.countB s sep) s).map fun x => .v (.string x))) := by
  refine ⟨by kernel_rfl, fun w hg cargs ha => ?_⟩
  rw [rtl_plain (vs := [.string s, .string sep]) ha]
  obtain ⟨v, ⟨m, rfl⟩, hm⟩ := hg.cell (b := 0) (o := 0) (Φ := fun v => ∃ m, v = .int .i64 m) (fun wb hwb => by
      obtain ⟨m, hm⟩ := Tryd.laysM146.s1_3 wb hwb
      exact ⟨_, ⟨m, rfl⟩, hm⟩)
  refine (Tryd.strings_Split s sep m w hs hm h1).mono ?_
  rintro e w' ⟨rfl, hw⟩
  have hl : (Lib.splitB sep 0 (Lib.countB s sep) s).length = Lib.countB s sep + 1 := splitB_all sep h1 0 _ s rfl
  have := rr_strs (w := w) (w' := w') (xs := Lib.splitB sep 0 (Lib.countB s sep) s) hw
  rw [hl] at this
  exact ⟨_, rfl, by rw [hw]; exact (Below.refl _ _).alloc (Nat.le_refl _) _, this⟩
theorem iFormatInt_ct (n : Int) (h : -9223372036854775808 ≤ n ∧ n ≤ 9223372036854775807) : CallsTo Tryd.prog 37 [.v (.int .i64 n)] (.v (.string (fmtI n))) := by
  refine calls_of_code L_ok Tryd.func37 rfl rfl (ts := [.tmp 2]) rfl (n := 5) rfl (e_start ?_)
  simp only [List.replicate, List.length_cons, List.length_nil, List.cons_append, List.nil_append]
  repeat' (first
    | refine e_seq ?_ | refine e_block ?_ | refine e_region ?_
    | (refine g_op rfl (fun K hK => ?_); simp only [go_sem]; (first | refine hK _ ?_ | refine ⟨?_, hK _ ?_⟩ | refine ⟨?_, ?_, hK _ ?_⟩ | refine ⟨?_, ?_, ?_, hK _ ?_⟩ | refine idxI_map ?_ (hK _ ?_) | refine idxI_map' ?_ ?_ (hK _ ?_)) <;> clear hK K)
    | (refine e_op rfl (fun K hK => ?_); simp only [go_sem]; (first | refine hK _ ?_ | refine ⟨?_, hK _ ?_⟩ | refine ⟨?_, ?_, hK _ ?_⟩ | refine ⟨?_, ?_, ?_, hK _ ?_⟩ | refine idxI_map ?_ (hK _ ?_) | refine idxI_map' ?_ ?_ (hK _ ?_)) <;> clear hK K)
    | (refine g_op rfl (fun K hK => ?_); simp only [go_sem]; (first | refine callK_of (itoa_ct _ ?_) ?_); rotate_right; (try simp only [go_sem]); refine hK _ ?_; all_goals (try clear hK K))
    | (refine e_op rfl (fun K hK => ?_); simp only [go_sem]; (first | refine callK_of (itoa_ct _ ?_) ?_); rotate_right; (try simp only [go_sem]); refine hK _ ?_; all_goals (try clear hK K))
    | refine e_drawT mixed (by decide +kernel) rfl rfl rfl ?_
    | refine g_on rfl rfl rfl ?_ | (refine g_off rfl rfl rfl ?_; simp only [go_sem]) | (refine g_past rfl rfl rfl ?_; simp only [go_sem]) | refine e_on rfl rfl rfl ?_ | (refine e_off rfl rfl rfl ?_; simp only [go_sem]) | (refine e_past rfl rfl rfl ?_; simp only [go_sem])
    | refine g_nil ?_ | refine e_nil ?_ | refine e_blk ?_ | refine e_skip ?_ | refine e_ret ?_ | refine e_condT rfl ?_ | refine e_condF rfl ?_ | refine e_exit rfl ?_ | refine e_lp ?_
    | (refine g_guard rfl rfl rfl (fun h => ?_) (fun h => ?_) <;> (try simp only [h, go_sem]) <;> (try simp only [Bool.not_true, Bool.not_false, Bool.not_eq_true', Bool.not_eq_false', decide_eq_true_eq, decide_eq_false_iff_not, Bool.and_eq_true, Bool.or_eq_true, Int.not_lt, Int.not_le, Nat.not_lt, Nat.not_le] at h))
    | (refine e_guard rfl rfl rfl (fun h => ?_) (fun h => ?_) <;> (try simp only [h, go_sem]) <;> (try simp only [Bool.not_true, Bool.not_false, Bool.not_eq_true', Bool.not_eq_false', decide_eq_true_eq, decide_eq_false_iff_not, Bool.and_eq_true, Bool.or_eq_true, Int.not_lt, Int.not_le, Nat.not_lt, Nat.not_le] at h))
    | (refine e_cond rfl (fun h => ?_) (fun h => ?_) <;> (try simp only [h, go_sem]) <;> (try simp only [Bool.not_true, Bool.not_false, Bool.not_eq_true', Bool.not_eq_false', decide_eq_true_eq, decide_eq_false_iff_not, Bool.and_eq_true, Bool.or_eq_true, Int.not_lt, Int.not_le, Nat.not_lt, Nat.not_le] at h))
    | omega | decide)
  all_goals simp [go_sem]
end Go.Proofs.A
