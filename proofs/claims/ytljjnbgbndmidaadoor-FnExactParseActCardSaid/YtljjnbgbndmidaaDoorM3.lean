import Derived.Test.YtljjnbgbndmidaaDoorA6
/- What ParseAct answers. -/
namespace Go.Proofs.A
open Go Go.Eng Go.Proofs Go.Pl Go.Lib
set_option linter.unusedSimpArgs false
set_option linter.unusedVariables false
set_option maxRecDepth 100000
/-- No space in it. -/
def sf (f : Bs) : Prop := ∀ c ∈ f, c ≠ 32
theorem frun_sf (l : Bs) : (∀ f ∈ (frun l).1, sf f ∧ f.length ≤ l.length) ∧ sf (frun l).2 := by
  induction l using snoc_ind with
  | h0 => simp [frun, sf]
  | h1 l c ih =>
    have hl := frun_len l
    rw [frun_snoc]
    unfold fstep
    split
    · split
      · exact ⟨fun f hf => ⟨(ih.1 f hf).1, by have := (ih.1 f hf).2; simp; omega⟩, ih.2⟩
      · refine ⟨fun f hf => ?_, by simp [sf]⟩
        rcases List.mem_append.1 hf with hf | hf
        · exact ⟨(ih.1 f hf).1, by have := (ih.1 f hf).2; simp; omega⟩
        · simp only [List.mem_singleton] at hf
          subst hf
          exact ⟨ih.2, by simp; omega⟩
    · rename_i hc
      refine ⟨fun f hf => ⟨(ih.1 f hf).1, by have := (ih.1 f hf).2; simp; omega⟩, fun x hx => ?_⟩
      rcases List.mem_append.1 hx with hx | hx
      · exact ih.2 x hx
      · simp only [List.mem_singleton] at hx
        subst hx; exact hc
theorem fields_sf {l f : Bs} (h : f ∈ fieldsOf l) : sf f ∧ f.length ≤ l.length := by
  have hr := frun_sf l
  have hl := frun_len l
  simp only [fieldsOf, flush] at h
  split at h
  · exact hr.1 f h
  · rcases List.mem_append.1 h with h | h
    · exact hr.1 f h
    · simp only [List.mem_singleton] at h
      subst h
      exact ⟨hr.2, hl⟩
theorem pFields_sf {l : Bs} {fs : List Bs} {b : Bool} (h : pFields l = (fs, b)) : ∀ f ∈ fs, sf f ∧ f.length ≤ 600 := by
  unfold pFields at h
  split at h
  · rename_i hc
    simp only [Prod.mk.injEq] at h
    obtain ⟨rfl, _⟩ := h
    exact fun f hf => ⟨(fields_sf hf).1, by have := (fields_sf hf).2; omega⟩
  · simp only [Prod.mk.injEq] at h
    obtain ⟨rfl, _⟩ := h
    simp
/-- The words behind the first, each with its space. -/
def jt (r : List Bs) : Bs := (r.map (32 :: ·)).flatten
theorem jt_nil : jt [] = [] := rfl
theorem jt_cons (x : Bs) (r : List Bs) : jt (x :: r) = 32 :: (x ++ jt r) := by simp [jt]
theorem jt_snoc (r : List Bs) (x : Bs) : jt (r ++ [x]) = jt r ++ 32 :: x := by simp [jt]
theorem jt_head (r : List Bs) : jt r = [] ∨ ∃ t, jt r = 32 :: t := by
  cases r with
  | nil => exact .inl rfl
  | cons x r => exact .inr ⟨_, jt_cons x r⟩
theorem jt_join (f : Bs) (r : List Bs) : Lib.join (f :: r) [32] = f ++ jt r := by
  rw [Lib.join_cons]; rfl
theorem split_eq : ∀ {f g : Bs} {t t' : Bs}, sf f → sf g → (t = [] ∨ ∃ x, t = 32 :: x) → (t' = [] ∨ ∃ x, t' = 32 :: x) → f ++ t = g ++ t' → f = g ∧ t = t'
  | [], [], _, _, _, _, _, _, h => ⟨rfl, by simpa using h⟩
  | [], c :: g, t, t', _, hg, ht, _, h => by
    rcases ht with rfl | ⟨x, rfl⟩
    · simp at h
    · simp only [List.nil_append, List.cons_append, List.cons.injEq] at h
      exact absurd h.1.symm (hg c (by simp))
  | c :: f, [], t, t', hf, _, _, ht, h => by
    rcases ht with rfl | ⟨x, rfl⟩
    · simp at h
    · simp only [List.nil_append, List.cons_append, List.cons.injEq] at h
      exact absurd h.1 (hf c (by simp))
  | c :: f, d :: g, t, t', hf, hg, ht, ht', h => by
    simp only [List.cons_append, List.cons.injEq] at h
    obtain ⟨rfl, h⟩ := h
    obtain ⟨h1, h2⟩ := split_eq (fun x hx => hf x (by simp [hx])) (fun x hx => hg x (by simp [hx])) ht ht' h
    exact ⟨by rw [h1], h2⟩
theorem jt_inj : ∀ {r r' : List Bs}, (∀ f ∈ r, sf f) → (∀ f ∈ r', sf f) → jt r = jt r' → r = r'
  | [], [], _, _, _ => rfl
  | [], x :: r, _, _, h => by rw [jt_nil, jt_cons] at h; cases h
  | x :: r, [], _, _, h => by rw [jt_nil, jt_cons] at h; cases h
  | x :: r, y :: r', h1, h2, h => by
    rw [jt_cons, jt_cons] at h
    simp only [List.cons.injEq, true_and] at h
    obtain ⟨e, h'⟩ := split_eq (h1 x (by simp)) (h2 y (by simp)) (jt_head r) (jt_head r') h
    rw [e, jt_inj (fun f hf => h1 f (by simp [hf])) (fun f hf => h2 f (by simp [hf])) h']

def argsOf (k a b : Int) : List Bs := ([a, b].take (nAct k)).map itoa
theorem nAct_le (k : Int) : nAct k ≤ 2 := by unfold nAct; split; omega; split <;> omega
theorem tAct_jt (k a b : Int) : tAct k a b = wAct k ++ jt (argsOf k a b) := by
  have := nAct_le k
  unfold tAct argsOf
  generalize nAct k = n at *
  match n, this with
  | 0, _ => simp [jt]
  | 1, _ => simp [jt]
  | 2, _ => simp [jt]
  | n + 3, h => omega
theorem small : ∀ n : Fin 51, pUint (itoa ((n : Nat) : Int)) = (((n : Nat) : Int), true) ∧ numL (itoa ((n : Nat) : Int)) = ((n : Nat) : Int) ∧ ∀ c ∈ itoa ((n : Nat) : Int), c ≠ 32 := by
  decide +kernel
theorem itoa_small {n : Int} (h : 0 ≤ n ∧ n ≤ 50) : pUint (itoa n) = (n, true) ∧ numL (itoa n) = n ∧ sf (itoa n) := by
  have := small ⟨n.toNat, by omega⟩
  have e : ((n.toNat : Nat) : Int) = n := by omega
  simp only [e] at this
  exact this
def kinds : List (ByteArray × Value) := [(⟨#[97, 100, 100]⟩, .int .i64 1), (⟨#[100, 114, 111, 112]⟩, .int .i64 2), (⟨#[106, 111, 105, 110]⟩, .int .i64 3), (⟨#[117, 110, 100, 111]⟩, .int .i64 4), (⟨#[99, 111, 108, 111, 114]⟩, .int .i64 5), (⟨#[115, 119, 97, 112]⟩, .int .i64 6), (⟨#[115, 116, 111, 114, 101]⟩, .int .i64 7), (⟨#[102, 101, 116, 99, 104]⟩, .int .i64 8), (⟨#[112, 97, 110, 101, 115]⟩, .int .i64 9)]
def kOf (f : Bs) : Int :=
  if f = wAct 1 then 1 else if f = wAct 2 then 2 else if f = wAct 3 then 3 else if f = wAct 4 then 4 else if f = wAct 5 then 5
  else if f = wAct 6 then 6 else if f = wAct 7 then 7 else if f = wAct 8 then 8 else if f = wAct 9 then 9 else 0
theorem kinds_look (f : Bs) : lkE (.int .i64 0) kinds (sb f) = .int .i64 (kOf f) := by
  unfold kOf kinds
  simp only [lkE, mk_S, S_inj]
  have w1 : wAct 1 = [97, 100, 100] := rfl
  have w2 : wAct 2 = [100, 114, 111, 112] := rfl
  have w3 : wAct 3 = [106, 111, 105, 110] := rfl
  have w4 : wAct 4 = [117, 110, 100, 111] := rfl
  have w5 : wAct 5 = [99, 111, 108, 111, 114] := rfl
  have w6 : wAct 6 = [115, 119, 97, 112] := rfl
  have w7 : wAct 7 = [115, 116, 111, 114, 101] := rfl
  have w8 : wAct 8 = [102, 101, 116, 99, 104] := rfl
  have w9 : wAct 9 = [112, 97, 110, 101, 115] := rfl
  rw [w1, w2, w3, w4, w5, w6, w7, w8, w9]
  by_cases e1 : f = [97, 100, 100]
  · rw [if_pos e1, if_pos e1]
  rw [if_neg e1, if_neg e1]
  by_cases e2 : f = [100, 114, 111, 112]
  · rw [if_pos e2, if_pos e2]
  rw [if_neg e2, if_neg e2]
  by_cases e3 : f = [106, 111, 105, 110]
  · rw [if_pos e3, if_pos e3]
  rw [if_neg e3, if_neg e3]
  by_cases e4 : f = [117, 110, 100, 111]
  · rw [if_pos e4, if_pos e4]
  rw [if_neg e4, if_neg e4]
  by_cases e5 : f = [99, 111, 108, 111, 114]
  · rw [if_pos e5, if_pos e5]
  rw [if_neg e5, if_neg e5]
  by_cases e6 : f = [115, 119, 97, 112]
  · rw [if_pos e6, if_pos e6]
  rw [if_neg e6, if_neg e6]
  by_cases e7 : f = [115, 116, 111, 114, 101]
  · rw [if_pos e7, if_pos e7]
  rw [if_neg e7, if_neg e7]
  by_cases e8 : f = [102, 101, 116, 99, 104]
  · rw [if_pos e8, if_pos e8]
  rw [if_neg e8, if_neg e8]
  by_cases e9 : f = [112, 97, 110, 101, 115]
  · rw [if_pos e9, if_pos e9]
  rw [if_neg e9, if_neg e9]
theorem kOf_w {k : Int} (h : 1 ≤ k ∧ k ≤ 9) : kOf (wAct k) = k := by
  have hk : k = 1 ∨ k = 2 ∨ k = 3 ∨ k = 4 ∨ k = 5 ∨ k = 6 ∨ k = 7 ∨ k = 8 ∨ k = 9 := by omega
  rcases hk with rfl | rfl | rfl | rfl | rfl | rfl | rfl | rfl | rfl <;> decide +kernel
theorem wAct_sf (k : Int) : sf (wAct k) := by
  unfold wAct sf
  repeat' split
  all_goals decide
def nI (r : List Bs) (i : Nat) : Int := match r[i]? with
  | some x => (pUint x).1
  | none => 0
def nS (r : List Bs) (i : Nat) : Int := match r[i]? with
  | some x => numL x
  | none => 0
/-- ParseAct. -/
def rAct (l : Bs) : (Int × Int × Int) × Bool := match pFields l with
  | (f :: r, true) => if r.length ≤ 2 ∧ (∀ x ∈ r, (pUint x).2 = true) ∧ fAct (kOf f) (nI r 0) (nI r 1) = (f ++ jt r, true) then ((kOf f, nI r 0, nI r 1), true) else ((0, 0, 0), false)
  | _ => ((0, 0, 0), false)
theorem numL_of {x : Bs} (h : (pUint x).2 = true) : numL x = (pUint x).1 := by
  unfold numL
  split
  · rename_i hc
    exfalso
    unfold pUint at h
    split at h
    · rename_i hp
      cases x with
      | nil => simp at hc
      | cons c x =>
        have := hp.2.1 c (by simp)
        simp only [List.head?_cons, Option.some.injEq] at hc
        rw [hc.2] at this
        simp at this
    · simp at h
  · rfl
theorem nI_nS {r : List Bs} (h : ∀ x ∈ r, (pUint x).2 = true) (i : Nat) : nI r i = nS r i := by
  unfold nI nS
  cases hx : r[i]? with
  | none => rfl
  | some x => exact (numL_of (h x (List.mem_of_getElem? hx))).symm
theorem fAct_ok {k a b : Int} {t : Bs} (h : fAct k a b = (t, true)) : actOk k a b = true ∧ tAct k a b = t := by
  unfold fAct at h
  split at h
  · rename_i h1
    simp only [Prod.mk.injEq, and_true] at h
    exact ⟨h1, h⟩
  · simp at h
theorem hit_all {l f : Bs} {r : List Bs} (hp : pFields l = (f :: r, true)) {k a b : Int} (h : fAct k a b = (f ++ jt r, true)) : (1 ≤ k ∧ k ≤ 9) ∧ kOf f = k ∧ r = argsOf k a b ∧ ∀ x ∈ r, (pUint x).2 = true := by
  obtain ⟨h1, h2⟩ := fAct_ok h
  have hr := actOk_rng h1
  have hk : 1 ≤ k ∧ k ≤ 9 := by omega
  have hs := pFields_sf hp
  have ha := itoa_small (n := a) (by omega)
  have hb := itoa_small (n := b) (by omega)
  have hargs : ∀ x ∈ argsOf k a b, x = itoa a ∨ x = itoa b := fun x hx => by
    obtain ⟨n, hn, rfl⟩ := List.mem_map.1 hx
    have := List.mem_of_mem_take hn
    simp only [List.mem_cons, List.not_mem_nil, or_false] at this
    exact this.imp (congrArg _) (congrArg _)
  rw [tAct_jt] at h2
  obtain ⟨h3, h4⟩ := split_eq (wAct_sf k) (hs f (by simp)).1 (jt_head _) (jt_head _) h2
  have h5 := jt_inj (fun x hx => (hargs x hx).elim (fun e => e ▸ ha.2.2) (fun e => e ▸ hb.2.2)) (fun x hx => (hs x (by simp [hx])).1) h4
  refine ⟨hk, by rw [← h3]; exact kOf_w hk, h5.symm, fun x hx => ?_⟩
  rw [← h5] at hx
  rcases hargs x hx with rfl | rfl
  · rw [ha.1]
  · rw [hb.1]
theorem spec_hit {l f : Bs} {r : List Bs} (hp : pFields l = (f :: r, true)) (hl : r.length ≤ 2) {k : Int} (h : fAct k (nS r 0) (nS r 1) = (f ++ jt r, true)) : rAct l = ((k, nS r 0, nS r 1), true) := by
  obtain ⟨h1, h2, h3, h4⟩ := hit_all hp h
  unfold rAct
  rw [hp]
  simp only [h2, nI_nS h4]
  rw [if_pos ⟨hl, h4, h⟩]
theorem spec_none {l f : Bs} {r : List Bs} (hp : pFields l = (f :: r, true)) (h : ∀ k : Int, 1 ≤ k ∧ k ≤ 9 → fAct k (nS r 0) (nS r 1) ≠ (f ++ jt r, true)) : rAct l = ((0, 0, 0), false) := by
  unfold rAct
  rw [hp]
  simp only
  rw [if_neg]
  rintro ⟨_, h4, h5⟩
  have := (hit_all hp h5).1
  rw [nI_nS h4, nI_nS h4] at h5
  exact h _ this h5
theorem rAct_zero {l : Bs} (h : (pFields l).2 = false ∨ (pFields l).1 = [] ∨ 3 < (pFields l).1.length) : rAct l = ((0, 0, 0), false) := by
  unfold rAct
  split
  · rename_i f r hp
    rw [hp] at h
    simp only [List.length_cons] at h
    rw [if_neg]
    rintro ⟨h1, _⟩
    simp at h
    omega
  · rfl
theorem impl_bad {l f : Bs} {r : List Bs} (hp : pFields l = (f :: r, true)) {x : Bs} (hx : x ∈ r) (h : (pUint x).2 = false) : rAct l = ((0, 0, 0), false) := by
  unfold rAct
  rw [hp]
  simp only
  rw [if_neg]
  rintro ⟨_, h4, _⟩
  have := h4 x hx
  rw [h] at this; cases this
end Go.Proofs.A
