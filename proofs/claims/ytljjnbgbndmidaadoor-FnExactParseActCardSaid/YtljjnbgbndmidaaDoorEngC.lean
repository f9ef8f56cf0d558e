import Derived.Test.YtljjnbgbndmidaaDoorEngB
import Derived.Lib.LaidTab
import Derived.Lib.ItoaNum
/- Regions, code, calls. -/
namespace Go.Eng
open Go.RowKit
set_option linter.unusedSimpArgs false
set_option linter.unusedVariables false
set_option linter.unusedSectionVars false

/-- The environment of nothing but a world: no objects, nothing owned. -/
def E0 (w : World) : Env := ⟨w, fun _ => [], fun _ => none, []⟩

/-- A result's cell k of part m. -/
def RRc (w : World) (lab : Nat → List Nat) (m : Nat) : Nat → List AV → List Value → Prop
  | _, [], [] => True
  | k, x :: xs, c :: cs => C0 w lab true [k, m] x c ∧ RRc w lab m (k + 1) xs cs
  | _, [], _ :: _ => False
  | _, _ :: _, [] => False
def RRv (w : World) (lab : Nat → List Nat) (m : Nat) (r : AV) (v : Value) : Prop := match r with
  | .agg xs => ∃ cs : List Value, v = .agg cs.toArray ∧ RRc w lab m 0 xs cs
  | x => C0 w lab true [0, m] x v
def RRt (w : World) (lab : Nat → List Nat) : Nat → List AV → List Value → Prop
  | _, [], [] => True
  | m, x :: xs, c :: cs => RRv w lab m x c ∧ RRt w lab (m + 1) xs cs
  | _, [], _ :: _ => False
  | _, _ :: _, [] => False
/-- What a call gives back: memory that is new, each slice that is marked as owned in a block of its own. -/
def RR (w w' : World) (r : AV) (v : Value) : Prop := ∃ lab : Nat → List Nat, (∀ b, b < w.heap.size → lab b = [0]) ∧
  (∀ b, w.heap.size ≤ b → lab b ≠ [] → b < w'.heap.size ∧ 2 ≤ (lab b).length) ∧ match r with
    | .tup xs => ∃ vs : List Value, v = .tuple vs.toArray ∧ RRt w' lab 0 xs vs
    | x => RRv w' lab 0 x v

/-- All functions of the program that are called by the machine have a body. -/
def callOk (P : Program) (f : FuncId) : Bool := match P.funcs[f]? with
  | some fn => !(fn.name == "runtime.NumGoroutine") && fn.body.isSome
  | none => false

/-- What is asked of the world in which all begins: package-level variables of the library. -/
def BaseW (P : Program) (wb : World) : Prop := wb.ShapedOpen P ∧ ((P.globalNamed "internal/strconv.uint64pow10").isSome = true → Lib.TabIs P wb "internal/strconv.uint64pow10" .u64 Lib.pow10Tab)
/-- A world that goes on from such a one. -/
def GoodW (P : Program) (w : World) : Prop := ∃ wb : World, BaseW P wb ∧ wb.heap.size ≤ w.heap.size ∧ ∀ k, k < wb.heap.size → w.heap[k]? = wb.heap[k]?
theorem GoodW.below {P : Program} {w w' : World} (h : GoodW P w) (hb : Below w.heap.size w w') : GoodW P w' := by
  obtain ⟨wb, h1, h2, h3⟩ := h
  exact ⟨wb, h1, Nat.le_trans h2 hb.size, fun k hk => (hb.block k (by omega)).trans (h3 k hk)⟩

/-- THE CONTRACT: called with values that read as args the function returns what reads as r, in new memory; what was there is as it was. -/
def CallsTo (P : Program) (f : FuncId) (args : List AV) (r : AV) : Prop :=
  callOk P f = true ∧ ∀ (w : World), GoodW P w → ∀ (cargs : List Value), RTL (E0 w) args cargs → Calls P f cargs.toArray w fun e w' => ∃ v, e = .returned v ∧ Below w.heap.size w w' ∧ RR w w' r v

@[irreducible] def callK (P : Program) (f : FuncId) (args : List AV) (k : AV → Prop) : Prop := ∃ r, CallsTo P f args r ∧ k r
theorem callK_of {P : Program} {f : FuncId} {args : List AV} {k : AV → Prop} {r : AV} (h : CallsTo P f args r) (hk : k r) : callK P f args k := by
  unfold callK; exact ⟨r, h, hk⟩

theorem RRc.lend {w : World} {lab : Nat → List Nat} {m : Nat} {E : Env} (hE : ∀ (π : List Nat) (x : AV) (c : Value), C0 w lab true π x c → RT E x c) : ∀ {k : Nat} {xs : List AV} {cs : List Value}, RRc w lab m k xs cs → RTL E xs cs ∧ ∀ u ∈ cs, u.oneCell' = true
  | _, [], [], _ => ⟨by simp [RTL], by simp⟩
  | k, x :: xs, c :: cs, h => by
    simp only [RRc] at h
    obtain ⟨g1, g2⟩ := RRc.lend hE h.2
    exact ⟨by simp only [RTL]; exact ⟨hE _ _ _ h.1, g1⟩, fun u hu => by rcases List.mem_cons.1 hu with rfl | hu; · exact h.1.one
                                                                        · exact g2 u hu⟩
  | _, [], _ :: _, h => by simp [RRc] at h
  | _, _ :: _, [], h => by simp [RRc] at h

theorem RRv.lend {w : World} {lab : Nat → List Nat} {m : Nat} {E : Env} (hE : ∀ (π : List Nat) (x : AV) (c : Value), C0 w lab true π x c → RT E x c) {x : AV} {v : Value} (h : RRv w lab m x v) : RT E x v := by
  unfold RRv at h
  split at h
  · obtain ⟨cs, h1, h2⟩ := h
    obtain ⟨g1, g2⟩ := RRc.lend hE h2
    simp only [RT]; exact ⟨cs, h1, g1, g2⟩
  · exact hE _ _ _ h
theorem RRt.lend {w : World} {lab : Nat → List Nat} {E : Env} (hE : ∀ (π : List Nat) (x : AV) (c : Value), C0 w lab true π x c → RT E x c) : ∀ {m : Nat} {xs : List AV} {cs : List Value}, RRt w lab m xs cs → RTL E xs cs
  | _, [], [], _ => by simp [RTL]
  | m, x :: xs, c :: cs, h => by
    simp only [RRt] at h
    simp only [RTL]
    exact ⟨h.1.lend hE, RRt.lend hE h.2⟩
  | _, [], _ :: _, h => by simp [RRt] at h
  | _, _ :: _, [], h => by simp [RRt] at h

/-- What a call gave back, read without its ownership. -/
theorem RR.lend {E : Env} {w' : World} {r : AV} {v : Value} (hb : Below E.w.heap.size E.w w') (hlt : ∀ b, E.lab b ≠ [] → b < E.w.heap.size) (h : RR E.w w' r v) : RT { E with w := w' } r v := by
  obtain ⟨lab, h1, h2, h3⟩ := h
  have hE : ∀ (π : List Nat) (x : AV) (c : Value), C0 w' lab true π x c → RT { E with w := w' } x c := fun π x c hc => by
    have : C0 w' E.lab false [] x c := hc.move (Nat.le_refl _) (fun _ _ _ => rfl) (fun b hb' hr => ?_) (by simp)
    · exact C0.rt (E := { E with w := w' }) this
    · rintro ⟨o, ho⟩
      have hlt' := hlt b (by rw [ho]; simp)
      exact hr ⟨0, h1 b hlt'⟩
  split at h3
  · obtain ⟨vs, g1, g2⟩ := h3
    simp only [RT]
    exact ⟨vs, g1, RRt.lend hE g2⟩
  · exact h3.lend hE

theorem C0.to0 {w : World} {lab : Nat → List Nat} {chk : Bool} {π : List Nat} {x : AV} {c : Value} (h : C0 w lab chk π x c) : C0 w (fun _ => []) false [] x c :=
  h.move (Nat.le_refl _) (fun _ _ _ => rfl) (fun _ _ _ => by rintro ⟨o, ho⟩; cases ho) (by simp)

theorem slice_to0 {E : Env} {o : Nat} {ob : Ob} (hbox : ob.box = false) {b : Nat} {arr : Array Value} {e : TypeId} (h4 : E.w.heap[b]? = some (.cells arr e (0, 0)))
    (h7 : ∀ (i : Nat) (x : AV), ob.els[i]? = some x → (cellsOf x).length = ob.esz ∧ ∀ (j : Nat) (y : AV), (cellsOf x)[j]? = some y → ∃ c, arr[i * ob.esz + j]? = some c ∧ RC E ob.box [i, j, o] y c)
    (lo n f cap' : Nat) (hn : lo + n ≤ ob.els.length) (hf : f = lo * ob.esz ∨ n = 0) (hcap : ob.esz = 0 ∨ n ≤ cap') (own : Bool) (nl : Option Bool) (hnl : nl ≠ some true) :
    C0 E.w (fun _ => []) false [] (.sl ob.esz own nl ((ob.els.drop lo).take n)) (.slice (some ⟨b, f, none⟩) n cap') := by
  have hbs : b < E.w.heap.size := (Array.getElem?_eq_some_iff.1 h4).1
  have hget : ∀ (i : Nat) (x : AV), ((ob.els.drop lo).take n)[i]? = some x → i < n ∧ ob.els[lo + i]? = some x := fun i x hx => by
    have hi : i < n := by
      rcases Nat.lt_or_ge i n with h | h
      · exact h
      · simp [List.getElem?_take, Nat.not_lt.2 h] at hx
    rw [List.getElem?_take, if_pos hi, List.getElem?_drop] at hx
    exact ⟨hi, hx⟩
  refine .sl (fun i j => arr.getD ((lo + i) * ob.esz + j) undef) hnl (by simp; omega) hcap (by rintro ⟨_, h⟩; cases h) hbs (fun i x hx => (h7 _ x (hget i x hx).2).1) (fun i x j y hx hy => ?_) (fun i x j y hx hy => ?_) (by simp)
  · obtain ⟨hi, hx'⟩ := hget i x hx
    obtain ⟨c, k1, k2⟩ := (h7 _ x hx').2 j y hy
    have hf' : f = lo * ob.esz := by rcases hf with h | h; · exact h
                                     · omega
    rw [Array.getD_eq_getD_getElem?, k1, hf', ← Nat.add_mul]
    simp [World.cell?, h4, k1]
  · obtain ⟨hi, hx'⟩ := hget i x hx
    obtain ⟨c, k1, k2⟩ := (h7 _ x hx').2 j y hy
    rw [Array.getD_eq_getD_getElem?, k1]
    rw [hbox] at k2
    simp only [RC, cond_false] at k2
    simp only [Option.getD_some, Bool.false_and]
    exact k2.move (Nat.le_refl _) (fun _ _ _ => rfl) (fun _ _ _ => by rintro ⟨o, ho⟩; cases ho) (by simp)

mutual
/-- Arguments as the callee sees them: no reference, nothing owned. -/
theorem RT.to0 {E : Env} (hobj : ∀ o ob, getO E.objs o = some ob → RO E o ob) : ∀ {x : AV} {c : Value}, RT E x c → RT (E0 E.w) (view (getO E.objs) x) c
  | .v u, c, h => by
    have : view (getO E.objs) (.v u) = .v u := by unfold view; split <;> simp_all
    rw [this]
    simp only [RT] at *
    exact h.to0
  | .sl _ _ _ _, c, h => by simp only [RT, view] at *; exact h.to0
  | .agg xs, c, h => by
    simp only [RT, view] at *
    obtain ⟨cs, h1, h2, h3⟩ := h
    exact ⟨cs, h1, RTL.to0 hobj h2, h3⟩
  | .row o, c, h => by
    simp only [RT] at h
    cases h1 : getO E.objs o with
    | none => simp [view, h1, RT]
    | some ob =>
    obtain ⟨h2, h3⟩ := h.2 ob h1
    simp only [view, h1, RT]
    have hr := hobj o ob h1
    rcases h3 with ⟨h3, h4⟩ | ⟨b, cap, h3, h4, h5⟩
    · rcases hr with ⟨k1, k2, k3, k4⟩ | ⟨b, _, _, _, k1, _⟩
      · rw [k3, h4]; exact .nil k4
      · rw [k1] at h3; cases h3
    · rcases hr with ⟨k1, _⟩ | ⟨b', cap', arr, e, k1, k2, k3, k4, k5, k6, k7⟩
      · rw [k1] at h3; cases h3
      · rw [k1] at h3; cases h3
        have hcp : ob.esz = 0 ∨ ob.els.length ≤ cap := by
          rcases Nat.eq_zero_or_pos ob.esz with hz | hz
          · exact .inl hz
          · right
            obtain ⟨arr', e', m1, m2⟩ := h4
            rw [k4] at m1; cases m1
            rw [k5] at m2
            have := Nat.eq_of_mul_eq_mul_right hz m2
            omega
        have := slice_to0 h2 k4 k7 0 ob.els.length 0 cap (by omega) (by simp) hcp true ob.nl k3
        rw [h5]
        simp only [List.drop_zero, List.take_length] at this
        exact this
  | .osl o lo n, c, h => by
    simp only [RT] at h
    cases h1 : getO E.objs o with
    | none => simp [view, h1, RT]
    | some ob =>
    obtain ⟨h2, h2', h3⟩ := h.2 ob h1
    simp only [view, h1, RT]
    have hr := hobj o ob h1
    rcases h3 with ⟨h3, h4⟩ | ⟨b, cap, f, cap', h3, h4, h5, h6⟩
    · rcases hr with ⟨k1, k2, k3, k4⟩ | ⟨b, _, _, _, k1, _⟩
      · rw [k3, h4]; simp; exact .nil (by simp)
      · rw [k1] at h3; cases h3
    · rcases hr with ⟨k1, _⟩ | ⟨b', cap₂, arr, e, k1, k2, k3, k4, k5, k6, k7⟩
      · rw [k1] at h3; cases h3
      · rw [k1] at h3; cases h3
        have hcp : ob.esz = 0 ∨ n ≤ cap' := by
          rcases Nat.eq_zero_or_pos ob.esz with hz | hz
          · exact .inl hz
          · right
            obtain ⟨arr', e', m1, m2⟩ := h4
            rw [k4] at m1; cases m1
            rw [k5] at m2
            have := Nat.eq_of_mul_eq_mul_right hz m2
            rcases h6 with ⟨_, h6⟩ | ⟨h6, _⟩ <;> omega
        rw [h5]
        exact slice_to0 h2 k4 k7 lo n f cap' h2' (h6.imp (·.1) (·.1)) hcp true none (by simp)
  | .bad, c, h => by simp [view, RT]
  | .tup _, c, h => by simp [view, RT]
  | .ptr _ _ _, c, h => by simp [view, RT]
  | .ip _ _, c, h => by simp [view, RT]
  | .mp _, c, h => by simp [view, RT]
  | .fn _ _, c, h => by simp [view, RT]
theorem RTL.to0 {E : Env} (hobj : ∀ o ob, getO E.objs o = some ob → RO E o ob) : ∀ {xs : List AV} {cs : List Value}, RTL E xs cs → RTL (E0 E.w) (view.viewL (getO E.objs) xs) cs
  | [], [], _ => by simp [view.viewL, RTL]
  | _ :: _, _ :: _, h => by simp only [RTL, view.viewL] at *; exact ⟨RT.to0 hobj h.1, RTL.to0 hobj h.2⟩
  | [], _ :: _, h => by simp [RTL] at h
  | _ :: _, [], h => by simp [RTL] at h
end

def envL (ev : Operand → AV) : List Operand → List AV
  | [] => []
  | x :: l => ev x :: envL ev l

/-- Nothing in it but what is plain or its own. -/
def ownC : AV → Prop
  | .v _ => True
  | .sl _ own _ xs => own = true ∧ ownL xs
  | .agg cs => ownL cs
  | _ => False
where ownL : List AV → Prop
  | [] => True
  | x :: xs => ownC x ∧ ownL xs
theorem ownL_get : ∀ {l : List AV}, ownC.ownL l → ∀ (i : Nat) (x : AV), l[i]? = some x → ownC x
  | [], _, i, x, h => by simp at h
  | y :: l, h, 0, x, hx => by simp at hx; subst hx; exact h.1
  | y :: l, h, i + 1, x, hx => ownL_get h.2 i x (by simpa using hx)
theorem ownL_map {α : Type} {f : α → AV} (hf : ∀ x, ownC (f x)) : ∀ (l : List α), ownC.ownL (l.map f)
  | [] => trivial
  | x :: l => ⟨hf x, ownL_map hf l⟩
theorem ownL_app : ∀ {l l' : List AV}, ownC.ownL (l ++ l') ↔ (ownC.ownL l ∧ ownC.ownL l')
  | [], l' => by simp [ownC.ownL]
  | x :: l, l' => by simp [ownC.ownL, ownL_app, and_assoc]
theorem ownC_cells {x : AV} (h : ownC x) (j : Nat) (y : AV) (hy : (cellsOf x)[j]? = some y) : ownC y := by
  cases x with
  | agg cs => exact ownL_get h j y hy
  | _ =>
    simp only [cellsOf] at hy
    cases j with
    | zero => simp at hy; subst hy; exact h
    | succ j => simp at hy

/-- What is all its own may go to another place. -/
theorem C0.moveOwn {w w' : World} {lab lab' : Nat → List Nat} {chk : Bool} {π π' : List Nat} {y : AV} {c : Value} (h : C0 w lab chk π y c) (hchk : chk = true) (ho : ownC y) (hsz : w.heap.size ≤ w'.heap.size)
    (hp : ∀ b τ, b < w.heap.size → lab b = τ ++ π → lab' b = τ ++ π' ∧ w'.heap[b]? = w.heap[b]?) (hlen : 2 ≤ π'.length) : C0 w' lab' true π' y c := by
  induction h generalizing π' with
  | v h => exact .v h
  | nil h => exact .nil h
  | @sl chk π esz own nl xs b f n cap cf hnl hn hcap hroot hb hsz' hc hr hown ih =>
    obtain ⟨ho1, ho2⟩ := ho
    subst hchk
    obtain ⟨g1, g2, g3, arr, e, g4, g5⟩ := hown rfl ho1
    obtain ⟨m1, m2⟩ := hp b [] hb (by simpa using g2)
    refine .sl cf hnl hn hcap (by rintro ⟨k, hk⟩; rw [m1] at hk; have := congrArg List.length hk; simp at this; omega) (by omega) hsz' (fun i x j y hx hy => ?_) (fun i x j y hx hy => ?_) (fun _ _ => ⟨g1, by simpa using m1, g3, arr, e, by rw [m2]; exact g4, g5⟩)
    · rw [World.cell?_of_block m2]; exact hc i x j y hx hy
    · have hk : own = true := ho1
      subst hk
      refine ih i x j y hx hy rfl (ownC_cells (ownL_get ho2 i x hx) j y hy) (fun b τ hb hτ => ?_) (by simp)
      have := hp b (τ ++ [i, j]) hb (by simpa using hτ)
      simpa using this

section
variable {P : Program} {F : Frm} {s : AS} {a : Act} {E : Env} (h : Ok F s a E) {o : Oper} {next : Act → World → Prop} {Q : Exit → Act → World → Prop} {K : AS → Prop}
  (hn : ∀ a' w', Sat F K a' w' → next a' w')
include h hn

theorem Ok.envL (l : List Operand) : RTL E (Eng.envL s.env l) (l.map a.eval) := by
  induction l with
  | nil => simp [Eng.envL, RTL]
  | cons x l ih => simp only [Eng.envL, List.map_cons, RTL]; exact ⟨h.env x, ih⟩

theorem sound_call (hG : ∀ w, Kept F.Sh F.w0 w → GoodW P w) {c : Call} {f : FuncId} {x : Operand} (ho : o.op = .call c) (hc : c.callee = .value x) (hf : a.eval x = .func (.func f) #[] #[])
    (hk : callK P f (view.viewL (getO s.objs) (envL s.env c.args.toList)) fun r => K (s.put o.dst r)) : o.wp P a E.w next Q := by
  unfold callK at hk
  obtain ⟨r, ⟨hok, hct⟩, hk⟩ := hk
  have hargs := RTL.to0 (by rw [h.objsEq]; exact h.objs) (h.envL hn c.args.toList)
  rw [h.objsEq] at hargs
  have hcall := hct E.w (hG _ h.kept) _ hargs
  have hex : (execOp a.eval o).run P E.w = .ok (.enter f (c.args.map a.eval)) E.w := by
    unfold callOk at hok
    split at hok
    · rename_i fn hfn
      simp only [Bool.and_eq_true, Bool.not_eq_true'] at hok
      unfold execOp
      have hb : fn.body.isNone = false := by
        have := hok.2
        cases hq : fn.body with
        | none => rw [hq] at this; cases this
        | some _ => rfl
      simp only [ho, resolve, hc, hf, Deferred.ofValue, Sem.run_bind, Sem.run_pure, Result.andThen_ok, invoke, callFunc, run_program, hfn, hok.1, hb, Bool.false_eq_true, if_false]
      simp
    · cases hok
  unfold Oper.wp
  rw [hex, Oper.upon_enter]
  have hargseq : (c.args.map a.eval) = (c.args.toList.map a.eval).toArray := by rw [← Array.toList_map, Array.toArray_toList]
  rw [hargseq]
  refine hcall.mono ?_
  rintro e w' ⟨v, rfl, hb, hr⟩
  refine hn _ _ ⟨_, _, rfl, (h.grow hb).put o.dst (hr.lend hb (fun b hb' => (h.labs b hb').2)), hk⟩
end

end Go.Eng
/- A call's results taken for one's own: rows. -/
namespace Go.Eng
open Go.RowKit
set_option linter.unusedSimpArgs false
set_option linter.unusedVariables false
set_option linter.unusedSectionVars false

def instId (base k m : Nat) : Nat := base + 64 * m + k
def itC (base m : Nat) : Nat → List AV → List (Nat × AV)
  | _, [] => []
  | k, x :: xs => (instId base k m, x) :: itC base m (k + 1) xs
def itT (base : Nat) : Nat → List AV → List (Nat × AV)
  | _, [] => []
  | m, x :: xs => itC base m 0 (cellsOf x) ++ itT base (m + 1) xs
def itR (base : Nat) (r : AV) : List (Nat × AV) := match r with
  | .tup xs => itT base 0 xs
  | x => itC base 0 0 (cellsOf x)
def obOf : AV → Option Ob
  | .sl esz true nl xs => some ⟨esz, false, nl, xs⟩
  | _ => none
def addL : List (Nat × AV) → List (Nat × Ob) → List (Nat × Ob)
  | [], l => l
  | (id, x) :: r, l => match obOf x with
    | some ob => setO (addL r l) id ob
    | none => addL r l
def instC (id : Nat) (x : AV) : AV := match obOf x with
  | some _ => .row id
  | none => x
def instCs (base m : Nat) : Nat → List AV → List AV
  | _, [] => []
  | k, x :: xs => instC (instId base k m) x :: instCs base m (k + 1) xs
def instV (base m : Nat) (x : AV) : AV := match x with
  | .agg xs => .agg (instCs base m 0 xs)
  | x => instC (instId base 0 m) x
def instT (base : Nat) : Nat → List AV → List AV
  | _, [] => []
  | m, x :: xs => instV base m x :: instT base (m + 1) xs
def instR (base : Nat) (r : AV) : AV := match r with
  | .tup xs => .tup (instT base 0 xs)
  | x => instV base 0 x
def ids : List (Nat × AV) → List Nat
  | [] => []
  | (id, _) :: r => id :: ids r
def freshB (s : AS) : List Nat → Bool
  | [] => true
  | k :: l => (match getO s.objs k with
    | none => true
    | some _ => false) && (noRefL k s.tmps && (noRefO k s.objs && freshB s l))
def notIn (k : Nat) : List Nat → Bool
  | [] => true
  | j :: l => !(Nat.beq k j) && notIn k l
def nodupB : List Nat → Bool
  | [] => true
  | k :: l => notIn k l && nodupB l
def ownI : List (Nat × AV) → Prop
  | [] => True
  | (_, x) :: r => ownC x ∧ ownI r

def callIK (P : Program) (f : FuncId) (args : List AV) (base : Nat) (d : Option Nat) (s : AS) (K : AS → Prop) : Prop :=
  ∃ r, CallsTo P f args r ∧ ownI (itR base r) ∧ (freshB s (ids (itR base r)) && nodupB (ids (itR base r))) = true ∧ K (AS.put { s with objs := addL (itR base r) s.objs } d (instR base r))
theorem callIK_of {P : Program} {f : FuncId} {args : List AV} {base : Nat} {d : Option Nat} {s : AS} {K : AS → Prop} {r : AV} (h : CallsTo P f args r) (h1 : ownI (itR base r)) (h2 : (freshB s (ids (itR base r)) && nodupB (ids (itR base r))) = true)
    (hk : K (AS.put { s with objs := addL (itR base r) s.objs } d (instR base r))) : callIK P f args base d s K := ⟨r, h, h1, h2, hk⟩

theorem notIn_iff {k : Nat} : ∀ {l : List Nat}, notIn k l = true ↔ k ∉ l
  | [] => by simp [notIn]
  | j :: l => by simp [notIn, notIn_iff, nb]
theorem ids_map (l : List (Nat × AV)) : ids l = l.map (·.1) := by
  induction l with
  | nil => rfl
  | cons p l ih => obtain ⟨a, b⟩ := p; simp [ids, ih]
theorem freshB_mem {s : AS} : ∀ {l : List Nat}, freshB s l = true → ∀ k ∈ l, getO s.objs k = none ∧ noRefL k s.tmps = true ∧ noRefO k s.objs = true
  | [], _, k, hk => by simp at hk
  | j :: l, h, k, hk => by
    simp only [freshB, Bool.and_eq_true] at h
    obtain ⟨h1, h2, h3, h4⟩ := h
    rcases List.mem_cons.1 hk with rfl | hk
    · refine ⟨?_, h2, h3⟩
      cases hq : getO s.objs k with
      | none => rfl
      | some _ => rw [hq] at h1; cases h1
    · exact freshB_mem h4 k hk

/-- What stands in the results' cells. -/
def Its (w : World) (lab : Nat → List Nat) (base : Nat) : List (Nat × AV) → List Value → Prop
  | [], [] => True
  | (id, x) :: r, c :: cs => (∃ k m, id = instId base k m ∧ C0 w lab true [k, m] x c) ∧ Its w lab base r cs
  | _, _ => False
theorem Its.app {w : World} {lab : Nat → List Nat} {base : Nat} : ∀ {a b : List (Nat × AV)} {cs ds : List Value}, Its w lab base a cs → Its w lab base b ds → Its w lab base (a ++ b) (cs ++ ds)
  | [], b, [], ds, _, h => h
  | p :: a, b, c :: cs, ds, h, h' => by simp only [List.cons_append, Its] at *; exact ⟨h.1, h.2.app h'⟩
  | [], _, _ :: _, _, h, _ => by simp [Its] at h
  | _ :: _, _, [], _, h, _ => by simp [Its] at h
theorem RRc.its {w : World} {lab : Nat → List Nat} {base m : Nat} : ∀ {k : Nat} {xs : List AV} {cs : List Value}, RRc w lab m k xs cs → Its w lab base (itC base m k xs) cs
  | _, [], [], _ => by simp [itC, Its]
  | k, x :: xs, c :: cs, h => by simp only [RRc] at h; simp only [itC, Its]; exact ⟨⟨k, m, rfl, h.1⟩, h.2.its⟩
  | _, [], _ :: _, h => by simp [RRc] at h
  | _, _ :: _, [], h => by simp [RRc] at h
theorem RRv.its {w : World} {lab : Nat → List Nat} {base m : Nat} {x : AV} {v : Value} (h : RRv w lab m x v) : Its w lab base (itC base m 0 (cellsOf x)) v.cells.toList := by
  cases x with
  | agg xs =>
    obtain ⟨cs, rfl, h2⟩ := h
    simpa [cellsOf, Value.cells] using h2.its
  | _ =>
    have h : C0 w lab true [0, m] _ v := h
    have h1 := h.one
    have e : v.cells.toList = [v] := by cases v <;> simp_all [Value.cells, Value.oneCell']
    rw [e]
    simp only [cellsOf, itC, Its]
    exact ⟨⟨0, m, rfl, h⟩, trivial⟩
theorem RRt.its {w : World} {lab : Nat → List Nat} {base : Nat} : ∀ {m : Nat} {xs : List AV} {vs : List Value}, RRt w lab m xs vs → Its w lab base (itT base m xs) (vs.flatMap fun v => v.cells.toList)
  | _, [], [], _ => by simp [itT, Its]
  | m, x :: xs, v :: vs, h => by
    simp only [RRt] at h
    simp only [itT, List.flatMap_cons]
    exact h.1.its.app h.2.its
  | _, [], _ :: _, h => by simp [RRt] at h
  | _, _ :: _, [], h => by simp [RRt] at h

def blkOf : Value → Option Nat
  | .slice (some a) _ _ => some a.block
  | _ => none
def sgI (sg : Nat → Option Nat) : List (Nat × AV) → List Value → Nat → Option Nat
  | (id, x) :: r, c :: cs, k => match obOf x with
    | some _ => if k = id then blkOf c else sgI sg r cs k
    | none => sgI sg r cs k
  | _, _, k => sg k
def instLab (base : Nat) (p : List Nat) : List Nat := match p.reverse with
  | m :: k :: τ => τ.reverse ++ [instId base k m]
  | _ => []
theorem instLab_app (base k m : Nat) (τ : List Nat) : instLab base (τ ++ [k, m]) = τ ++ [instId base k m] := by simp [instLab]

theorem addL_get {its : List (Nat × AV)} {l : List (Nat × Ob)} (hnd : nodupB (ids its) = true) (k : Nat) : getO (addL its l) k = (match its.find? (fun p => p.1 == k && (obOf p.2).isSome) with
    | some p => obOf p.2
    | none => getO l k) := by
  induction its with
  | nil => simp [addL]
  | cons p its ih =>
    obtain ⟨id, x⟩ := p
    simp only [ids, nodupB, Bool.and_eq_true] at hnd
    simp only [addL, List.find?_cons]
    cases ho : obOf x with
    | none =>
      simp only [ho, Option.isSome_none, Bool.and_false]
      exact ih hnd.2
    | some ob =>
      simp only [ho, Option.isSome_some, Bool.and_true]
      rw [getO_setO]
      by_cases hk : k = id
      · subst hk; simp [ho]
      · have : (id == k) = false := by simp [Ne.symm hk]
        rw [if_neg hk, this]
        exact ih hnd.2

theorem its_find {its : List (Nat × AV)} {k : Nat} {p : Nat × AV} (h : its.find? (fun p => p.1 == k && (obOf p.2).isSome) = some p) : p ∈ its ∧ p.1 = k ∧ (obOf p.2).isSome = true := by
  have h1 := List.mem_of_find?_eq_some h
  have h2 := List.find?_some h
  simp only [Bool.and_eq_true, beq_iff_eq] at h2
  exact ⟨h1, h2.1, h2.2⟩

section
variable {P : Program} {F : Frm} {s : AS} {a : Act} {E : Env} (h : Ok F s a E)
include h

theorem inst_ok {base : Nat} {w' : World} (hb : Below E.w.heap.size E.w w') {lab : Nat → List Nat} (hl1 : ∀ b, b < E.w.heap.size → lab b = [0]) (hl2 : ∀ b, E.w.heap.size ≤ b → lab b ≠ [] → b < w'.heap.size ∧ 2 ≤ (lab b).length)
    {its : List (Nat × AV)} {cs : List Value} (hits : Its w' lab base its cs) (hown : ownI its) (hfr : freshB s (ids its) = true) (hnd : nodupB (ids its) = true) :
    ∃ E', E'.w = w' ∧ Ok F { s with objs := addL its s.objs } a E' ∧ ∀ (i : Nat) (id : Nat) (x : AV) (c : Value), its[i]? = some (id, x) → cs[i]? = some c → RT E' (instC id x) c ∧ c.oneCell' = true := by
  have hlt : ∀ b, E.lab b ≠ [] → b < E.w.heap.size := fun b hb => (h.labs b hb).2
  let lab' : Nat → List Nat := fun b => if b < E.w.heap.size then E.lab b else instLab base (lab b)
  let E' : Env := ⟨w', lab', sgI E.sg its cs, addL its E.objs⟩
  have hmem : ∀ {its : List (Nat × AV)} {cs : List Value}, Its w' lab base its cs → ∀ (i id : Nat) (x : AV), its[i]? = some (id, x) → ∃ c, cs[i]? = some c ∧ ∃ k m, id = instId base k m ∧ C0 w' lab true [k, m] x c := by
    intro its cs hits
    induction its generalizing cs with
    | nil => intro i id x hx; simp at hx
    | cons p its ih =>
      obtain ⟨id', x'⟩ := p
      cases cs with
      | nil => simp [Its] at hits
      | cons c cs =>
        simp only [Its] at hits
        intro i id x hx
        cases i with
        | zero =>
          simp only [List.getElem?_cons_zero, Option.some.injEq, Prod.mk.injEq] at hx
          obtain ⟨rfl, rfl⟩ := hx
          exact ⟨c, rfl, hits.1⟩
        | succ i => exact ih hits.2 i id x (by simpa using hx)
  have hownm : ∀ {its : List (Nat × AV)}, ownI its → ∀ p ∈ its, ownC p.2 := by
    intro its ho
    induction its with
    | nil => simp
    | cons p its ih =>
      obtain ⟨id', x'⟩ := p
      simp only [ownI] at ho
      intro q hq
      rcases List.mem_cons.1 hq with rfl | hq
      · exact ho.1
      · exact ih ho.2 q hq
  -- where an object's block lies
  have hsg : ∀ {its : List (Nat × AV)} {cs : List Value} (sg : Nat → Option Nat), nodupB (ids its) = true → ∀ (i id : Nat) (x : AV) (c : Value), its[i]? = some (id, x) → cs[i]? = some c → (obOf x).isSome = true → sgI sg its cs id = blkOf c := by
    intro its cs sg hnd
    induction its generalizing cs with
    | nil => intro i id x c hx; simp at hx
    | cons p its ih =>
      obtain ⟨id', x'⟩ := p
      simp only [ids, nodupB, Bool.and_eq_true] at hnd
      intro i id x c hx hc ho
      cases cs with
      | nil => simp at hc
      | cons c' cs =>
        cases i with
        | zero =>
          simp only [List.getElem?_cons_zero, Option.some.injEq, Prod.mk.injEq] at hx hc
          obtain ⟨rfl, rfl⟩ := hx
          subst hc
          cases hq : obOf x' with
          | none => rw [hq] at ho; cases ho
          | some _ => simp [sgI, hq]
        | succ i =>
          simp only [List.getElem?_cons_succ] at hx hc
          have hne : id ≠ id' := by
            rintro rfl
            have := notIn_iff.1 hnd.1
            rw [ids_map] at this
            exact this (List.mem_map.2 ⟨_, List.mem_of_getElem? hx, rfl⟩)
          have := ih hnd.2 i id x c hx hc ho
          cases hq : obOf x' with
          | none => simp [sgI, hq, this]
          | some _ => simp [sgI, hq, hne, this]
  have hsg0 : ∀ {its : List (Nat × AV)} {cs : List Value} (k : Nat), k ∉ ids its → sgI E.sg its cs k = E.sg k := by
    intro its cs k hk
    induction its generalizing cs with
    | nil => simp [sgI]
    | cons p its ih =>
      obtain ⟨id', x'⟩ := p
      simp only [ids, List.mem_cons, not_or] at hk
      cases cs with
      | nil => simp [sgI]
      | cons c cs =>
        simp only [sgI]
        cases obOf x' with
        | none => exact ih hk.2
        | some _ => simp only []; rw [if_neg hk.1]; exact ih hk.2
  have hgoes : E.Goes (fun k => k ∈ ids its) E' := by
    refine ⟨hb.size, fun b hb' _ => hb.block b hb', fun b hb' hr => by rintro ⟨k, hk⟩; simp only [E', lab', hb', if_true] at hk; exact hr ⟨k, hk⟩, fun o ob' ho => ?_⟩
    by_cases hmo : o ∈ ids its
    · exact .inl hmo
    · have hn : its.find? (fun p => p.1 == o && (obOf p.2).isSome) = none := by
        rw [List.find?_eq_none]
        intro p hp
        simp only [Bool.and_eq_true, beq_iff_eq, not_and]
        rintro rfl
        exact absurd (by rw [ids_map]; exact List.mem_map.2 ⟨p, hp, rfl⟩) hmo
      have ho2 : getO (addL its E.objs) o = some ob' := ho
      rw [addL_get hnd, hn] at ho2
      refine .inr ⟨ob', ho2, rfl, rfl, rfl, hsg0 o hmo, fun b cap _ hk => ?_⟩
      obtain ⟨arr, e, h1, h2⟩ := hk
      exact ⟨arr, e, (hb.block b (Array.getElem?_eq_some_iff.1 h1).1).trans h1, h2⟩
  -- an item's row
  have item : ∀ (i id : Nat) (x : AV) (c : Value), its[i]? = some (id, x) → cs[i]? = some c → RT E' (instC id x) c ∧ c.oneCell' = true ∧ ∀ ob, obOf x = some ob → RO E' id ob := by
    intro i id x c hx hc
    obtain ⟨c', hc', k, m, hid, h0⟩ := hmem hits i id x hx
    rw [hc] at hc'; cases hc'
    have ho := hownm hown _ (List.mem_of_getElem? hx)
    refine ⟨?_, h0.one, ?_⟩
    · cases hq : obOf x with
      | none =>
        simp only [instC, hq]
        cases x with
        | v u => cases h0 with | v hu => simp only [RT]; exact .v hu
        | sl esz own nl xs =>
          obtain ⟨ho1, _⟩ := ho
          subst ho1
          simp [obOf] at hq
        | _ => cases h0
      | some ob =>
        simp only [instC, hq, RT]
        refine ⟨h0.one, fun ob' ho' => ?_⟩
        have ho2 : getO (addL its E.objs) id = some ob' := ho'
        rw [addL_get hnd] at ho2
        have hfind : ∃ p, its.find? (fun p => p.1 == id && (obOf p.2).isSome) = some p := by
          cases hf : its.find? (fun p => p.1 == id && (obOf p.2).isSome) with
          | some p => exact ⟨p, rfl⟩
          | none =>
            rw [List.find?_eq_none] at hf
            have := hf _ (List.mem_of_getElem? hx)
            simp [hq] at this
        obtain ⟨p, hp⟩ := hfind
        obtain ⟨p1, p2, p3⟩ := its_find hp
        have hpx : p = (id, x) := by
          obtain ⟨j, hj⟩ := List.mem_iff_getElem?.1 p1
          obtain ⟨pid, px⟩ := p
          simp only at p2
          subst p2
          -- ids are distinct
          have nd : ∀ {its : List (Nat × AV)}, nodupB (ids its) = true → ∀ (i j : Nat) (x y : AV), its[i]? = some (pid, x) → its[j]? = some (pid, y) → x = y := by
            intro its hnd
            induction its with
            | nil => intro i j x y hx; simp at hx
            | cons q its ih =>
              obtain ⟨qid, qx⟩ := q
              simp only [ids, nodupB, Bool.and_eq_true] at hnd
              have hni := notIn_iff.1 hnd.1
              rw [ids_map] at hni
              intro i j x y hx hy
              cases i <;> cases j <;> simp only [List.getElem?_cons_zero, List.getElem?_cons_succ, Option.some.injEq, Prod.mk.injEq] at hx hy
              · exact hx.2.symm.trans hy.2
              · exact absurd (List.mem_map.2 ⟨_, List.mem_of_getElem? hy, hx.1.symm⟩) hni
              · exact absurd (List.mem_map.2 ⟨_, List.mem_of_getElem? hx, hy.1.symm⟩) hni
              · exact ih hnd.2 _ _ x y hx hy
          rw [nd hnd j i px x hj hx]
        rw [hp, hpx] at ho2
        simp only [hq, Option.some.injEq] at ho2
        subst ho2
        have hs := hsg E.sg hnd i id x c hx hc (by simp [hq])
        cases x with
        | sl esz own nl xs =>
          obtain ⟨ho1, ho3⟩ := ho
          subst ho1
          simp only [obOf, Option.some.injEq] at hq
          subst hq
          refine ⟨rfl, ?_⟩
          cases h0 with
          | nil hnl => exact .inl ⟨hs, rfl⟩
          | @sl _ _ _ _ _ _ b f n cap cf hnl hn hcap hroot hbs hsz hc' hr hown' =>
            obtain ⟨g1, g2, g3, arr, e, g4, g5⟩ := hown' rfl rfl
            subst g1; subst hn
            exact .inr ⟨b, cap, hs, ⟨arr, e, g4, g5⟩, rfl⟩
        | _ => simp [obOf] at hq
    · intro ob hq
      have hs := hsg E.sg hnd i id x c hx hc (by simp [hq])
      cases x with
      | sl esz own nl xs =>
        obtain ⟨ho1, ho3⟩ := ho
        subst ho1
        simp only [obOf, Option.some.injEq] at hq
        subst hq
        cases h0 with
        | nil hnl => exact .inl ⟨hs, rfl, rfl, hnl⟩
        | @sl _ _ _ _ _ _ b f n cap cf hnl hn hcap hroot hbs hsz hc' hr hown' =>
          obtain ⟨g1, g2, g3, arr, e, g4, g5⟩ := hown' rfl rfl
          subst g1; subst hn
          have hbn : ¬ b < E.w.heap.size := fun hlt => by rw [hl1 b hlt] at g2; simp at g2
          have hlab : ∀ b τ, b < w'.heap.size → lab b = τ ++ [k, m] → lab' b = τ ++ [id] := fun b τ _ hτ => by
            have hbn : ¬ b < E.w.heap.size := fun hlt => by
              rw [hl1 b hlt] at hτ
              have := congrArg List.length hτ
              simp at this
            simp only [lab', hbn, if_false]
            rw [hτ, instLab_app, hid]
          refine .inr ⟨b, cap, arr, e, hs, by simpa using hlab b [] hbs (by simpa using g2), hnl, g4, g5, g3, fun i' x' hx' => ?_⟩
          refine ⟨hsz i' x' hx', fun j y hy => ⟨cf i' j, ?_, ?_⟩⟩
          · have := hc' i' x' j y hx' hy
            simpa [World.cell?, E', g4] using this
          · simp only [RC, cond_false]
            refine (hr i' x' j y hx' hy).moveOwn rfl (ownC_cells (ownL_get ho3 i' x' hx') j y hy) (Nat.le_refl _) (fun b τ hb' hτ => ⟨?_, rfl⟩) (by simp)
            have := hlab b (τ ++ [i', j]) hb' (by simpa using hτ)
            simpa using this
      | _ => simp [obOf] at hq
  refine ⟨E', rfl, ⟨?_, h.defers, ?_, h.tmps.goes hgoes (fun o ho => (freshB_mem hfr o ho).2.1), fun k ob hk => ?_, fun b hb' => ?_⟩, fun i id x c hx hc => ⟨(item i id x c hx hc).1, (item i id x c hx hc).2.1⟩⟩
  · simp only [E', h.objsEq]
  · exact ⟨hb.os.trans h.kept.os, hb.tape.trans h.kept.tape, hb.output.trans h.kept.output, Nat.le_trans h.kept.size hb.size, fun k hk hs => (hb.block k (Nat.lt_of_lt_of_le hk h.kept.size)).trans (h.kept.block k hk hs)⟩
  · have hk2 : getO (addL its s.objs) k = some ob := hk
    rw [addL_get hnd] at hk2
    cases hf : its.find? (fun p => p.1 == k && (obOf p.2).isSome) with
    | some p =>
      rw [hf] at hk2
      obtain ⟨p1, p2, p3⟩ := its_find hf
      obtain ⟨j, hj⟩ := List.mem_iff_getElem?.1 p1
      obtain ⟨pid, px⟩ := p
      simp only at p2
      subst p2
      obtain ⟨c, hc, _⟩ := hmem hits j pid px hj
      exact (item j pid px c hj hc).2.2 ob hk2
    | none =>
      rw [hf] at hk2
      have hkn : k ∉ ids its := fun hki => by
        have := (freshB_mem hfr k hki).1
        simp only [] at hk2
        rw [this] at hk2; cases hk2
      refine (h.objs k ob hk2).goes hgoes (fun hbx x hx o ho => noRefO_get (freshB_mem hfr o ho).2.2 k ob hk2 hbx x hx) (hsg0 k hkn) (fun b hs => ?_) hlt (fun b τ hb' hτ => by simp only [E', lab', hb', if_true]; exact hτ)
      rcases h.objs k ob hk2 with ⟨g1, _⟩ | ⟨b', _, _, _, g1, g2, _⟩
      · rw [g1] at hs; cases hs
      · rw [g1] at hs; cases hs
        exact hb.block b (hlt b (by rw [g2]; simp))
  · simp only [E', lab'] at hb' ⊢
    by_cases hlt' : b < E.w.heap.size
    · simp only [hlt', if_true] at hb'
      have := h.labs b hb'
      exact ⟨this.1, Nat.lt_of_lt_of_le this.2 hb.size⟩
    · simp only [hlt', if_false] at hb'
      have hne : lab b ≠ [] := by
        intro hnil
        rw [hnil] at hb'
        exact hb' (by simp [instLab])
      exact ⟨.inl (by have := h.kept.size; omega), (hl2 b (by omega) hne).1⟩

end
end Go.Eng
/- A call whose results become one's own. -/
namespace Go.Eng
open Go.RowKit
set_option linter.unusedSimpArgs false
set_option linter.unusedVariables false
set_option linter.unusedSectionVars false

def ItR (E : Env) : List (Nat × AV) → List Value → Prop
  | [], [] => True
  | (id, x) :: r, c :: cs => (RT E (instC id x) c ∧ c.oneCell' = true) ∧ ItR E r cs
  | _, _ => False
theorem Its.length {w : World} {lab : Nat → List Nat} {base : Nat} : ∀ {a : List (Nat × AV)} {cs : List Value}, Its w lab base a cs → a.length = cs.length
  | [], [], _ => rfl
  | (id, x) :: a, c :: cs, h => by simp only [Its] at h; simp [h.2.length]
  | [], _ :: _, h => by simp [Its] at h
  | _ :: _, [], h => by simp [Its] at h
theorem ItR.of {E : Env} : ∀ {a : List (Nat × AV)} {cs : List Value}, a.length = cs.length → (∀ (i id : Nat) (x : AV) (c : Value), a[i]? = some (id, x) → cs[i]? = some c → RT E (instC id x) c ∧ c.oneCell' = true) → ItR E a cs
  | [], [], _, _ => by simp [ItR]
  | (id, x) :: a, c :: cs, hl, h => by
    simp only [ItR]
    exact ⟨h 0 id x c rfl rfl, ItR.of (by simpa using hl) (fun i id x c hx hc => h (i + 1) id x c (by simpa using hx) (by simpa using hc))⟩
  | [], _ :: _, hl, _ => by simp at hl
  | _ :: _, [], hl, _ => by simp at hl
theorem ItR.split {E : Env} : ∀ {a b : List (Nat × AV)} {cs ds : List Value}, a.length = cs.length → ItR E (a ++ b) (cs ++ ds) → ItR E a cs ∧ ItR E b ds
  | [], b, [], ds, _, h => ⟨by simp [ItR], h⟩
  | (id, x) :: a, b, c :: cs, ds, hl, h => by
    simp only [List.cons_append, ItR] at h ⊢
    obtain ⟨h1, h2⟩ := h.2.split (by simpa using hl)
    exact ⟨⟨h.1, h1⟩, h2⟩
  | [], _, _ :: _, _, hl, _ => by simp at hl
  | _ :: _, _, [], _, hl, _ => by simp at hl
theorem ItR.cells {E : Env} {base m : Nat} : ∀ {k : Nat} {xs : List AV} {cs : List Value}, ItR E (itC base m k xs) cs → RTL E (instCs base m k xs) cs ∧ ∀ u ∈ cs, u.oneCell' = true
  | _, [], [], _ => by simp [instCs, RTL]
  | k, x :: xs, c :: cs, h => by
    simp only [itC, ItR] at h
    obtain ⟨h1, h2⟩ := h.2.cells
    simp only [instCs, RTL, List.mem_cons, forall_eq_or_imp]
    exact ⟨⟨h.1.1, h1⟩, h.1.2, h2⟩
  | _, [], _ :: _, h => by simp [itC, ItR] at h
  | _, _ :: _, [], h => by simp [itC, ItR] at h
theorem instV_ok {E : Env} {w : World} {lab : Nat → List Nat} {base m : Nat} {x : AV} {v : Value} (h : RRv w lab m x v) (hi : ItR E (itC base m 0 (cellsOf x)) v.cells.toList) : RT E (instV base m x) v := by
  cases x with
  | agg xs =>
    obtain ⟨cs, rfl, h2⟩ := h
    simp only [cellsOf, Value.cells] at hi
    obtain ⟨g1, g2⟩ := hi.cells
    simp only [instV, RT]
    exact ⟨cs, rfl, g1, g2⟩
  | _ =>
    have h : C0 w lab true [0, m] _ v := h
    have h1 := h.one
    have e : v.cells.toList = [v] := by cases v <;> simp_all [Value.cells, Value.oneCell']
    rw [e] at hi
    simp only [cellsOf, itC, ItR] at hi
    exact hi.1.1
theorem instT_ok {E : Env} {w : World} {lab : Nat → List Nat} {base : Nat} : ∀ {m : Nat} {xs : List AV} {vs : List Value}, RRt w lab m xs vs → ItR E (itT base m xs) (vs.flatMap fun v => v.cells.toList) → RTL E (instT base m xs) vs
  | _, [], [], _, _ => by simp [instT, RTL]
  | m, x :: xs, v :: vs, h, hi => by
    simp only [RRt] at h
    simp only [itT, List.flatMap_cons] at hi
    obtain ⟨h1, h2⟩ := hi.split (h.1.its (base := base)).length
    simp only [instT, RTL]
    exact ⟨instV_ok h.1 h1, instT_ok h.2 h2⟩
  | _, [], _ :: _, h, _ => by simp [RRt] at h
  | _, _ :: _, [], h, _ => by simp [RRt] at h

section
variable {P : Program} {F : Frm} {s : AS} {a : Act} {E : Env} (h : Ok F s a E) {o : Oper} {next : Act → World → Prop} {Q : Exit → Act → World → Prop} {K : AS → Prop}
  (hn : ∀ a' w', Sat F K a' w' → next a' w')
include h hn

theorem sound_callI (hG : ∀ w, Kept F.Sh F.w0 w → GoodW P w) {c : Call} {f : FuncId} {base : Nat} (ho : o.op = .call c) (hc : c.callee = .value (.func f))
    (hk : callIK P f (view.viewL (getO s.objs) (envL s.env c.args.toList)) base o.dst s K) : o.wp P a E.w next Q := by
  obtain ⟨r, ⟨hok, hct⟩, hown, hfr, hk⟩ := hk
  have hargs := RTL.to0 (by rw [h.objsEq]; exact h.objs) (h.envL hn c.args.toList)
  rw [h.objsEq] at hargs
  have hcall := hct E.w (hG _ h.kept) _ hargs
  have hex : (execOp a.eval o).run P E.w = .ok (.enter f (c.args.map a.eval)) E.w := by
    unfold callOk at hok
    split at hok
    · rename_i fn hfn
      simp only [Bool.and_eq_true, Bool.not_eq_true'] at hok
      unfold execOp
      have hb : fn.body.isNone = false := by
        have := hok.2
        cases hq : fn.body with
        | none => rw [hq] at this; cases this
        | some _ => rfl
      simp only [ho, resolve, hc, Act.eval, Deferred.ofValue, Sem.run_bind, Sem.run_pure, Result.andThen_ok, invoke, callFunc, run_program, hfn, hok.1, hb, Bool.false_eq_true, if_false]
      simp
    · cases hok
  unfold Oper.wp
  rw [hex, Oper.upon_enter]
  have hargseq : (c.args.map a.eval) = (c.args.toList.map a.eval).toArray := by rw [← Array.toList_map, Array.toArray_toList]
  rw [hargseq]
  refine hcall.mono ?_
  rintro e w' ⟨v, rfl, hb, lab, hl1, hl2, hr⟩
  simp only [Bool.and_eq_true] at hfr
  split at hr
  · rename_i xs
    obtain ⟨vs, rfl, hrt⟩ := hr
    have hits := hrt.its (base := base)
    obtain ⟨E', e1, hE', hi⟩ := inst_ok h hb hl1 hl2 hits hown hfr.1 hfr.2
    have hitr := ItR.of hits.length hi
    refine hn _ _ ⟨_, E', e1, hE'.put o.dst (x := instR base (.tup xs)) ?_, hk⟩
    simp only [instR, RT]
    exact ⟨vs, rfl, instT_ok hrt hitr⟩
  · rename_i hnt
    have e2 : itR base r = itC base 0 0 (cellsOf r) := by cases r <;> first | rfl | exact absurd rfl (hnt _)
    have e3 : instR base r = instV base 0 r := by cases r <;> first | rfl | exact absurd rfl (hnt _)
    have hits := hr.its (base := base)
    rw [e2] at hown hfr hk
    rw [e3] at hk
    obtain ⟨E', e1, hE', hi⟩ := inst_ok h hb hl1 hl2 hits hown hfr.1 hfr.2
    have hitr := ItR.of hits.length hi
    exact hn _ _ ⟨_, E', e1, hE'.put o.dst (x := instV base 0 r) (instV_ok hr hitr), hk⟩

end
end Go.Eng
/- Code. -/
namespace Go.Eng
open Go.RowKit
set_option linter.unusedSimpArgs false
set_option linter.unusedVariables false
set_option linter.unusedSectionVars false

/-- The operations that only read. -/
def rdS (P : Program) (L : Lay) (op : Op) (ev : Operand → AV) (g : Nat → Option Ob) (K : AV → Prop) : Prop := match op with
  | .move x => K (ev x)
  | .assign x => K (ev x)
  | .pick c x y => (match ev c with
    | .v (.bool b) => K (bif b then ev x else ev y)
    | _ => False)
  | .load t x => (match ev x, lkT L t with
      | .ptr ob i c, some ti => (match g ob with
        | some B => idxK B.els i fun x => ldc ti (((cellsOf x).drop c).take ti.size) K
        | none => False)
      | .ip cs c, some ti => ldc ti ((cs.drop c).take ti.size) K
      | _, _ => False)
  | .fieldAddr t x f => (match ev x with
      | .ptr ob i c => (match g ob with
        | some _ => offK L t f fun off => K (.ptr ob i (c + off))
        | none => False)
      | .ip cs c => offK L t f fun off => K (.ip cs (c + off))
      | _ => False)
  | .indexAddr t x i => ixK L g t (ev x) (ev i) K
  | .index t x i => strK L t (ev x) (ev i) K
  | .binOp op t x y _ => bnK L g op t (ev x) (ev y) (isNilC y) K
  | .unOp op _ x => unK op (ev x) K
  | .build t ps => buildK L t ev ps.toList K
  | .slice t x lo hi mx => slK L g t ev x lo hi mx K
  | .nilCheck x => fnK (ev x) K
  | .convert src dst x => cvK L g src dst (ev x) K
  | .lookup t x k false => mpK P L t (ev x) (ev k) K
  | .extract x i => (match ev x with
    | .tup xs => idxK xs i K
    | _ => False)
  | .call c => (match c.callee with
    | .builtin .len => (match c.args.toList, c.argTypes.toList with
      | [x], [t] => lenK L g t (ev x) K
      | _, _ => False)
    | .builtin .min => (match c.args.toList with
      | [x, y] => minK (ev x) (ev y) K
      | _ => False)
    | .builtin .max => (match c.args.toList with
      | [x, y] => maxK (ev x) (ev y) K
      | _ => False)
    | .value (.func f) => callK P f (view.viewL g (envL ev c.args.toList)) K
    | _ => False)
  | _ => False

/-- The operations that make a row. -/
def rowK (L : Lay) (op : Op) (ev : Operand → AV) (K : Nat → List AV → Prop) : Prop := match op with
  | .makeSlice t l c => makeK L t (ev l) (ev c) fun n z esz => K esz (List.replicate n z)
  | .buildSlice t len ps => bsK L t len ev ps.toList K
  | _ => False

def opS (P : Program) (L : Lay) (o : Oper) (s : AS) (K : AS → Prop) : Prop := match o.op with
  | .alloc t => (match lkT L t with
    | some ti => ifK (ti.d.agg || (ti.zero.length == 1)) (fun _ => newBox o.dst (bif ti.d.agg then .agg (ti.zero.map .v) else (ti.zero.map .v).headD .bad) ti.size s K) (fun _ => False)
    | none => False)
  | .box t x => ifK (okVal (s.env x)) (fun _ => newBox o.dst (s.env x) (cellsOf (s.env x)).length s K) (fun _ => False)
  | .store t x y => (match o.dst with
    | none => storeK L s t (s.env x) (s.env y) K
    | some _ => False)
  | .makeSlice t l c => rowK L (.makeSlice t l c) s.env fun esz els => newRowK o.dst esz els s K
  | .buildSlice t len ps => rowK L (.buildSlice t len ps) s.env fun esz els => newRowK o.dst esz els s K
  | .call c => (match c.callee with
    | .builtin .append => (match c.args.toList, c.argTypes.toList with
      | [x, y], [t, t2] => appK L t t2 o.dst (s.env x) (s.env y) s K
      | _, _ => False)
    | _ => rdS P L (.call c) s.env (getO s.objs) fun y => K (s.put o.dst y))
  | op => rdS P L op s.env (getO s.objs) fun y => K (s.put o.dst y)

theorem opS_sound {P : Program} {L : Lay} (hL : LOk P L) {F : Frm} (hG : ∀ w, Kept F.Sh F.w0 w → GoodW P w) {s : AS} {a : Act} {E : Env} (h : Ok F s a E) {o : Oper} {next : Act → World → Prop} {Q : Exit → Act → World → Prop} {K : AS → Prop}
    (hn : ∀ a' w', Sat F K a' w' → next a' w') (hk : opS P L o s K) : o.wp P a E.w next Q := by
  have rd : rdS P L o.op s.env (getO s.objs) (fun y => K (s.put o.dst y)) → o.wp P a E.w next Q := by
    intro hk
    unfold rdS at hk
    split at hk
    · exact sound_move h hn (.inl ‹_›) hk
    · exact sound_move h hn (.inr ‹_›) hk
    · exact sound_pick h hn ‹_› hk
    · exact sound_load hL h hn ‹_› hk
    · exact sound_field hL h hn ‹_› hk
    · exact sound_ix hL h hn ‹_› hk
    · exact sound_str hL h hn ‹_› hk
    · exact sound_bn hL h hn ‹_› hk
    · exact sound_un h hn ‹_› hk
    · exact sound_build hL h hn ‹_› hk
    · exact sound_sl hL h hn ‹_› hk
    · exact sound_fn h hn ‹_› hk
    · exact sound_cv hL h hn ‹_› hk
    · exact sound_mp hL h hn ‹_› hk
    · exact sound_extract h hn ‹_› hk
    · rename_i c ho
      split at hk
      · split at hk
        · rename_i x t hx ht
          exact sound_len hL h hn ho ‹_› (by rw [← hx]) (by rw [← ht]) hk
        · exact hk.elim
      · split at hk
        · rename_i x y hx
          exact sound_min h hn ho ‹_› (by rw [← hx]) hk
        · exact hk.elim
      · split at hk
        · rename_i x y hx
          exact sound_max h hn ho ‹_› (by rw [← hx]) hk
        · exact hk.elim
      · rename_i f hf
        exact sound_call h hn hG ho hf rfl hk
      · exact hk.elim
    · exact hk.elim
  unfold opS at hk
  split at hk
  · split at hk
    · rename_i ti ht
      cases hc : ti.d.agg || (ti.zero.length == 1) with
      | false => rw [hc] at hk; exact hk.elim
      | true =>
        rw [hc] at hk
        refine sound_alloc hL h hn ‹_› ht hk ?_
        rcases Bool.or_eq_true_iff.1 hc with hc | hc
        · exact .inl hc
        · exact .inr (eq_of_beq hc)
    · exact hk.elim
  · rename_i t x _
    cases hc : okVal (s.env x) with
    | false => rw [hc] at hk; exact hk.elim
    | true => rw [hc] at hk; exact sound_box h hn ‹_› hc rfl hk
  · split at hk
    · exact sound_store hL h hn ‹_› ‹_› hk
    · exact hk.elim
  · exact sound_make hL h hn ‹_› hk
  · exact sound_bs hL h hn ‹_› hk
  · rename_i c ho
    split at hk
    · rename_i hc
      split at hk
      · rename_i x y t t2 h1 h2
        exact sound_append h hL hn ho hc h1 h2 hk
      · exact hk.elim
    · refine rd ?_
      rw [ho]; exact hk
  · exact rd hk

def dstOf : List Oper → Nat → Option Nat
  | [], _ => none
  | o :: _, 0 => o.dst
  | _ :: l, n + 1 => dstOf l n
theorem dstOf_eq (l : List Oper) (j : Nat) : dstOf l j = (l[j]?).bind (·.dst) := by
  induction l generalizing j with
  | nil => simp [dstOf]
  | cons o l ih => cases j <;> simp [dstOf, ih]

/-- Whether an operation under a guard is run; a value that was passed over says no. -/
def gv (want : Bool) : AV → Option Bool
  | .v (.bool b) => some (bif want then b else !b)
  | .tup [] => some false
  | _ => none

def opsS (P : Program) (L : Lay) (all : List Oper) : List Oper → AS → (AS → Prop) → Prop
  | [], s, K => K s
  | o :: os, s, K => match o.guard with
    | none => opS P L o s fun s' => opsS P L all os s' K
    | some (j, want) => (match dstOf all j with
      | some d => (match gv want (lk s.tmps d) with
        | some b => ifK b (fun _ => opS P L o s fun s' => opsS P L all os s' K) (fun _ => opsS P L all os (s.put o.dst (.tup [])) K)
        | none => False)
      | none => False)

theorem wanted_of {F : Frm} {s : AS} {a : Act} {E : Env} (h : Ok F s a E) {ops : Array Oper} {o : Oper} {j d : Nat} {want b : Bool} (hg : o.guard = some (j, want)) (hd : dstOf ops.toList j = some d) (hb : gv want (lk s.tmps d) = some b) :
    Region.wanted o (yielded ops a.tmps) = b := by
  have ht := h.tmp d
  rw [dstOf_eq, Array.getElem?_toList] at hd
  unfold gv at hb
  split at hb
  · rename_i b' hx
    rw [hx] at ht
    have hv := ht.bool_inv
    have hsz : a.tmps[d]? = some (.bool b') := by
      rw [Array.getD_eq_getD_getElem?] at hv
      cases hq : a.tmps[d]? with
      | none => rw [hq] at hv; simp [undef] at hv
      | some u => rw [hq] at hv; simp at hv; rw [hv]
    cases hb
    simp only [Region.wanted, hg, yielded, hd, Option.bind_some, hsz]
    cases b' <;> cases want <;> rfl
  · rename_i hx
    rw [hx] at ht
    simp only [RT] at ht
    obtain ⟨cs, h1, h2⟩ := ht
    have hcs : cs = [] := by
      cases cs with
      | nil => rfl
      | cons c cs => simp [RTL] at h2
    subst hcs
    cases hb
    have hno : ∀ b', a.tmps[d]? ≠ some (.bool b') := fun b' hq => by
      rw [Array.getD_eq_getD_getElem?, hq] at h1
      simp at h1
    simp only [Region.wanted, hg, yielded, hd, Option.bind_some]
    cases hq : a.tmps[d]? with
    | none => rfl
    | some u =>
      cases u with
      | bool b' => exact absurd hq (hno b')
      | _ => rfl
  · cases hb

theorem opsS_sound {P : Program} {L : Lay} (hL : LOk P L) {F : Frm} (hG : ∀ w, Kept F.Sh F.w0 w → GoodW P w) {ops : Array Oper} {Q : Exit → Act → World → Prop} {K : AS → Prop} (hn : ∀ a' w', Sat F K a' w' → Q .normal a' w') :
    ∀ (os : List Oper) (k : Nat), ops.toList.drop k = os → ∀ {s : AS} {a : Act} {E : Env}, Ok F s a E → opsS P L ops.toList os s K → wpOps P ops Q (List.range' k os.length) a E.w
  | [], k, _, s, a, E, h, hk => by
    simp only [List.length_nil, List.range'_zero, wpOps]
    exact hn _ _ ⟨s, E, rfl, h, hk⟩
  | o :: os, k, hd, s, a, E, h, hk => by
    have ho : ops[k]? = some o := by
      have := congrArg (fun l => l[0]?) hd
      simpa [List.getElem?_drop] using this
    have hd' : ops.toList.drop (k + 1) = os := by
      have := congrArg List.tail hd
      simpa [List.tail_drop] using this
    simp only [List.length_cons, List.range'_succ, wpOps, ho]
    simp only [opsS] at hk
    have run : opS P L o s (fun s' => opsS P L ops.toList os s' K) → o.wp P a E.w (wpOps P ops Q (List.range' (k + 1) os.length)) Q := fun hk =>
      opS_sound hL hG h (fun a' w' ⟨s', E', e1, e2, e3⟩ => by rw [← e1]; exact opsS_sound hL hG hn os (k + 1) hd' e2 e3) hk
    have skip : opsS P L ops.toList os (s.put o.dst (.tup [])) K → wpOps P ops Q (List.range' (k + 1) os.length) (a.put o.dst undef) E.w := fun hk =>
      opsS_sound hL hG hn os (k + 1) hd' (h.put o.dst (x := .tup []) (c := undef) (by simp only [RT]; exact ⟨[], rfl, by simp [RTL]⟩)) hk
    split at hk
    · rename_i hg
      have : Region.wanted o (yielded ops a.tmps) = true := by simp [Region.wanted, hg]
      rw [if_pos this]
      exact .inl (run hk)
    · rename_i j want hg
      split at hk
      · rename_i d hdd
        split at hk
        · rename_i b hb
          have hw := wanted_of h hg hdd hb
          cases b <;> simp only [ifK] at hk
          · rw [if_neg (by rw [hw]; decide)]; exact skip hk
          · rw [if_pos hw]; exact .inl (run hk)
        · exact hk.elim
      · exact hk.elim

end Go.Eng
/- Regions that draw: any order gives what one order gives. -/
namespace Go.Eng
open Go.RowKit
set_option linter.unusedSimpArgs false
set_option linter.unusedVariables false
set_option linter.unusedSectionVars false

theorem ifK_yes {b : Bool} {k k' : Unit → Prop} (hb : b = true) (h : k ()) : ifK b k k' := by
  subst hb; exact h

/-- What is said of a value is said of one value. -/
def Wit {α : Type} (Φ : (α → Prop) → Prop) : Prop := ∀ K, Φ K → ∃ y, K y ∧ ∀ K', K' y → Φ K'
theorem Wit.bind {α β : Type} {Φ : (α → Prop) → Prop} {Ψ : α → (β → Prop) → Prop} (h : Wit Φ) (h' : ∀ x, Wit (Ψ x)) : Wit (fun K => Φ fun x => Ψ x K) := by
  intro K hk
  obtain ⟨x, h1, h2⟩ := h _ hk
  obtain ⟨y, h3, h4⟩ := h' x _ h1
  exact ⟨y, h3, fun K' hk' => h2 _ (h4 _ hk')⟩
theorem Wit.map {α β : Type} {Φ : (α → Prop) → Prop} (h : Wit Φ) (f : α → β) : Wit (fun K => Φ fun x => K (f x)) :=
  h.bind (Ψ := fun x K => K (f x)) fun x K hk => ⟨f x, hk, fun _ h => h⟩

theorem idxK_wit {l : List AV} {i : Nat} : Wit (idxK l i) := fun K h => by
  obtain ⟨x, h1, h2⟩ := idxK_iff.1 h
  exact ⟨x, h2, fun K' h' => idxK_iff.2 ⟨x, h1, h'⟩⟩
theorem idxI_wit {l : List AV} {n : Int} : Wit (idxI l n) := fun K h => by
  obtain ⟨h0, x, h1, h2⟩ := idxI_iff.1 h
  exact ⟨x, h2, fun K' h' => idxI_iff.2 ⟨h0, x, h1, h'⟩⟩
theorem ltI_wit {l : List AV} {n : Int} : Wit (ltI l n) := fun K h => by
  obtain ⟨h0, h1, h2⟩ := ltI_iff.1 h
  exact ⟨_, h2, fun K' h' => ltI_iff.2 ⟨h0, h1, h'⟩⟩
theorem ldc_wit {ti : TI} {cs : List AV} : Wit (ldc ti cs) := fun K h => by
  unfold ldc at h
  cases hb : ti.d.agg with
  | true =>
    rw [hb] at h
    simp only [ifK] at h
    obtain ⟨h1, h2⟩ := ifK_inv h
    exact ⟨_, h2, fun K' h' => by unfold ldc; rw [hb]; exact ifK_yes rfl (ifK_yes h1 h')⟩
  | false =>
    rw [hb] at h
    simp only [ifK] at h
    split at h
    · exact ⟨_, h, fun K' h' => by unfold ldc; rw [hb]; exact h'⟩
    · exact h.elim
theorem eqK_wit {L : Lay} {t : Nat} {x y : AV} : Wit (eqK L t x y) := fun K h => by
  unfold eqK at h
  split at h
  · obtain ⟨h1, h2⟩ := ifK_inv h
    exact ⟨_, h2, fun K' h' => by unfold eqK; exact ifK_yes h1 h'⟩
  · split at h
    · rename_i hl
      exact ⟨_, h, fun K' h' => by unfold eqK; simp only [hl]; exact h'⟩
    · exact h.elim
  · exact ⟨_, h, fun K' h' => by unfold eqK; exact h'⟩
  · split at h
    · rename_i h3 h4 h5
      obtain ⟨h1, h2⟩ := ifK_inv h
      exact ⟨_, h2, fun K' h' => by unfold eqK; simp only [h3, h4, h5]; exact ifK_yes h1 h'⟩
    · exact h.elim
  · exact h.elim
theorem binK_wit {L : Lay} {op : BinOp} {t : Nat} {x y : AV} : Wit (binK L op t x y) := fun K h => by
  unfold binK at h
  split at h
  · exact eqK_wit.map (fun b => .v (.bool b)) K h
  · exact eqK_wit.map (fun b => .v (.bool !b)) K h
  all_goals first
    | exact h.elim
    | (split at h
       all_goals first
         | exact h.elim
         | (obtain ⟨h1, h2⟩ := ifK_inv h; first
             | exact ⟨_, h2, fun K' h' => by unfold binK; exact ifK_yes h1 h'⟩
             | exact ⟨_, h2.2, fun K' h' => by unfold binK; exact ifK_yes h1 ⟨h2.1, h'⟩⟩)
         | exact ⟨_, h.2, fun K' h' => by unfold binK; exact ⟨h.1, h'⟩⟩)
theorem unK_wit {op : UnOp} {x : AV} : Wit (unK op x) := fun K h => by
  unfold unK at h
  split at h
  · exact ⟨_, h, fun K' h' => by unfold unK; exact h'⟩
  · exact ⟨_, h, fun K' h' => by unfold unK; exact h'⟩
  · exact h.elim
theorem offK_wit {L : Lay} {t f : Nat} : Wit (offK L t f) := fun K h => by
  unfold offK at h
  split at h
  · rename_i h1
    split at h
    · rename_i off ft h2
      split at h
      · rename_i fi h3
        have key : (fi.size == 0) = false ∧ K off := by
          cases hc : fi.size == 0 with
          | false => rw [hc] at h; exact ⟨rfl, h⟩
          | true => rw [hc] at h; exact h.elim
        exact ⟨_, key.2, fun K' h' => by unfold offK; simp only [h1, h2, h3]; rw [key.1]; exact h'⟩
      · exact h.elim
    · exact h.elim
  · exact h.elim
theorem indexK_wit {L : Lay} {g : Nat → Option Ob} {t : Nat} {x i : AV} : Wit (indexK L g t x i) := fun K h => by
  unfold indexK at h
  split at h
  · rename_i hl
    split at h
    · rename_i h3
      obtain ⟨h1, h2⟩ := ifK_inv h
      obtain ⟨y, h4, h5⟩ := idxI_wit.map (fun y => AV.ip (cellsOf y) 0) K h2
      exact ⟨y, h4, fun K' h' => by unfold indexK; simp only [hl, h3]; exact ifK_yes h1 (h5 K' h')⟩
    · exact h.elim
  · rename_i hl
    split at h
    · rename_i h3 h6
      obtain ⟨h1, h2⟩ := ifK_inv h
      obtain ⟨y, h4, h5⟩ := ltI_wit.map (fun k => AV.ptr _ k 0) K h2
      exact ⟨y, h4, fun K' h' => by unfold indexK; simp only [hl, h3, h6]; exact ifK_yes h1 (h5 K' h')⟩
    · exact h.elim
  · rename_i hl
    split at h
    · rename_i h3 h6
      obtain ⟨h1, h2, h4, h5⟩ := ifK_inv h
      exact ⟨_, h5, fun K' h' => by unfold indexK; simp only [hl, h3, h6]; exact ifK_yes h1 ⟨h2, h4, h'⟩⟩
    · exact h.elim
  · exact h.elim
theorem strK_wit {L : Lay} {t : Nat} {x i : AV} : Wit (strK L t x i) := fun K h => by
  unfold strK at h
  split at h
  · rename_i hl
    obtain ⟨h1, h2, h3⟩ := h
    exact ⟨_, h3, fun K' h' => by unfold strK; simp only [hl]; exact ⟨h1, h2, h'⟩⟩
  · exact h.elim
theorem lenK_wit {L : Lay} {g : Nat → Option Ob} {t : Nat} {x : AV} : Wit (lenK L g t x) := fun K h => by
  unfold lenK at h
  split at h
  · rename_i hl; exact ⟨_, h, fun K' h' => by unfold lenK; simp only [hl]; exact h'⟩
  · rename_i hl
    split at h
    · rename_i h3; exact ⟨_, h, fun K' h' => by unfold lenK; simp only [hl, h3]; exact h'⟩
    · exact h.elim
  · rename_i hl
    split at h
    · rename_i h3; exact ⟨_, h, fun K' h' => by unfold lenK; simp only [hl, h3]; exact h'⟩
    · exact h.elim
  · rename_i hl; exact ⟨_, h, fun K' h' => by unfold lenK; simp only [hl]; exact h'⟩
  · rename_i hl; exact ⟨_, h, fun K' h' => by unfold lenK; simp only [hl]; exact h'⟩
  · exact h.elim
theorem callK_wit {P : Program} {f : FuncId} {args : List AV} : Wit (callK P f args) := fun K h => by
  unfold callK at h
  obtain ⟨r, h1, h2⟩ := h
  exact ⟨r, h2, fun K' h' => callK_of h1 h'⟩

theorem fillK_wit {L : Lay} {fs : List (Nat × Nat)} {ev : Operand → AV} : ∀ {ps : List (Nat × Operand)} {cs : List AV}, Wit (fillK L fs ev cs ps)
  | [], cs, K, h => ⟨cs, h, fun K' h' => h'⟩
  | (i, x) :: ps, cs, K, h => by
    simp only [fillK] at h
    split at h
    · rename_i h1
      split at h
      · rename_i h2
        obtain ⟨h3, h4⟩ := ifK_inv h
        obtain ⟨y, h5, h6⟩ := fillK_wit K h4
        exact ⟨y, h5, fun K' h' => by simp only [fillK, h1, h2]; exact ifK_yes h3 (h6 K' h')⟩
      · exact h.elim
    · exact h.elim
theorem buildK_wit {L : Lay} {t : Nat} {ev : Operand → AV} {ps : List (Nat × Operand)} : Wit (buildK L t ev ps) := fun K h => by
  unfold buildK at h
  split at h
  · rename_i h1
    obtain ⟨h3, h4⟩ := ifK_inv h
    obtain ⟨y, h5, h6⟩ := fillK_wit.map AV.agg K h4
    exact ⟨y, h5, fun K' h' => by simp only [buildK, h1]; exact ifK_yes h3 (h6 K' h')⟩
  · exact h.elim
theorem fillK_congr {L : Lay} {fs : List (Nat × Nat)} {ev ev' : Operand → AV} {K : List AV → Prop} : ∀ {ps : List (Nat × Operand)} {cs : List AV}, (∀ p ∈ ps, ev' p.2 = ev p.2) → fillK L fs ev cs ps K → fillK L fs ev' cs ps K
  | [], cs, _, h => h
  | (i, x) :: ps, cs, he, h => by
    have hx := he (i, x) (by simp)
    simp only at hx
    simp only [fillK] at h ⊢
    split at h
    · split at h
      · obtain ⟨h3, h4⟩ := ifK_inv h
        rw [hx]
        exact ifK_yes h3 (fillK_congr (fun p hp => he p (by simp [hp])) h4)
      · exact h.elim
    · exact h.elim
theorem buildK_congr {L : Lay} {t : Nat} {ev ev' : Operand → AV} {ps : List (Nat × Operand)} {K : AV → Prop} (he : ∀ p ∈ ps, ev' p.2 = ev p.2) (h : buildK L t ev ps K) : buildK L t ev' ps K := by
  unfold buildK at h ⊢
  split at h
  · obtain ⟨h3, h4⟩ := ifK_inv h
    exact ifK_yes h3 (fillK_congr he h4)
  · exact h.elim

theorem minK_wit {x y : AV} : Wit (minK x y) := fun K h => by
  unfold minK at h
  split at h
  · exact ⟨_, h, fun K' h' => by unfold minK; exact h'⟩
  · exact h.elim
theorem maxK_wit {x y : AV} : Wit (maxK x y) := fun K h => by
  unfold maxK at h
  split at h
  · exact ⟨_, h, fun K' h' => by unfold maxK; exact h'⟩
  · exact h.elim
theorem fnK_wit {x : AV} : Wit (fnK x) := fun K h => by
  unfold fnK at h
  split at h
  · exact ⟨_, h, fun K' h' => by unfold fnK; exact h'⟩
  · exact h.elim
theorem convK_wit {L : Lay} {t u : Nat} {x : AV} : Wit (convK L t u x) := fun K h => by
  unfold convK at h
  split at h
  · rename_i h1 h2
    exact ⟨_, h, fun K' h' => by unfold convK; simp only [h1, h2]; exact h'⟩
  · exact h.elim

theorem bndK_wit {ev : Operand → AV} {x : Option Operand} {d : Int} : Wit (bndK ev x d) := fun K h => by
  unfold bndK at h
  split at h
  · exact ⟨_, h, fun K' h' => by simp only [bndK]; exact h'⟩
  · split at h
    · rename_i h1
      exact ⟨_, h, fun K' h' => by simp only [bndK, h1]; exact h'⟩
    · exact h.elim
theorem subK_wit {L : Lay} {t : Nat} {ev : Operand → AV} {x : Operand} {lo hi mx : Option Operand} : Wit (subK L t ev x lo hi mx) := fun K h => by
  unfold subK at h
  split at h
  · rename_i b _ _ _ _ h1 h2
    obtain ⟨l, g1, g2⟩ := bndK_wit _ h
    obtain ⟨u, g3, g4⟩ := bndK_wit _ g1
    obtain ⟨k1, k2, k3, k4⟩ := g3
    exact ⟨_, k4, fun K' h' => by simp only [subK, h1, h2]; exact g2 _ (g4 _ ⟨k1, k2, k3, h'⟩)⟩
  · exact h.elim
theorem bndK_congr {ev ev' : Operand → AV} {x : Option Operand} {d : Int} {K : Int → Prop} (he : ∀ y, x = some y → ev' y = ev y) (h : bndK ev x d K) : bndK ev' x d K := by
  cases x with
  | none => exact h
  | some y => simp only [bndK] at h ⊢; rw [he y rfl]; exact h
theorem subK_congr {L : Lay} {t : Nat} {ev ev' : Operand → AV} {x : Operand} {lo hi mx : Option Operand} {K : AV → Prop} (hx : ev' x = ev x) (hl : ∀ y, lo = some y → ev' y = ev y) (hh : ∀ y, hi = some y → ev' y = ev y)
    (h : subK L t ev x lo hi mx K) : subK L t ev' x lo hi mx K := by
  unfold subK at h ⊢
  rw [hx]
  split at h
  · have h1 := bndK_congr hl h
    obtain ⟨l, g1, g2⟩ := bndK_wit _ h1
    exact g2 _ (bndK_congr hh g1)
  · exact h.elim

theorem srcK_wit {g : Nat → Option Ob} {x : AV} {α : Type} {Φ : Nat → List AV → (α → Prop) → Prop} (hΦ : ∀ n l, Wit (Φ n l)) : Wit (fun K => srcK g x fun n l => Φ n l K) := fun K h => by
  unfold srcK at h
  split at h
  · obtain ⟨y, h1, h2⟩ := hΦ _ _ K h
    exact ⟨y, h1, fun K' h' => by simp only [srcK]; exact h2 K' h'⟩
  · split at h
    · rename_i hl
      obtain ⟨y, h1, h2⟩ := hΦ _ _ K h
      exact ⟨y, h1, fun K' h' => by simp only [srcK, hl]; exact h2 K' h'⟩
    · exact h.elim
  · split at h
    · rename_i hl
      obtain ⟨y, h1, h2⟩ := hΦ _ _ K h
      exact ⟨y, h1, fun K' h' => by simp only [srcK, hl]; exact h2 K' h'⟩
    · exact h.elim
  · exact h.elim
theorem bnd2_wit {ev : Operand → AV} {lo hi : Option Operand} {d e : Int} {C : Int → Int → Prop} {v : Int → Int → AV} {Φ : Prop → Prop} :
    ∀ (K : AV → Prop), (bndK ev lo d fun l => bndK ev hi e fun h => C l h ∧ K (v l h)) → ∃ y, K y ∧ ∀ K' : AV → Prop, K' y → bndK ev lo d fun l => bndK ev hi e fun h => C l h ∧ K' (v l h) := fun K h => by
  obtain ⟨l, g1, g2⟩ := bndK_wit _ h
  obtain ⟨u, g3, g4⟩ := bndK_wit _ g1
  exact ⟨_, g3.2, fun K' h' => g2 _ (g4 _ ⟨g3.1, h'⟩)⟩
theorem subsK_wit {g : Nat → Option Ob} {sz : Nat} {ev : Operand → AV} {x : Operand} {lo hi mx : Option Operand} : Wit (subsK g sz ev x lo hi mx) := fun K h => by
  unfold subsK at h
  split at h
  · rename_i h1
    obtain ⟨c, h⟩ := ifK_inv h
    obtain ⟨l, g1, g2⟩ := bndK_wit _ h
    obtain ⟨u, g3, g4⟩ := bndK_wit _ g1
    obtain ⟨k1, k2, k3, k4⟩ := g3
    exact ⟨_, k4, fun K' h' => by simp only [subsK, h1]; exact ifK_yes c (g2 _ (g4 _ ⟨k1, k2, k3, h'⟩))⟩
  · rename_i h1
    split at h
    · rename_i hB
      obtain ⟨c, h⟩ := ifK_inv h
      obtain ⟨l, g1, g2⟩ := bndK_wit _ h
      obtain ⟨u, g3, g4⟩ := bndK_wit _ g1
      obtain ⟨k1, k2, k3, k4⟩ := g3
      exact ⟨_, k4, fun K' h' => by simp only [subsK, h1, hB]; exact ifK_yes c (g2 _ (g4 _ ⟨k1, k2, k3, h'⟩))⟩
    · exact h.elim
  · rename_i h1
    obtain ⟨l, g1, g2⟩ := bndK_wit _ h
    obtain ⟨u, g3, g4⟩ := bndK_wit _ g1
    obtain ⟨k1, k2, k3, k4⟩ := g3
    exact ⟨_, k4, fun K' h' => by simp only [subsK, h1]; exact (g2 _ (g4 _ ⟨k1, k2, k3, h'⟩))⟩
  · exact h.elim
theorem slK_wit {L : Lay} {g : Nat → Option Ob} {t : Nat} {ev : Operand → AV} {x : Operand} {lo hi mx : Option Operand} : Wit (slK L g t ev x lo hi mx) := fun K h => by
  unfold slK at h
  split at h
  · rename_i h1
    split at h
    · rename_i h2
      obtain ⟨y, g1, g2⟩ := subsK_wit K h
      exact ⟨y, g1, fun K' h' => by simp only [slK, h1, h2]; exact g2 K' h'⟩
    · exact h.elim
  · rename_i h1
    obtain ⟨y, g1, g2⟩ := subK_wit K h
    refine ⟨y, g1, fun K' h' => ?_⟩
    unfold slK
    split
    · rename_i h2; exact absurd h2 (h1 _ _ _ _ _)
    · exact g2 K' h'
theorem ixK_wit {L : Lay} {g : Nat → Option Ob} {t : Nat} {x i : AV} : Wit (ixK L g t x i) := fun K h => by
  unfold ixK at h
  split at h
  · rename_i h1
    unfold arrK at h
    split at h
    · rename_i h2
      split at h
      · rename_i h3
        exact ⟨_, h.2, fun K' h' => by simp only [ixK, h1, arrK, h2, h3]; exact ⟨h.1, h'⟩⟩
      · exact h.elim
    · rename_i h2
      exact ⟨_, h.2, fun K' h' => by simp only [ixK, h1, arrK, h2]; exact ⟨h.1, h'⟩⟩
    · exact h.elim
  · rename_i h1
    obtain ⟨y, g1, g2⟩ := indexK_wit K h
    refine ⟨y, g1, fun K' h' => ?_⟩
    unfold ixK
    split
    · rename_i h2; exact absurd h2 (h1 _ _ _ _ _ _)
    · exact g2 K' h'
theorem mpK_wit {P : Program} {L : Lay} {t : Nat} {x k : AV} : Wit (mpK P L t x k) := fun K h => by
  unfold mpK at h
  split at h
  · rename_i h1
    split at h
    · rename_i h2 h3
      split at h
      · rename_i h4
        exact ⟨_, h.2, fun K' h' => by simp only [mpK, h1, h2, h3, h4]; exact ⟨h.1, h'⟩⟩
      · exact h.elim
    · exact h.elim
  · exact h.elim
theorem cvK_wit {L : Lay} {g : Nat → Option Ob} {t u : Nat} {x : AV} : Wit (cvK L g t u x) := fun K h => by
  unfold cvK at h
  split at h
  · rename_i h1
    split at h
    · rename_i h2 h3
      split at h
      · exact ⟨_, h, fun K' h' => by simp only [cvK, h1, h2, h3]; exact h'⟩
      · rename_i hx
        have w : Wit (fun K : AV → Prop => srcK g x fun esz xs => match u8L xs with
            | some ns => ifK (Nat.beq esz 1) (fun _ => K (.v (.string (strOfNums ns)))) (fun _ => False)
            | none => False) := srcK_wit (α := AV) (Φ := fun esz xs (K : AV → Prop) => match u8L xs with
            | some ns => ifK (Nat.beq esz 1) (fun _ => K (.v (.string (strOfNums ns)))) (fun _ => False)
            | none => False) (fun n l K h => by
          split at h
          · rename_i ns hns
            obtain ⟨c, h⟩ := ifK_inv h
            exact ⟨_, h, fun K' h' => by simp only [hns]; exact ifK_yes c h'⟩
          · exact h.elim)
        obtain ⟨y, g1, g2⟩ := w K h
        refine ⟨y, g1, fun K' h' => ?_⟩
        simp only [cvK, h1, h2, h3]
        exact g2 K' h'
    · exact h.elim
  · rename_i h1
    obtain ⟨y, g1, g2⟩ := convK_wit K h
    refine ⟨y, g1, fun K' h' => ?_⟩
    unfold cvK
    split
    · rename_i h2; exact absurd h2 (h1 _ _ _ _ _)
    · exact g2 K' h'
theorem nilB_wit {nl : Option Bool} {xs : List AV} : Wit (nilB nl xs) := fun K h => by
  unfold nilB at h
  split at h
  · exact ⟨_, h, fun K' h' => by simp only [nilB]; exact h'⟩
  · exact ⟨_, h.2, fun K' h' => by simp only [nilB]; exact ⟨h.1, h'⟩⟩
theorem nilK_wit {g : Nat → Option Ob} {x : AV} : Wit (nilK g x) := fun K h => by
  unfold nilK at h
  split at h
  · exact ⟨_, h, fun K' h' => by simp only [nilK]; exact h'⟩
  · obtain ⟨y, g1, g2⟩ := nilB_wit K h
    exact ⟨y, g1, fun K' h' => by simp only [nilK]; exact g2 K' h'⟩
  · split at h
    · rename_i hB
      obtain ⟨y, g1, g2⟩ := nilB_wit K h
      exact ⟨y, g1, fun K' h' => by simp only [nilK, hB]; exact g2 K' h'⟩
    · exact h.elim
  · exact h.elim
theorem bnK_wit {L : Lay} {g : Nat → Option Ob} {op : BinOp} {t : Nat} {x y : AV} {yn : Bool} : Wit (bnK L g op t x y yn) := fun K h => by
  cases yn with
  | false => exact binK_wit K h
  | true =>
    unfold bnK at h
    simp only [] at h
    split at h
    · rename_i h1
      obtain ⟨y, g1, g2⟩ := nilK_wit.map (fun b => AV.v (.bool b)) K h
      exact ⟨y, g1, fun K' h' => by simp only [bnK, h1]; exact g2 K' h'⟩
    · rename_i h1
      obtain ⟨y, g1, g2⟩ := nilK_wit.map (fun b => AV.v (.bool !b)) K h
      exact ⟨y, g1, fun K' h' => by simp only [bnK, h1]; exact g2 K' h'⟩
    · exact h.elim

theorem rdS_wit {P : Program} {L : Lay} {op : Op} {ev : Operand → AV} {g : Nat → Option Ob} : Wit (rdS P L op ev g) := fun K h => by
  unfold rdS at h
  split at h
  · exact ⟨_, h, fun K' h' => h'⟩
  · exact ⟨_, h, fun K' h' => h'⟩
  · split at h
    · rename_i hc; exact ⟨_, h, fun K' h' => by simp only [rdS, hc]; exact h'⟩
    · exact h.elim
  · split at h
    · rename_i h1 h2
      split at h
      · rename_i h3
        obtain ⟨y, h4, h5⟩ := idxK_wit.bind (fun x => ldc_wit) K h
        exact ⟨y, h4, fun K' h' => by simp only [rdS, h1, h2, h3]; exact h5 K' h'⟩
      · exact h.elim
    · rename_i h1 h2
      obtain ⟨y, h4, h5⟩ := ldc_wit K h
      exact ⟨y, h4, fun K' h' => by simp only [rdS, h1, h2]; exact h5 K' h'⟩
    · exact h.elim
  · split at h
    · rename_i h1
      split at h
      · rename_i h3
        obtain ⟨y, h4, h5⟩ := offK_wit.map (fun off => AV.ptr _ _ (_ + off)) K h
        exact ⟨y, h4, fun K' h' => by simp only [rdS, h1, h3]; exact h5 K' h'⟩
      · exact h.elim
    · rename_i h1
      obtain ⟨y, h4, h5⟩ := offK_wit.map (fun off => AV.ip _ (_ + off)) K h
      exact ⟨y, h4, fun K' h' => by simp only [rdS, h1]; exact h5 K' h'⟩
    · exact h.elim
  · exact ixK_wit K h
  · exact strK_wit K h
  · exact bnK_wit K h
  · exact unK_wit K h
  · exact buildK_wit K h
  · exact slK_wit K h
  · exact fnK_wit K h
  · exact cvK_wit K h
  · exact mpK_wit K h
  · split at h
    · rename_i h1
      obtain ⟨y, h4, h5⟩ := idxK_wit K h
      exact ⟨y, h4, fun K' h' => by simp only [rdS, h1]; exact h5 K' h'⟩
    · exact h.elim
  · split at h
    · rename_i h1
      split at h
      · rename_i h2 h3
        obtain ⟨y, h4, h5⟩ := lenK_wit K h
        exact ⟨y, h4, fun K' h' => by simp only [rdS, h1, h2, h3]; exact h5 K' h'⟩
      · exact h.elim
    · rename_i h1
      split at h
      · rename_i h2
        obtain ⟨y, h4, h5⟩ := minK_wit K h
        exact ⟨y, h4, fun K' h' => by simp only [rdS, h1, h2]; exact h5 K' h'⟩
      · exact h.elim
    · rename_i h1
      split at h
      · rename_i h2
        obtain ⟨y, h4, h5⟩ := maxK_wit K h
        exact ⟨y, h4, fun K' h' => by simp only [rdS, h1, h2]; exact h5 K' h'⟩
      · exact h.elim
    · rename_i h1
      obtain ⟨y, h4, h5⟩ := callK_wit K h
      exact ⟨y, h4, fun K' h' => by simp only [rdS, h1]; exact h5 K' h'⟩
    · exact h.elim
  · exact h.elim

mutual
theorem view_congr {g g' : Nat → Option Ob} : ∀ {x : AV}, (∀ o, noRef o x = true ∨ g' o = g o) → view g' x = view g x
  | .row o, h => by
    rcases h o with h | h
    · simp [noRef] at h
    · simp only [view, h]
  | .osl o _ _, h => by
    rcases h o with h | h
    · simp [noRef] at h
    · simp only [view, h]
  | .agg xs, h => by
    simp only [noRef] at h
    simp only [view, viewL_congr h]
  | .v u, h => by
    have e : ∀ g, view g (.v u) = .v u := fun g => by unfold view; split <;> simp_all
    rw [e, e]
  | .sl _ _ _ _, h => by simp only [view]
  | .tup _, h => by simp only [view]
  | .ptr _ _ _, h => by simp only [view]
  | .ip _ _, h => by simp only [view]
  | .mp _, h => by simp only [view]
  | .fn _ _, h => by simp only [view]
  | .bad, h => by simp only [view]
theorem viewL_congr {g g' : Nat → Option Ob} : ∀ {xs : List AV}, (∀ o, noRefL o xs = true ∨ g' o = g o) → view.viewL g' xs = view.viewL g xs
  | [], h => by simp only [view.viewL]
  | x :: xs, h => by
    simp only [noRefL, Bool.and_eq_true] at h
    simp only [view.viewL]
    rw [view_congr (fun o => (h o).imp (·.1) id), viewL_congr (fun o => (h o).imp (·.2) id)]
end

theorem envL_congr {ev ev' : Operand → AV} : ∀ {l : List Operand}, (∀ x ∈ l, ev' x = ev x) → envL ev' l = envL ev l
  | [], _ => rfl
  | x :: l, h => by simp only [envL]; rw [h x (by simp), envL_congr (fun y hy => h y (by simp [hy]))]
theorem envL_noRef {ev : Operand → AV} {o : Nat} : ∀ {l : List Operand}, (∀ x ∈ l, noRef o (ev x) = true) → noRefL o (envL ev l) = true
  | [], _ => rfl
  | x :: l, h => by simp only [envL, noRefL, Bool.and_eq_true]; exact ⟨h x (by simp), envL_noRef (fun y hy => h y (by simp [hy]))⟩

theorem indexK_congr {L : Lay} {g g' : Nat → Option Ob} {t : Nat} {x i : AV} {K : AV → Prop} (hg : ∀ o, noRef o x = true ∨ g' o = g o) (h : indexK L g t x i K) : indexK L g' t x i K := by
  unfold indexK at h
  split at h
  · rename_i hl
    simp only [indexK, hl]; exact h
  · rename_i o _ _ _ _ _ _ _ hl
    rcases hg o with hn | hn
    · simp [noRef] at hn
    · simp only [indexK, hl, hn]; exact h
  · rename_i o _ _ _ _ _ _ _ _ _ hl
    rcases hg o with hn | hn
    · simp [noRef] at hn
    · simp only [indexK, hl, hn]; exact h
  · exact h.elim
theorem lenK_congr {L : Lay} {g g' : Nat → Option Ob} {t : Nat} {x : AV} {K : AV → Prop} (hg : ∀ o, noRef o x = true ∨ g' o = g o) (h : lenK L g t x K) : lenK L g' t x K := by
  unfold lenK at h
  split at h
  · rename_i hl
    simp only [lenK, hl]; exact h
  · rename_i o _ _ _ _ _ hl
    rcases hg o with hn | hn
    · simp [noRef] at hn
    · simp only [lenK, hl, hn]; exact h
  · rename_i o _ _ _ _ _ _ _ hl
    rcases hg o with hn | hn
    · simp [noRef] at hn
    · simp only [lenK, hl, hn]; exact h
  · rename_i hl
    simp only [lenK, hl]; exact h
  · rename_i hl
    simp only [lenK, hl]; exact h
  · exact h.elim

theorem srcK_congr {g g' : Nat → Option Ob} {x : AV} {K : Nat → List AV → Prop} (hg : ∀ o, noRef o x = true ∨ g' o = g o) (h : srcK g x K) : srcK g' x K := by
  unfold srcK at h
  split at h
  · simp only [srcK]; exact h
  · rename_i o
    rcases hg o with hn | hn
    · simp [noRef] at hn
    · simp only [srcK, hn]; exact h
  · rename_i o _ _
    rcases hg o with hn | hn
    · simp [noRef] at hn
    · simp only [srcK, hn]; exact h
  · exact h.elim
theorem subsK_congr {g g' : Nat → Option Ob} {sz : Nat} {ev ev' : Operand → AV} {x : Operand} {lo hi mx : Option Operand} {K : AV → Prop} (hx : ev' x = ev x) (hl : ∀ y, lo = some y → ev' y = ev y) (hh : ∀ y, hi = some y → ev' y = ev y)
    (hg : ∀ o, noRef o (ev x) = true ∨ g' o = g o) (h : subsK g sz ev x lo hi mx K) : subsK g' sz ev' x lo hi mx K := by
  have b2 : ∀ {d e : Int} {Φ : Int → Int → Prop}, (bndK ev lo d fun l => bndK ev hi e fun u => Φ l u) → bndK ev' lo d fun l => bndK ev' hi e fun u => Φ l u := fun h =>
    bndK_mono (fun l h => bndK_congr hh h) (bndK_congr hl h)
  unfold subsK at h
  split at h
  · rename_i h1
    obtain ⟨c, h⟩ := ifK_inv h
    simp only [subsK, hx, h1]; exact ifK_yes c (b2 h)
  · rename_i o h1
    split at h
    · rename_i hB
      obtain ⟨c, h⟩ := ifK_inv h
      have hn : g' o = g o := (hg o).resolve_left (by rw [h1]; simp [noRef])
      simp only [subsK, hx, h1, hn, hB]; exact ifK_yes c (b2 h)
    · exact h.elim
  · rename_i h1
    simp only [subsK, hx, h1]; exact b2 h
  · exact h.elim
theorem slK_congr {L : Lay} {g g' : Nat → Option Ob} {t : Nat} {ev ev' : Operand → AV} {x : Operand} {lo hi mx : Option Operand} {K : AV → Prop} (hx : ev' x = ev x) (hl : ∀ y, lo = some y → ev' y = ev y) (hh : ∀ y, hi = some y → ev' y = ev y)
    (hg : ∀ o, noRef o (ev x) = true ∨ g' o = g o) (h : slK L g t ev x lo hi mx K) : slK L g' t ev' x lo hi mx K := by
  unfold slK at h ⊢
  split at h
  · split at h
    · exact subsK_congr hx hl hh hg h
    · exact h.elim
  · exact subK_congr hx hl hh h
theorem ixK_congr {L : Lay} {g g' : Nat → Option Ob} {t : Nat} {x i : AV} {K : AV → Prop} (hg : ∀ o, noRef o x = true ∨ g' o = g o) (h : ixK L g t x i K) : ixK L g' t x i K := by
  unfold ixK at h ⊢
  split at h
  · unfold arrK at h
    split at h
    · rename_i o _ _ _ _ _ h2
      rcases hg o with hn | hn
      · simp [noRef] at hn
      · simp only [arrK, h2, hn]; exact h
    · rename_i h2
      simp only [arrK, h2]; exact h
    · exact h.elim
  · exact indexK_congr hg h
theorem cvK_congr {L : Lay} {g g' : Nat → Option Ob} {t u : Nat} {x : AV} {K : AV → Prop} (hg : ∀ o, noRef o x = true ∨ g' o = g o) (h : cvK L g t u x K) : cvK L g' t u x K := by
  unfold cvK at h ⊢
  split at h
  · split at h
    · split at h
      · exact h
      · exact srcK_congr hg h
    · exact h.elim
  · exact h
theorem nilK_congr {g g' : Nat → Option Ob} {x : AV} {K : Bool → Prop} (hg : ∀ o, noRef o x = true ∨ g' o = g o) (h : nilK g x K) : nilK g' x K := by
  unfold nilK at h
  split at h
  · simp only [nilK]; exact h
  · simp only [nilK]; exact h
  · rename_i o
    rcases hg o with hn | hn
    · simp [noRef] at hn
    · simp only [nilK, hn]; exact h
  · exact h.elim
theorem bnK_congr {L : Lay} {g g' : Nat → Option Ob} {op : BinOp} {t : Nat} {x y : AV} {yn : Bool} {K : AV → Prop} (hg : ∀ o, noRef o x = true ∨ g' o = g o) (h : bnK L g op t x y yn K) : bnK L g' op t x y yn K := by
  cases yn with
  | false => exact h
  | true =>
    unfold bnK at h ⊢
    simp only [] at h ⊢
    split at h
    · exact nilK_congr hg h
    · exact nilK_congr hg h
    · exact h.elim


theorem rdS_congr {P : Program} {L : Lay} {op : Op} {ev ev' : Operand → AV} {g g' : Nat → Option Ob} {K : AV → Prop} (he : ∀ x ∈ op.operands, ev' x = ev x)
    (hg : ∀ o, (∀ x ∈ op.operands, noRef o (ev x) = true) ∨ g' o = g o) (h : rdS P L op ev g K) : rdS P L op ev' g' K := by
  unfold rdS at h
  split at h
  · simp only [rdS]; rw [he _ (by simp [Op.operands])]; exact h
  · simp only [rdS]; rw [he _ (by simp [Op.operands])]; exact h
  · rename_i c x y
    simp only [rdS]; rw [he c (by simp [Op.operands]), he x (by simp [Op.operands]), he y (by simp [Op.operands])]; exact h
  · rename_i t x
    have hx := he x (by simp [Op.operands])
    split at h
    · rename_i ob i c ti h1 h2
      have : g' ob = g ob := (hg ob).resolve_left (fun hn => by have := hn x (by simp [Op.operands]); rw [h1] at this; simp [noRef] at this)
      simp only [rdS, hx, h1, h2, this]
      exact h
    · rename_i h1 h2
      simp only [rdS, hx, h1, h2]; exact h
    · exact h.elim
  · rename_i t x f
    have hx := he x (by simp [Op.operands])
    split at h
    · rename_i ob i c h1
      have : g' ob = g ob := (hg ob).resolve_left (fun hn => by have := hn x (by simp [Op.operands]); rw [h1] at this; simp [noRef] at this)
      simp only [rdS, hx, h1, this]
      exact h
    · rename_i h1
      simp only [rdS, hx, h1]; exact h
    · exact h.elim
  · rename_i t x i
    simp only [rdS, he x (by simp [Op.operands]), he i (by simp [Op.operands])]
    exact ixK_congr (fun o => (hg o).imp (fun hn => hn x (by simp [Op.operands])) id) h
  · rename_i t x i
    simp only [rdS, he x (by simp [Op.operands]), he i (by simp [Op.operands])]
    exact h
  · rename_i op t x y _
    simp only [rdS, he x (by simp [Op.operands]), he y (by simp [Op.operands])]
    exact bnK_congr (fun o => (hg o).imp (fun hn => hn x (by simp [Op.operands])) id) h
  · rename_i op t x
    simp only [rdS, he x (by simp [Op.operands])]
    exact h
  · rename_i t ps
    simp only [rdS]
    exact buildK_congr (fun p hp => he p.2 (by simp only [Op.operands, List.mem_toArray, List.mem_map]; exact ⟨p, hp, rfl⟩)) h
  · rename_i t x lo hi mx
    simp only [rdS]
    exact slK_congr (he x (by simp [Op.operands])) (fun y hy => he y (by simp [Op.operands, hy])) (fun y hy => he y (by simp [Op.operands, hy])) (fun o => (hg o).imp (fun hn => hn x (by simp [Op.operands])) id) h
  · rename_i x
    simp only [rdS, he x (by simp [Op.operands])]
    exact h
  · rename_i t u x
    simp only [rdS, he x (by simp [Op.operands])]
    exact cvK_congr (fun o => (hg o).imp (fun hn => hn x (by simp [Op.operands])) id) h
  · rename_i t x k
    simp only [rdS, he x (by simp [Op.operands]), he k (by simp [Op.operands])]
    exact h
  · rename_i x i
    simp only [rdS, he x (by simp [Op.operands])]
    exact h
  · rename_i c
    have hc : ∀ x ∈ c.args.toList, x ∈ (Op.call c).operands := fun x hx => by simp [Op.operands, Call.operands, Array.mem_toList_iff.1 hx]
    split at h
    · rename_i h1
      split at h
      · rename_i x t h2 h3
        have hx := hc x (by rw [h2]; simp)
        simp only [rdS, h1, h2, h3, he x hx]
        exact lenK_congr (fun o => (hg o).imp (fun hn => hn x hx) id) h
      · exact h.elim
    · rename_i h1
      split at h
      · rename_i x y h2
        simp only [rdS, h1, h2, he x (hc x (by rw [h2]; simp)), he y (hc y (by rw [h2]; simp))]
        exact h
      · exact h.elim
    · rename_i h1
      split at h
      · rename_i x y h2
        simp only [rdS, h1, h2, he x (hc x (by rw [h2]; simp)), he y (hc y (by rw [h2]; simp))]
        exact h
      · exact h.elim
    · rename_i f h1
      simp only [rdS, h1]
      rw [envL_congr (fun x hx => he x (hc x hx)), viewL_congr (fun o => (hg o).imp (fun hn => envL_noRef fun x hx => hn x (hc x hx)) id)]
      exact h
    · exact h.elim
  · exact h.elim

theorem flat_noRef {x : AV} (h : flat x = true) (k : Nat) : noRefL k (cellsOf x) = true := by
  unfold flat at h
  revert h
  generalize cellsOf x = l
  intro h
  induction l with
  | nil => rfl
  | cons y l ih =>
    simp only [List.all_cons, Bool.and_eq_true] at h
    simp only [noRefL, Bool.and_eq_true]
    refine ⟨?_, ih h.2⟩
    have := h.1
    cases y <;> simp_all [flatC, noRef]
theorem zeroOf_noRef {ti : TI} (h : zeroOk ti = true) (k : Nat) : noRefL k (cellsOf (zeroOf ti)) = true := by
  rw [zeroOf_cells h]
  induction ti.zero with
  | nil => rfl
  | cons v l ih => simp only [List.map_cons, noRefL, noRef, ih, Bool.and_self]
theorem partsK_wit {ei : TI} {ev : Operand → AV} : ∀ {ps : List (Nat × Operand)} {els : List AV} {K : List AV → Prop}, (∀ k, ∀ x ∈ els, noRefL k (cellsOf x) = true) → partsK ei ev els ps K →
    ∃ ys, (∀ k, ∀ x ∈ ys, noRefL k (cellsOf x) = true) ∧ K ys ∧ ∀ K' : List AV → Prop, K' ys → partsK ei ev els ps K'
  | [], els, K, hf, h => ⟨els, hf, h, fun K' h' => h'⟩
  | (i, x) :: ps, els, K, hf, h => by
    simp only [partsK] at h
    obtain ⟨h1, h2⟩ := ifK_inv h
    obtain ⟨ys, h3, h4, h5⟩ := partsK_wit (fun k y hy => by
      rw [st_eq_set] at hy
      rcases List.mem_or_eq_of_mem_set hy with hy | hy
      · exact hf k y hy
      · rw [hy]
        simp only [Bool.and_eq_true] at h1
        exact flat_noRef h1.2.1 k) h2
    exact ⟨ys, h3, h4, fun K' h' => by simp only [partsK]; exact ifK_yes h1 (h5 K' h')⟩
theorem partsK_congr {ei : TI} {ev ev' : Operand → AV} {K : List AV → Prop} : ∀ {ps : List (Nat × Operand)} {els : List AV}, (∀ p ∈ ps, ev' p.2 = ev p.2) → partsK ei ev els ps K → partsK ei ev' els ps K
  | [], els, _, h => h
  | (i, x) :: ps, els, he, h => by
    have hx := he (i, x) (by simp)
    simp only at hx
    simp only [partsK] at h ⊢
    obtain ⟨h3, h4⟩ := ifK_inv h
    rw [hx]
    exact ifK_yes h3 (partsK_congr (fun p hp => he p (by simp [hp])) h4)
theorem rowK_wit {L : Lay} {op : Op} {ev : Operand → AV} {K : Nat → List AV → Prop} (h : rowK L op ev K) :
    ∃ esz els, (∀ k, ∀ x ∈ els, noRefL k (cellsOf x) = true) ∧ K esz els ∧ ∀ K' : Nat → List AV → Prop, K' esz els → rowK L op ev K' := by
  unfold rowK at h
  split at h
  · unfold makeK at h
    split at h
    · rename_i h1 h2 h3
      split at h
      · rename_i ei h4
        obtain ⟨h5, g1, g2, g3, g4, g5⟩ := ifK_inv h
        refine ⟨_, _, fun k x hx => ?_, g5, fun K' h' => by simp only [rowK, makeK, h1, h2, h3, h4]; exact ifK_yes h5 ⟨g1, g2, g3, g4, h'⟩⟩
        rw [(List.mem_replicate.1 hx).2]
        exact zeroOf_noRef h5 k
      · exact h.elim
    · exact h.elim
  · unfold bsK at h
    split at h
    · rename_i h1
      split at h
      · rename_i ei h2
        obtain ⟨h5, h6⟩ := ifK_inv h
        simp only [Bool.and_eq_true] at h5
        obtain ⟨ys, g1, g2, g3⟩ := partsK_wit (fun k x hx => by
          rw [(List.mem_replicate.1 hx).2]
          exact zeroOf_noRef h5.1 k) h6
        exact ⟨_, ys, g1, g2, fun K' h' => by simp only [rowK, bsK, h1, h2]; exact ifK_yes (by simp only [Bool.and_eq_true]; exact h5) (g3 _ h')⟩
      · exact h.elim
    · exact h.elim
  · exact h.elim
theorem rowK_congr {L : Lay} {op : Op} {ev ev' : Operand → AV} {K : Nat → List AV → Prop} (he : ∀ x ∈ op.operands, ev' x = ev x) (h : rowK L op ev K) : rowK L op ev' K := by
  unfold rowK at h
  split at h
  · rename_i t l c
    simp only [rowK, he l (by simp [Op.operands]), he c (by simp [Op.operands])]
    exact h
  · rename_i t len ps
    simp only [rowK]
    unfold bsK at h ⊢
    split at h
    · split at h
      · obtain ⟨h5, h6⟩ := ifK_inv h
        exact ifK_yes h5 (partsK_congr (fun p hp => he p.2 (by simp only [Op.operands, List.mem_toArray, List.mem_map]; exact ⟨p, hp, rfl⟩)) h6)
      · exact h.elim
    · exact h.elim
  · exact h.elim

end Go.Eng
/- Regions that draw: any order gives what one order gives. -/
namespace Go.Eng
open Go.RowKit
set_option linter.unusedSimpArgs false
set_option linter.unusedVariables false
set_option linter.unusedSectionVars false

/-- One step of a region. -/
def stepS (P : Program) (L : Lay) (all : List Oper) (o : Oper) (s : AS) (K : AS → Prop) : Prop := match o.guard with
  | none => opS P L o s K
  | some (j, want) => (match dstOf all j with
    | some d => (match gv want (lk s.tmps d) with
      | some b => ifK b (fun _ => opS P L o s K) (fun _ => K (s.put o.dst (.tup [])))
      | none => False)
    | none => False)

theorem opsS_cons {P : Program} {L : Lay} {all os : List Oper} {o : Oper} {s : AS} {K : AS → Prop} : opsS P L all (o :: os) s K = stepS P L all o s fun s' => opsS P L all os s' K := by
  rw [opsS]; unfold stepS; rfl

/-- Operations that change places: readers and new variables. -/
def cls : Op → Bool
  | .box _ _ => false
  | .store _ _ _ => false
  | .call c => (match c.callee with
    | .builtin .append => false
    | _ => true)
  | _ => true
def isRow : Op → Bool
  | .makeSlice _ _ _ => true
  | .buildSlice _ _ _ => true
  | _ => false
def isNew : Op → Bool
  | .alloc _ => true
  | op => isRow op
def newV (d : Nat) (B : Ob) : AV := bif B.box then .ptr d 0 0 else .row d

inductive Out where
  | val (y : AV)
  | new (d : Nat) (B : Ob)
def AS.out (s : AS) (dst : Option Nat) : Out → AS
  | .val y => s.put dst y
  | .new d B => { tmps := st s.tmps d (newV d B), objs := setO s.objs d B }

def GoodRow (L : Lay) (o : Oper) (s : AS) (out : Out) : Prop := ∃ esz els d, (∀ K : Nat → List AV → Prop, K esz els → rowK L o.op s.env K) ∧ (∀ k, ∀ x ∈ els, noRefL k (cellsOf x) = true) ∧
  o.dst = some d ∧ getO s.objs d = none ∧ noRefL d s.tmps = true ∧ noRefO d s.objs = true ∧ out = .new d ⟨esz, false, some false, els⟩
def GoodOp (P : Program) (L : Lay) (o : Oper) (s : AS) (out : Out) : Prop := match o.op with
  | .makeSlice _ _ _ => GoodRow L o s out
  | .buildSlice _ _ _ => GoodRow L o s out
  | .alloc t => ∃ ti d, lkT L t = some ti ∧ (ti.d.agg || (ti.zero.length == 1)) = true ∧ o.dst = some d ∧ getO s.objs d = none ∧ noRefL d s.tmps = true ∧ noRefO d s.objs = true ∧ noRefL d (cellsOf (zeroOf ti)) = true ∧ out = .new d ⟨ti.size, true, none, [zeroOf ti]⟩
  | op => ∃ y, out = .val y ∧ ∀ K : AV → Prop, K y → rdS P L op s.env (getO s.objs) K

def Good (P : Program) (L : Lay) (all : List Oper) (o : Oper) (s : AS) (out : Out) : Prop := match o.guard with
  | none => GoodOp P L o s out
  | some (j, want) => (match dstOf all j with
    | some d => (match gv want (lk s.tmps d) with
      | some b => ifK b (fun _ => GoodOp P L o s out) (fun _ => out = .val (.tup []))
      | none => False)
    | none => False)

theorem newBox_inv {d : Option Nat} {x : AV} {n : Nat} {s : AS} {K : AS → Prop} (h : newBox d x n s K) : ∃ e, d = some e ∧ getO s.objs e = none ∧ noRefL e s.tmps = true ∧ noRefO e s.objs = true ∧ noRefL e (cellsOf x) = true ∧
    K { tmps := st s.tmps e (.ptr e 0 0), objs := setO s.objs e ⟨n, true, none, [x]⟩ } := by
  unfold newBox at h
  split at h
  · rename_i e
    split at h
    · rename_i hg
      obtain ⟨h1, h2⟩ := ifK_inv h
      simp only [Bool.and_eq_true] at h1
      exact ⟨e, rfl, hg, h1.1, h1.2.1, h1.2.2, h2⟩
    · exact h.elim
  · exact h.elim
theorem newBox_of {x : AV} {n e : Nat} {s : AS} {K : AS → Prop} (h1 : getO s.objs e = none) (h2 : noRefL e s.tmps = true) (h3 : noRefO e s.objs = true) (h4 : noRefL e (cellsOf x) = true)
    (h : K { tmps := st s.tmps e (.ptr e 0 0), objs := setO s.objs e ⟨n, true, none, [x]⟩ }) : newBox (some e) x n s K := by
  unfold newBox
  simp only [h1]
  exact ifK_yes (by simp [h2, h3, h4]) h

theorem newRowK_inv {d : Option Nat} {els : List AV} {n : Nat} {s : AS} {K : AS → Prop} (h : newRowK d n els s K) : ∃ e, d = some e ∧ getO s.objs e = none ∧ noRefL e s.tmps = true ∧ noRefO e s.objs = true ∧
    K { tmps := st s.tmps e (.row e), objs := setO s.objs e ⟨n, false, some false, els⟩ } := by
  unfold newRowK at h
  split at h
  · rename_i e
    split at h
    · rename_i hg
      obtain ⟨h1, h2⟩ := ifK_inv h
      simp only [Bool.and_eq_true] at h1
      exact ⟨e, rfl, hg, h1.1, h1.2, h2⟩
    · exact h.elim
  · exact h.elim
theorem newRowK_of {els : List AV} {n e : Nat} {s : AS} {K : AS → Prop} (h1 : getO s.objs e = none) (h2 : noRefL e s.tmps = true) (h3 : noRefO e s.objs = true)
    (h : K { tmps := st s.tmps e (.row e), objs := setO s.objs e ⟨n, false, some false, els⟩ }) : newRowK (some e) n els s K := by
  unfold newRowK
  simp only [h1]
  exact ifK_yes (by simp [h2, h3]) h

section
variable {P : Program} {L : Lay}

theorem good_row {o : Oper} {s : AS} {K : AS → Prop} (h : rowK L o.op s.env fun esz els => newRowK o.dst esz els s K) : ∃ out, GoodRow L o s out ∧ K (s.out o.dst out) := by
  obtain ⟨esz, els, h1, h2, h3⟩ := rowK_wit h
  obtain ⟨d, g1, g2, g3, g4, g5⟩ := newRowK_inv h2
  exact ⟨.new d ⟨esz, false, some false, els⟩, ⟨esz, els, d, h3, h1, g1, g2, g3, g4, rfl⟩, g5⟩
theorem row_good {o : Oper} {s : AS} {K : AS → Prop} {out : Out} (h : GoodRow L o s out) (hk : K (s.out o.dst out)) : rowK L o.op s.env fun esz els => newRowK o.dst esz els s K := by
  obtain ⟨esz, els, d, h3, h1, g1, g2, g3, g4, rfl⟩ := h
  refine h3 _ ?_
  rw [g1]
  exact newRowK_of g2 g3 g4 hk

theorem good_op {o : Oper} {s : AS} {K : AS → Prop} (hc : cls o.op = true) (h : opS P L o s K) : ∃ out, GoodOp P L o s out ∧ K (s.out o.dst out) := by
  have rd : rdS P L o.op s.env (getO s.objs) (fun y => K (s.put o.dst y)) → ∃ y, (∀ K : AV → Prop, K y → rdS P L o.op s.env (getO s.objs) K) ∧ K (s.put o.dst y) := fun h => by
    obtain ⟨y, h1, h2⟩ := rdS_wit _ h
    exact ⟨y, h2, h1⟩
  unfold opS at h
  split at h
  · rename_i t ht
    split at h
    · rename_i ti hti
      obtain ⟨h1, h2⟩ := ifK_inv h
      obtain ⟨d, g1, g2, g3, g4, g5, g6⟩ := newBox_inv h2
      refine ⟨.new d ⟨ti.size, true, none, [zeroOf ti]⟩, ?_, g6⟩
      unfold GoodOp
      rw [ht]
      exact ⟨ti, d, hti, h1, g1, g2, g3, g4, g5, rfl⟩
    · exact h.elim
  · rename_i hb; rw [hb] at hc; simp [cls] at hc
  · rename_i hb; rw [hb] at hc; simp [cls] at hc
  · rename_i hb
    rw [← hb] at h
    obtain ⟨out, h1, h2⟩ := good_row h
    exact ⟨out, by unfold GoodOp; rw [hb]; exact h1, h2⟩
  · rename_i hb
    rw [← hb] at h
    obtain ⟨out, h1, h2⟩ := good_row h
    exact ⟨out, by unfold GoodOp; rw [hb]; exact h1, h2⟩
  · rename_i c ht
    split at h
    · rename_i hb; rw [ht] at hc; simp [cls, hb] at hc
    · obtain ⟨y, h1, h2⟩ := rd (by rw [ht]; exact h)
      refine ⟨.val y, ?_, h2⟩
      unfold GoodOp
      rw [ht] at h1 ⊢
      exact ⟨y, rfl, h1⟩
  · rename_i hna _ _ hm hbs _
    obtain ⟨y, h1, h2⟩ := rd h
    refine ⟨.val y, ?_, h2⟩
    unfold GoodOp
    split
    · rename_i ht; exact absurd ht (hm _ _ _)
    · rename_i ht; exact absurd ht (hbs _ _ _)
    · rename_i t ht; exact absurd ht (hna t)
    · exact ⟨y, rfl, h1⟩

theorem op_good {o : Oper} {s : AS} {K : AS → Prop} {out : Out} (hc : cls o.op = true) (h : GoodOp P L o s out) (hk : K (s.out o.dst out)) : opS P L o s K := by
  unfold GoodOp at h
  split at h
  · rename_i ht
    have := row_good h hk
    unfold opS; rw [ht] at this ⊢; exact this
  · rename_i ht
    have := row_good h hk
    unfold opS; rw [ht] at this ⊢; exact this
  · rename_i t ht
    obtain ⟨ti, d, h1, h2, h3, h4, h5, h6, h7, rfl⟩ := h
    unfold opS
    rw [ht]
    simp only [h1]
    refine ifK_yes h2 ?_
    rw [h3]
    exact newBox_of h4 h5 h6 h7 hk
  · rename_i hm hbs hna
    obtain ⟨y, rfl, h1⟩ := h
    have := h1 (fun y => K (s.put o.dst y)) hk
    unfold opS
    split
    · rename_i t ht; exact absurd ht (hna t)
    · rename_i hb; rw [hb] at hc; simp [cls] at hc
    · rename_i hb; rw [hb] at hc; simp [cls] at hc
    · rename_i ht; exact absurd ht (hm _ _ _)
    · rename_i ht; exact absurd ht (hbs _ _ _)
    · rename_i c ht
      split
      · rename_i hb; rw [ht] at hc; simp [cls, hb] at hc
      · rw [ht] at this; exact this
    · exact this

theorem good_step {all : List Oper} {o : Oper} {s : AS} {K : AS → Prop} (hc : cls o.op = true) (h : stepS P L all o s K) : ∃ out, Good P L all o s out ∧ K (s.out o.dst out) := by
  unfold stepS at h
  unfold Good
  split at h
  · exact good_op hc h
  · rename_i j want hg
    try simp only [hg]
    split at h
    · rename_i d hd
      try simp only [hd]
      split at h
      · rename_i b hb
        try simp only [hb]
        cases hw : b with
        | true => rw [hw] at h; simp only [ifK] at h ⊢; exact good_op hc h
        | false => rw [hw] at h; simp only [ifK] at h ⊢; exact ⟨_, rfl, h⟩
      · exact h.elim
    · exact h.elim

theorem step_good {all : List Oper} {o : Oper} {s : AS} {K : AS → Prop} {out : Out} (hc : cls o.op = true) (h : Good P L all o s out) (hk : K (s.out o.dst out)) : stepS P L all o s K := by
  unfold Good at h
  unfold stepS
  split at h
  · exact op_good hc h hk
  · rename_i j want hg
    try simp only [hg]
    split at h
    · rename_i d hd
      try simp only [hd]
      split at h
      · rename_i b hb
        try simp only [hb]
        cases hw : b with
        | true => rw [hw] at h; simp only [ifK] at h ⊢; exact op_good hc h hk
        | false => rw [hw] at h; simp only [ifK] at h ⊢; subst h; exact hk
      · exact h.elim
    · exact h.elim

mutual
theorem noRef_kil {o k : Nat} : ∀ {x : AV}, noRef k x = true → noRef k (mapA (klR o) (klO o) (frP o) x) = true
  | .row e, h => by simp only [mapA, klR]; cases Nat.beq e o <;> first | exact h | rfl
  | .osl e _ _, h => by simp only [mapA, klO]; cases Nat.beq e o <;> first | exact h | rfl
  | .ptr e _ _, h => by simp only [mapA, frP]; cases Nat.beq e o <;> first | exact h | rfl
  | .agg xs, h => by simp only [mapA, noRef] at *; exact noRefL_kil h
  | .tup xs, h => by simp only [mapA, noRef] at *; exact noRefL_kil h
  | .fn _ xs, h => by simp only [mapA, noRef] at *; exact noRefL_kil h
  | .v _, h => h
  | .sl _ _ _ _, h => h
  | .ip _ _, h => h
  | .mp _, h => h
  | .bad, h => h
theorem noRefL_kil {o k : Nat} : ∀ {xs : List AV}, noRefL k xs = true → noRefL k (mapA.mapL (klR o) (klO o) (frP o) xs) = true
  | [], h => h
  | x :: xs, h => by
    simp only [noRefL, Bool.and_eq_true, mapA.mapL] at *
    exact ⟨noRef_kil h.1, noRefL_kil h.2⟩
end
theorem lk_kil {o t k : Nat} {s : AS} (h : noRef k (lk s.tmps t) = true) : noRef k (lk (s.kil o).tmps t) = true := by
  have : lk (s.kil o).tmps t = mapA (klR o) (klO o) (frP o) (lk s.tmps t) := by
    simp only [AS.kil, AS.map, mapL_map, lk_eq, List.getD_eq_getElem?_getD, List.getElem?_map]
    cases s.tmps[t]? <;> rfl
  rw [this]; exact noRef_kil h
theorem lk_killO {ob : Option Nat} {t k : Nat} {s : AS} (h : noRef k (lk s.tmps t) = true) : noRef k (lk (killO s ob).tmps t) = true := by
  cases ob with
  | none => exact h
  | some o => exact lk_kil h
theorem baseK_wit {g : Nat → Option Ob} {sz : Nat} {x : AV} {K : Option Nat → List AV → Prop} (h : baseK g sz x K) : ∃ ob els, K ob els ∧ ∀ K' : Option Nat → List AV → Prop, K' ob els → baseK g sz x K' := by
  unfold baseK at h
  split at h
  · exact ⟨_, _, h, fun K' h' => by simp only [baseK]; exact h'⟩
  · split at h
    · rename_i hB
      obtain ⟨c, h⟩ := ifK_inv h
      exact ⟨_, _, h, fun K' h' => by simp only [baseK, hB]; exact ifK_yes c h'⟩
    · exact h.elim
  · split at h
    · rename_i hB
      obtain ⟨c, h⟩ := ifK_inv h
      exact ⟨_, _, h, fun K' h' => by simp only [baseK, hB]; exact ifK_yes c h'⟩
    · exact h.elim
  · exact h.elim
theorem apSrc_wit {L : Lay} {t sz : Nat} {g : Nat → Option Ob} {y : AV} {K : List AV → Prop} (h : apSrc L t g sz y K) : ∃ ys, K ys ∧ ∀ K' : List AV → Prop, K' ys → apSrc L t g sz y K' := by
  unfold apSrc at h
  split at h
  · rename_i h1
    split at h
    · obtain ⟨c, h⟩ := ifK_inv h
      exact ⟨_, h, fun K' h' => by simp only [apSrc, h1]; exact ifK_yes c h'⟩
    · exact h.elim
  · rename_i h1
    split at h
    · exact ⟨_, h, fun K' h' => by simp only [apSrc, h1]; exact h'⟩
    · rename_i hx
      have w : Wit (fun K : List AV → Prop => srcK g y fun esz xs => ifK (Nat.beq esz sz) (fun _ => K xs) (fun _ => False)) := srcK_wit (α := List AV) (Φ := fun esz xs (K : List AV → Prop) => ifK (Nat.beq esz sz) (fun _ => K xs) (fun _ => False)) (fun n l K h => by
        obtain ⟨c, h⟩ := ifK_inv h
        exact ⟨_, h, fun K' h' => ifK_yes c h'⟩)
      obtain ⟨ys, g1, g2⟩ := w K h
      refine ⟨ys, g1, fun K' h' => ?_⟩
      simp only [apSrc, h1]
      exact g2 K' h'
  · exact h.elim
theorem appK_mono {L : Lay} {t t2 : Nat} {d : Option Nat} {x y : AV} {s : AS} {K K' : AS → Prop} (h : appK L t t2 d x y s K) (hK : ∀ s', (∀ e k, d ≠ some e → noRef k (lk s.tmps e) = true → noRef k (lk s'.tmps e) = true) → K s' → K' s') : appK L t t2 d x y s K' := by
  unfold appK at h
  split at h
  · rename_i h1
    split at h
    · rename_i h2
      obtain ⟨ob, els, g1, g2⟩ := baseK_wit h
      obtain ⟨ys, g3, g4⟩ := apSrc_wit g1
      obtain ⟨c, g5, g6, g7⟩ := ifK_inv g3
      obtain ⟨d', rfl, k1, k2, k3, k4⟩ := newR_inv g7
      simp only [appK, h1, h2]
      refine g2 _ (g4 _ (ifK_yes c ⟨g5, g6, ?_⟩))
      unfold newR
      simp only [k1]
      refine ifK_yes (by simp [k2, k3]) (hK _ (fun e k he h0 => ?_) k4)
      simp only [lk_st]
      rw [if_neg]
      · exact lk_killO h0
      · rintro ⟨rfl, _⟩; exact he rfl
    · exact h.elim
  · exact h.elim

/-- What a step leaves alone. -/
theorem stepS_mono {all : List Oper} {o : Oper} {s : AS} {K K' : AS → Prop} (h : stepS P L all o s K) (hK : ∀ s', (∀ t k, o.dst ≠ some t → noRef k (lk s.tmps t) = true → noRef k (lk s'.tmps t) = true) → K s' → K' s') : stepS P L all o s K' := by
  have put0 : ∀ y t, o.dst ≠ some t → lk (s.put o.dst y).tmps t = lk s.tmps t := fun y t ht => by
    unfold AS.put
    split
    · rename_i d hd
      simp only [lk_st]
      rw [if_neg]
      rintro ⟨rfl, _⟩
      exact ht hd
    · rfl
  have put : ∀ y t k, o.dst ≠ some t → noRef k (lk s.tmps t) = true → noRef k (lk (s.put o.dst y).tmps t) = true := fun y t k ht h => by rw [put0 y t ht]; exact h
  have row : ∀ op, (rowK L op s.env fun esz els => newRowK o.dst esz els s K) → rowK L op s.env fun esz els => newRowK o.dst esz els s K' := fun op h => by
    obtain ⟨esz, els, h1, h2, h3⟩ := rowK_wit h
    obtain ⟨d, g1, g2, g3, g4, g5⟩ := newRowK_inv h2
    refine h3 _ ?_
    rw [g1]
    refine newRowK_of g2 g3 g4 (hK _ (fun t k ht h0 => ?_) g5)
    simp only [lk_st]; rw [if_neg]; exact h0; rintro ⟨rfl, _⟩; exact ht g1
  have op : opS P L o s K → opS P L o s K' := fun h => by
    unfold opS at h ⊢
    split at h
    · rename_i t ht
      split at h
      · rename_i ti hti
        obtain ⟨h1, h2⟩ := ifK_inv h
        obtain ⟨d, g1, g2, g3, g4, g5, g6⟩ := newBox_inv h2
        try simp only [hti]
        refine ifK_yes h1 ?_
        rw [g1]
        refine newBox_of g2 g3 g4 g5 (hK _ (fun t k ht h0 => ?_) g6)
        simp only [lk_st]; rw [if_neg]; exact h0; rintro ⟨rfl, _⟩; exact ht g1
      · exact h.elim
    · rename_i t x hb
      obtain ⟨h1, h2⟩ := ifK_inv h
      obtain ⟨d, g1, g2, g3, g4, g5, g6⟩ := newBox_inv h2
      refine ifK_yes h1 ?_
      rw [g1]
      refine newBox_of g2 g3 g4 g5 (hK _ (fun t k ht h0 => ?_) g6)
      simp only [lk_st]; rw [if_neg]; exact h0; rintro ⟨rfl, _⟩; exact ht g1
    · split at h
      · rename_i hd
        try simp only [hd]
        unfold storeK at h ⊢
        split at h
        · rename_i h1 h2
          try simp only [h1, h2]
          split at h
          · rename_i h3
            try simp only [h3]
            obtain ⟨h4, h5⟩ := ifK_inv h
            refine ifK_yes h4 ?_
            refine ifK_of (fun hc => ?_) (fun hc => ?_) <;> rw [hc] at h5 <;> simp only [ifK] at h5
            · obtain ⟨h6, h7⟩ := ltK_iff.1 h5
              exact ltK_iff.2 ⟨h6, hK _ (fun t k ht h0 => h0) h7⟩
            · obtain ⟨y, h6, h7⟩ := idxK_iff.1 h5
              obtain ⟨h8, h9⟩ := ifK_inv h7
              exact idxK_iff.2 ⟨y, h6, ifK_yes h8 (hK _ (fun t k ht h0 => h0) h9)⟩
          · exact h.elim
        · exact h.elim
      · exact h.elim
    · exact row _ h
    · exact row _ h
    · split at h
      · split at h
        · refine appK_mono h (fun s' g1 g2 => hK s' (fun t k ht => g1 t k ht) g2)
        · exact h.elim
      · obtain ⟨y, h1, h2⟩ := rdS_wit _ h
        exact h2 _ (hK _ (put y) h1)
    · obtain ⟨y, h1, h2⟩ := rdS_wit _ h
      exact h2 _ (hK _ (put y) h1)
  unfold stepS at h ⊢
  split at h
  · rename_i hg; exact op h
  · rename_i j want hg
    split at h
    · rename_i d hd
      try simp only [hd]
      split at h
      · rename_i b hb
        try simp only [hb]
        cases hw : b with
        | true => rw [hw] at h; simp only [ifK] at h ⊢; exact op h
        | false => rw [hw] at h; simp only [ifK] at h ⊢; exact hK _ (put _) h
      · exact h.elim
    · exact h.elim

/-- What an operation does it does in a state that looks the same to it. -/
theorem Good.of {ops : Array Oper} {o : Oper} {s s' : AS} {out : Out} (h : Good P L ops.toList o s out) (ht : ∀ t ∈ o.looksAt ops, lk s'.tmps t = lk s.tmps t)
    (ho : ∀ k, (∀ t ∈ o.looksAt ops, noRef k (lk s.tmps t) = true) ∨ getO s'.objs k = getO s.objs k)
    (hn : ∀ d B, out = .new d B → getO s'.objs d = none ∧ noRefL d s'.tmps = true ∧ noRefO d s'.objs = true) : Good P L ops.toList o s' out := by
  have he : ∀ x ∈ o.op.operands, s'.env x = s.env x := fun x hx => by
    cases x with
    | tmp t => exact ht t (List.mem_append_left _ (List.mem_filterMap.2 ⟨.tmp t, by simpa using hx, rfl⟩))
    | const c => rfl
    | func f => rfl
    | global g => rfl
  have hg : ∀ k, (∀ x ∈ o.op.operands, noRef k (s.env x) = true) ∨ getO s'.objs k = getO s.objs k := fun k => (ho k).imp (fun h x hx => by
    cases x with
    | tmp t => exact h t (List.mem_append_left _ (List.mem_filterMap.2 ⟨.tmp t, by simpa using hx, rfl⟩))
    | const c => simp only [AS.env]; cases plain c <;> rfl
    | func f => rfl
    | global g => rfl) id
  have row : GoodRow L o s out → GoodRow L o s' out := fun h => by
    obtain ⟨esz, els, d, h3, h1, g1, g2, g3, g4, h8⟩ := h
    obtain ⟨k1, k2, k3⟩ := hn d _ h8
    exact ⟨esz, els, d, fun K hk => rowK_congr he (h3 K hk), h1, g1, k1, k2, k3, h8⟩
  have op : GoodOp P L o s out → GoodOp P L o s' out := fun h => by
    unfold GoodOp at h ⊢
    split at h
    · exact row h
    · exact row h
    · rename_i t hop
      obtain ⟨ti, d, h1, h2, h3, h4, h5, h6, h7, h8⟩ := h
      obtain ⟨g1, g2, g3⟩ := hn d _ h8
      exact ⟨ti, d, h1, h2, h3, g1, g2, g3, h7, h8⟩
    · rename_i hna
      obtain ⟨y, h1, h2⟩ := h
      exact ⟨y, h1, fun K hk => rdS_congr he hg (h2 K hk)⟩
  unfold Good at h ⊢
  split at h
  · rename_i hgd; exact op h
  · rename_i j want hgd
    split at h
    · rename_i d hd
      try simp only [hd]
      have hl : d ∈ o.looksAt ops := by
        refine List.mem_append_right _ ?_
        rw [dstOf_eq, Array.getElem?_toList] at hd
        rw [hgd]
        simp only [hd, Option.toList_some, List.mem_singleton]
      split at h
      · rename_i b hb
        rw [ht d hl]; try simp only [hb]
        cases hw : b with
        | true => rw [hw] at h; simp only [ifK] at h ⊢; exact op h
        | false => rw [hw] at h; simp only [ifK] at h ⊢; exact h
      · exact h.elim
    · exact h.elim

end
end Go.Eng
