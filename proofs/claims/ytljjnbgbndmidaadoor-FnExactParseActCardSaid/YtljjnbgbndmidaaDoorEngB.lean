import Derived.Test.YtljjnbgbndmidaaDoorEngA
import Derived.Laws.MakeOwn
import Derived.Deep.AppendSrc
import Derived.Deep.Upon
import Derived.Laws.BytesArg
import Derived.WalkSpells
import Derived.MapKept
/- Operators. -/
namespace Go.Eng
open Go.RowKit
set_option linter.unusedSimpArgs false
set_option linter.unusedVariables false
set_option linter.unusedSectionVars false

theorem intCells_inv {E : Env} : ∀ {xs : List AV} {cs : List Value} {l : List Int}, RTL E xs cs → intCells xs = some l → cs = l.map (Value.int .i64) ∧ l.length = xs.length
  | [], [], l, _, h => by simp [intCells] at h; subst h; exact ⟨rfl, rfl⟩
  | x :: xs, c :: cs, l, hr, h => by
    simp only [RTL] at hr
    unfold intCells at h
    split at h
    · simp at *
    · rename_i n l' heq
      cases heq
      simp only [Option.map_eq_some_iff] at h
      obtain ⟨l'', h1, rfl⟩ := h
      obtain ⟨g1, g2⟩ := intCells_inv hr.2 h1
      exact ⟨by rw [hr.1.int_inv, g1]; rfl, by simp [g2]⟩
    · cases h
  | [], _ :: _, _, hr, _ => by simp [RTL] at hr
  | _ :: _, [], _, hr, _ => by simp [RTL] at hr

theorem bytes_eq (a b : ByteArray) : (a.toList == b.toList) = decide (a = b) := by
  by_cases h : a = b
  · subst h; simp
  · have : ¬ a.toList = b.toList := by
      rw [ByteArray.toList_eq, ByteArray.toList_eq]
      intro hh
      apply h
      cases a; cases b
      simp_all
    simp [h, this]

section
variable {P : Program} {L : Lay} (hL : LOk P L) {F : Frm} {s : AS} {a : Act} {E : Env} (h : Ok F s a E) {o : Oper} {next : Act → World → Prop} {Q : Exit → Act → World → Prop} {K : AS → Prop}
  (hn : ∀ a' w', Sat F K a' w' → next a' w')
include hL h

theorem run_eqK {x y : Operand} {t : Nat} {K' : Bool → Prop} (hk : eqK L t (s.env x) (s.env y) K') :
    ∃ b, K' b ∧ (do eqGuard .eql t x y (a.eval x) (a.eval y); binOp .eql t (a.eval x) (a.eval y) : Sem Value).run P E.w = .ok (.bool b) E.w ∧
      (do eqGuard .neq t x y (a.eval x) (a.eval y); binOp .neq t (a.eval x) (a.eval y) : Sem Value).run P E.w = .ok (.bool (!b)) E.w := by
  have hx := h.env x
  have hy := h.env y
  unfold eqK at hk
  split at hk
  · rename_i k u k' v hx' hy'
    rw [hx'] at hx; rw [hy'] at hy
    rw [hx.int_inv, hy.int_inv]
    cases hd : decide (k = k') with
    | false => rw [hd] at hk; exact hk.elim
    | true =>
      rw [hd] at hk
      have := of_decide_eq_true hd
      subst this
      refine ⟨_, hk, ?_, ?_⟩ <;> simp [eqGuard, binOp, Op.intCmp] <;> (by_cases h : u = v <;> simp [h, bne])
  · rename_i u v hx' hy'
    rw [hx'] at hx; rw [hy'] at hy
    rw [hx.bool_inv, hy.bool_inv]
    split at hk
    · rename_i ht
      have hu : P.underlying t = some .bool := (hL t _ ‹_›).desc
      refine ⟨_, hk, ?_, ?_⟩ <;> simp [eqGuard, binOp, Op.equal, Op.maxDepth, run_equalIn_bool' E.w 9999 t u v hu] <;> (cases u <;> cases v <;> rfl)
    · exact hk.elim
  · rename_i u v hx' hy'
    rw [hx'] at hx; rw [hy'] at hy
    rw [hx.str_inv, hy.str_inv]
    refine ⟨_, hk, ?_, ?_⟩ <;> simp [eqGuard, binOp, Op.stringOp, bytes_eq]
  · rename_i xs ys hx' hy'
    rw [hx'] at hx; rw [hy'] at hy
    split at hk
    · rename_i ti l m ht hl hm
      cases hc : ti.eq && (xs.length == ti.size) && (ys.length == ti.size) with
      | false => rw [hc] at hk; exact hk.elim
      | true =>
        rw [hc] at hk
        simp only [Bool.and_eq_true] at hc
        obtain ⟨⟨c1, c2⟩, c3⟩ := hc
        obtain ⟨cs, r1, r2, _⟩ := hx.agg_inv
        obtain ⟨ds, q1, q2, _⟩ := hy.agg_inv
        obtain ⟨i1, i2⟩ := intCells_inv r2 hl
        obtain ⟨j1, j2⟩ := intCells_inv q2 hm
        obtain ⟨e1, e2⟩ := (hL t ti ht).eqs c1
        have hrun := e2 E.w l m (by rw [i2]; exact eq_of_beq c2) (by rw [j2]; exact eq_of_beq c3)
        rw [r1, q1, i1, j1]
        refine ⟨_, hk, ?_, ?_⟩
        · simp only [Sem.run_bind, run_eqGuard_agg E.w .eql t x y _ _ e1, Result.andThen_ok, run_eql_struct, hrun]
        · simp only [Sem.run_bind, run_eqGuard_agg E.w .neq t x y _ _ e1, Result.andThen_ok, run_neq_struct, hrun]
    · exact hk.elim
  · exact hk.elim

include hn in
theorem sound_bin {op : BinOp} {t t' : Nat} {x y : Operand} (ho : o.op = .binOp op t x y t') (hk : binK L op t (s.env x) (s.env y) fun r => K (s.put o.dst r)) : o.wp P a E.w next Q := by
  have hx := h.env x
  have hy := h.env y
  have ex : ∀ v, (do eqGuard op t x y (a.eval x) (a.eval y); binOp op t (a.eval x) (a.eval y) : Sem Value).run P E.w = .ok v E.w → (execOp a.eval o).run P E.w = .ok (.value v) E.w := fun v hv => by
    unfold execOp
    simp only [ho, Sem.run_bind] at hv ⊢
    simp only [hv, Result.andThen_ok, Sem.run_pure]
  have arith : ∀ (op' : BinOp) (K' : IntKind → Int → Int → Prop), op = op' → (op' ≠ .eql ∧ op' ≠ .neq) →
      (∀ k u v, K' k u v → ∃ r, RT E (.v r) r ∧ K (s.put o.dst (.v r)) ∧ (binOp op' t (.int k u) (.int k v)).run P E.w = .ok r E.w) →
      (match s.env x, s.env y with
        | .v (.int k u), .v (.int k' v) => ifK (decide (k = k')) (fun _ => K' k u v) (fun _ => False)
        | _, _ => False) → o.wp P a E.w next Q := by
    intro op' K' hop hne hr hm
    split at hm
    · rename_i k u k' v hx' hy'
      rw [hx'] at hx; rw [hy'] at hy
      cases hd : decide (k = k') with
      | false => rw [hd] at hm; exact hm.elim
      | true =>
        rw [hd] at hm
        have := of_decide_eq_true hd
        subst this
        obtain ⟨r, r1, r2, r3⟩ := hr _ _ _ hm
        refine sound_put h hn (ex r ?_) r1 r2
        subst hop
        rw [hx.int_inv, hy.int_inv]
        have hg : (eqGuard op t x y (.int k u) (.int k v)).run P E.w = .ok () E.w := by
          cases op <;> simp_all [eqGuard]
        simp only [Sem.run_bind, hg, Result.andThen_ok, r3]
    · exact hm.elim
  cases op with
  | eql =>
    simp only [binK] at hk
    obtain ⟨b, h1, h2, _⟩ := run_eqK hL h hk
    exact sound_put h hn (ex _ h2) (RT.bool b) h1
  | neq =>
    simp only [binK] at hk
    obtain ⟨b, h1, _, h3⟩ := run_eqK hL h hk
    exact sound_put h hn (ex _ h3) (RT.bool (!b)) h1
  | add =>
    simp only [binK] at hk
    split at hk
    · rename_i k u k' v hx' hy'
      refine arith .add (fun k u v => K (s.put o.dst (.v (.int k (k.wrap (u + v)))))) rfl (by simp) (fun k u v hh => ⟨_, RT.int _ _, hh, by simp [binOp, Op.intArith]⟩) ?_
      rw [hx', hy']; exact hk
    · rename_i u v hx' hy'
      rw [hx'] at hx; rw [hy'] at hy
      obtain ⟨h1, h2⟩ := hk
      refine sound_put h hn (ex (.string (u ++ v)) ?_) (RT.str _) h2
      rw [hx.str_inv, hy.str_inv]
      simp [eqGuard, binOp, Op.stringOp, IntKind.max, IntKind.signed, IntKind.bits]
      omega
    · exact hk.elim
  | sub => exact arith .sub (fun k u v => K (s.put o.dst (.v (.int k (k.wrap (u - v)))))) rfl (by simp) (fun k u v hh => ⟨_, RT.int _ _, hh, by simp [binOp, Op.intArith]⟩) hk
  | mul => exact arith .mul (fun k u v => K (s.put o.dst (.v (.int k (k.wrap (u * v)))))) rfl (by simp) (fun k u v hh => ⟨_, RT.int _ _, hh, by simp [binOp, Op.intArith]⟩) hk
  | quo => exact arith .quo (fun k u v => v ≠ 0 ∧ K (s.put o.dst (.v (.int k (k.wrap (u.tdiv v)))))) rfl (by simp) (fun k u v hh => ⟨_, RT.int _ _, hh.2, by simp [binOp, Op.intDiv, hh.1]⟩) hk
  | rem => exact arith .rem (fun k u v => v ≠ 0 ∧ K (s.put o.dst (.v (.int k (u.tmod v))))) rfl (by simp) (fun k u v hh => ⟨_, RT.int _ _, hh.2, by simp [binOp, Op.intDiv, hh.1]⟩) hk
  | lss => exact arith .lss (fun k u v => K (s.put o.dst (.v (.bool (decide (u < v)))))) rfl (by simp) (fun k u v hh => ⟨_, RT.bool _, hh, by simp [binOp, Op.intCmp]⟩) hk
  | leq => exact arith .leq (fun k u v => K (s.put o.dst (.v (.bool (decide (u ≤ v)))))) rfl (by simp) (fun k u v hh => ⟨_, RT.bool _, hh, by simp [binOp, Op.intCmp]⟩) hk
  | gtr => exact arith .gtr (fun k u v => K (s.put o.dst (.v (.bool (decide (v < u)))))) rfl (by simp) (fun k u v hh => ⟨_, RT.bool _, hh, by simp [binOp, Op.intCmp]⟩) hk
  | geq => exact arith .geq (fun k u v => K (s.put o.dst (.v (.bool (decide (v ≤ u)))))) rfl (by simp) (fun k u v hh => ⟨_, RT.bool _, hh, by simp [binOp, Op.intCmp]⟩) hk
  | _ => simp [binK] at hk
end

def unK (op : UnOp) (x : AV) (K : AV → Prop) : Prop := match op, x with
  | .not, .v (.bool b) => K (.v (.bool (!b)))
  | .neg, .v (.int k n) => K (.v (.int k (k.wrap (0 - n))))
  | _, _ => False

section
variable {P : Program} {F : Frm} {s : AS} {a : Act} {E : Env} (h : Ok F s a E) {o : Oper} {next : Act → World → Prop} {Q : Exit → Act → World → Prop} {K : AS → Prop}
  (hn : ∀ a' w', Sat F K a' w' → next a' w')
include h hn

theorem sound_un {op : UnOp} {t : Nat} {x : Operand} (ho : o.op = .unOp op t x) (hk : unK op (s.env x) fun r => K (s.put o.dst r)) : o.wp P a E.w next Q := by
  have hx := h.env x
  unfold unK at hk
  split at hk
  · rename_i b hx'
    rw [hx'] at hx
    refine sound_put h hn (v := .bool (!b)) ?_ (RT.bool _) hk
    unfold execOp; simp [ho, hx.bool_inv, Op.unary]
  · rename_i k n hx'
    rw [hx'] at hx
    refine sound_put h hn (v := .int k (k.wrap (0 - n))) ?_ (RT.int _ _) hk
    unfold execOp; simp [ho, hx.int_inv, Op.unary, Op.intArith]
  · exact hk.elim

theorem sound_move {x : Operand} (ho : o.op = .move x ∨ o.op = .assign x) (hk : K (s.put o.dst (s.env x))) : o.wp P a E.w next Q := by
  refine sound_put h hn (v := a.eval x) ?_ (h.env x) hk
  unfold execOp
  rcases ho with ho | ho <;> simp [ho]

theorem sound_pick {c x y : Operand} (ho : o.op = .pick c x y) (hk : match s.env c with | .v (.bool b) => K (s.put o.dst (bif b then s.env x else s.env y)) | _ => False) : o.wp P a E.w next Q := by
  have hc := h.env c
  split at hk
  · rename_i b hc'
    rw [hc'] at hc
    cases b with
    | true =>
      refine sound_put h hn (v := a.eval x) ?_ (h.env x) hk
      unfold execOp; simp [ho, hc.bool_inv, asBool]
    | false =>
      refine sound_put h hn (v := a.eval y) ?_ (h.env y) hk
      unfold execOp; simp [ho, hc.bool_inv, asBool]
  · exact hk.elim

theorem sound_extract {x : Operand} {i : Nat} (ho : o.op = .extract x i) (hk : match s.env x with | .tup xs => idxK xs i fun y => K (s.put o.dst y) | _ => False) : o.wp P a E.w next Q := by
  have hx := h.env x
  split at hk
  · rename_i xs hx'
    rw [hx'] at hx
    simp only [RT] at hx
    obtain ⟨cs, h1, h2⟩ := hx
    obtain ⟨y, hy, hk⟩ := idxK_iff.1 hk
    obtain ⟨c, hc, hr⟩ := h2.get i y hy
    refine sound_put h hn (v := c) ?_ hr hk
    unfold execOp; simp [ho, h1, Instr.extract, hc]
  · exact hk.elim
end

end Go.Eng
/- Structs that are built. -/
namespace Go.Eng
open Go.RowKit
set_option linter.unusedSimpArgs false
set_option linter.unusedVariables false
set_option linter.unusedSectionVars false

def putL (cs : List AV) (off : Nat) (vs : List AV) : List AV := cs.take off ++ (vs ++ cs.drop (off + vs.length))
def nthF : List (Nat × Nat) → Nat → Option (Nat × Nat)
  | [], _ => none
  | x :: _, 0 => some x
  | _ :: l, n + 1 => nthF l n
theorem nthF_eq (l : List (Nat × Nat)) (i : Nat) : nthF l i = l[i]? := by
  induction l generalizing i with
  | nil => simp [nthF]
  | cons o l ih => cases i <;> simp [nthF, ih]
def knownL (L : Lay) : List (Nat × Nat) → Bool
  | [] => true
  | (_, t) :: l => match lkT L t with
    | some _ => knownL L l
    | none => false
def fillK (L : Lay) (fs : List (Nat × Nat)) (ev : Operand → AV) : List AV → List (Nat × Operand) → (List AV → Prop) → Prop
  | cs, [], K => K cs
  | cs, (i, x) :: ps, K => match nthF fs i with
    | some (off, ft) => (match lkT L ft with
      | some fi => ifK (okVal (ev x) && (((cellsOf (ev x)).length == fi.size) && Nat.ble (off + fi.size) cs.length)) (fun _ => fillK L fs ev (putL cs off (cellsOf (ev x))) ps K) (fun _ => False)
      | none => False)
    | none => False
def buildK (L : Lay) (t : Nat) (ev : Operand → AV) (ps : List (Nat × Operand)) (K : AV → Prop) : Prop := match lkT L t with
  | some ⟨.struct fs, _, _, zero, _⟩ => ifK (knownL L fs) (fun _ => fillK L fs ev (zero.map .v) ps fun cs => K (.agg cs)) (fun _ => False)
  | _ => False

theorem set_run (vs : List Value) : ∀ (off k : Nat) (cells : Array Value), off + k + vs.length ≤ cells.size →
    ((vs.zipIdx k).foldl (fun cs (p : Value × Nat) => cs.setIfInBounds (off + p.2) p.1) cells).toList = cells.toList.take (off + k) ++ (vs ++ cells.toList.drop (off + k + vs.length)) := by
  induction vs with
  | nil => intro off k cells h; simp
  | cons v vs ih =>
    intro off k cells h
    simp only [List.length_cons] at h
    simp only [List.zipIdx_cons, List.foldl_cons, List.length_cons]
    rw [ih off (k + 1) _ (by simp; omega)]
    simp only [Array.toList_setIfInBounds]
    have h1 : (cells.toList.set (off + k) v).take (off + (k + 1)) = cells.toList.take (off + k) ++ [v] := by
      rw [← Nat.add_assoc, List.take_add_one]
      rw [List.getElem?_set_self (by simp; omega)]
      rw [List.take_set_of_le (Nat.le_refl _)]
      rfl
    have h2 : (cells.toList.set (off + k) v).drop (off + (k + 1) + vs.length) = cells.toList.drop (off + k + (vs.length + 1)) := by
      rw [List.drop_set_of_lt (by omega)]
      congr 1; omega
    rw [h1, h2]
    simp

section
variable {P : Program} {L : Lay} (hL : LOk P L)
include hL

theorem sizes_run (w : World) : ∀ (l : List Field), knownL L (l.map fun f => (f.offset, f.type)) = true →
    (List.mapM (fun f : Field => do pure (f.offset, ← sizeOf f.type)) l).run P w = .ok (l.map fun f => (f.offset, match lkT L f.type with | some fi => fi.size | none => 0)) w
  | [], _ => by simp
  | f :: l, h => by
    simp only [List.map_cons, knownL] at h
    split at h
    · rename_i fi hf
      obtain ⟨i, hi, hs, _⟩ := (hL _ _ hf).info
      have hsz : (sizeOf f.type).run P w = .ok fi.size w := by
        simp only [Sem.run_bind, sizeOf, typeInfo, run_program, Result.andThen_ok, hi, Sem.run_pure, hs]
      have ih := sizes_run w l h
      simp only [List.mapM_cons, Sem.run_bind, hsz, Result.andThen_ok, Sem.run_pure, List.map_cons, hf]
      rw [ih]
      rfl
    · cases h

theorem fill_ok {E : Env} {ev : Operand → AV} {val : Operand → Value} (hev : ∀ x, RT E (ev x) (val x)) {l : List Field} {K : List AV → Prop} :
    ∀ (ps : List (Nat × Operand)) {xs : List AV} {cells : Array Value}, RTL E xs cells.toList → (∀ u ∈ cells.toList, u.oneCell' = true) → fillK L (l.map fun f => (f.offset, f.type)) ev xs ps K →
      ∃ (ys : List AV) (cells' : Array Value), Instr.fill ((l.map fun f => (f.offset, match lkT L f.type with | some fi => fi.size | none => 0)).toArray[·]?) cells (ps.map fun p => (p.1, val p.2)) = some cells' ∧
        RTL E ys cells'.toList ∧ (∀ u ∈ cells'.toList, u.oneCell' = true) ∧ K ys
  | [], xs, cells, h, h1, hk => ⟨xs, cells, rfl, h, h1, hk⟩
  | (i, x) :: ps, xs, cells, h, h1, hk => by
    simp only [fillK] at hk
    rw [nthF_eq, List.getElem?_map] at hk
    cases hf : l[i]? with
    | none => rw [hf] at hk; exact hk.elim
    | some f =>
      rw [hf] at hk
      simp only [Option.map_some] at hk
      split at hk
      · rename_i fi hfi
        cases hc : okVal (ev x) && (((cellsOf (ev x)).length == fi.size) && Nat.ble (f.offset + fi.size) xs.length) with
        | false => rw [hc] at hk; exact hk.elim
        | true =>
          rw [hc] at hk
          simp only [ifK] at hk
          simp only [Bool.and_eq_true, beq_iff_eq] at hc
          obtain ⟨c1, c2, c3⟩ := hc
          have c3 := Nat.le_of_ble_eq_true c3
          obtain ⟨hx, hx1⟩ := (hev x).cells c1
          have hlen : (val x).cells.size = fi.size := by rw [← c2, hx.length]; simp
          have hxl : xs.length = cells.size := by rw [h.length]; simp
          have hset := set_run (val x).cells.toList f.offset 0 cells (by simp; omega)
          simp only [Nat.add_zero] at hset
          have hfold : (val x).cells.zipIdx.foldl (fun cs (c, j) => cs.setIfInBounds (f.offset + j) c) cells = ((val x).cells.toList.zipIdx 0).foldl (fun cs (p : Value × Nat) => cs.setIfInBounds (f.offset + p.2) p.1) cells := by
            rw [← Array.foldl_toList, Array.toList_zipIdx]
          obtain ⟨ys, cells', g1, g2, g3, g4⟩ := fill_ok hev ps (xs := putL xs f.offset (cellsOf (ev x))) (cells := (val x).cells.zipIdx.foldl (fun cs (c, j) => cs.setIfInBounds (f.offset + j) c) cells) (by
              rw [hfold, hset]
              unfold putL
              have := hx.length
              rw [this]
              exact (h.take _).append (hx.append (h.drop _))) (by
              rw [hfold, hset]
              intro u hu
              rcases List.mem_append.1 hu with hu | hu
              · exact h1 u (List.mem_of_mem_take hu)
              · rcases List.mem_append.1 hu with hu | hu
                · exact hx1 u hu
                · exact h1 u (List.mem_of_mem_drop hu)) hk
          refine ⟨ys, cells', ?_, g2, g3, g4⟩
          have hp : (l.map fun f => (f.offset, match lkT L f.type with | some fi => fi.size | none => 0)).toArray[i]? = some (f.offset, fi.size) := by
            simp only [List.getElem?_toArray, List.getElem?_map, hf, Option.map_some, hfi]
          rw [List.map_cons]
          unfold Instr.fill
          simp only [hp]
          rw [if_neg]
          · exact g1
          · simp only [Bool.or_eq_true, decide_eq_true_eq, not_or]
            exact ⟨fun hh => hh hlen, by omega⟩
      · exact hk.elim

end
section
variable {P : Program} {L : Lay} (hL : LOk P L) {F : Frm} {s : AS} {a : Act} {E : Env} (h : Ok F s a E) {o : Oper} {next : Act → World → Prop} {Q : Exit → Act → World → Prop} {K : AS → Prop}
  (hn : ∀ a' w', Sat F K a' w' → next a' w')
include hL h hn

theorem sound_build {t : Nat} {ps : Array (Nat × Operand)} (ho : o.op = .build t ps) (hk : buildK L t s.env ps.toList fun y => K (s.put o.dst y)) : o.wp P a E.w next Q := by
  unfold buildK at hk
  split at hk
  · rename_i fs n b zero eq ht
    have hti := hL t _ ht
    obtain ⟨i, hi, hs, hb, z, hz1, hz2⟩ := hti.info
    obtain ⟨⟨l⟩, hu, hfs⟩ := hti.desc
    simp only at hfs
    cases hc : knownL L fs with
    | false => rw [hc] at hk; exact hk.elim
    | true =>
      rw [hc] at hk
      simp only [ifK] at hk
      subst hfs
      have hz : RTL E (zero.map AV.v) z.cells.toList := by
        rw [hz2]
        refine RTL.of (by simp) (fun j x c hx hc => ?_)
        simp only [List.getElem?_map, hc, Option.map_some, Option.some.injEq] at hx
        subst hx
        simp only [RT]
        exact .v (hti.plain c (List.mem_of_getElem? hc))
      obtain ⟨ys, cells', g1, g2, g3, g4⟩ := fill_ok hL (fun x => h.env x) ps.toList hz (fun u hu => plain_one (hti.plain u (by rw [hz2] at hu; exact hu))) hk
      refine wp_value (v := .agg cells') ?_ (hn _ _ ⟨_, E, rfl, h.put o.dst (x := .agg ys) (c := .agg cells') (by simp only [RT]; exact ⟨cells'.toList, by simp, g2, g3⟩), g4⟩)
      unfold execOp
      have hsz := sizes_run hL E.w l hc
      have hps : (ps.map fun (i, x) => (i, a.eval x)).toList = ps.toList.map fun p => (p.1, a.eval p.2) := by simp
      simp only [ho, Instr.build, zeroValue, typeInfo, underlying, Sem.run_bind, run_program, Result.andThen_ok, hi, Sem.run_pure, hz1, hu, List.mapM_toArray, Sem.run_map, hsz, hps]
      rw [g1]
      rfl
  · exact hk.elim

end
end Go.Eng
/- New rows. -/
namespace Go.Eng
open Go.RowKit
set_option linter.unusedSimpArgs false
set_option linter.unusedVariables false
set_option linter.unusedSectionVars false

def zeroOf (ti : TI) : AV := bif ti.d.agg then .agg (ti.zero.map .v) else (ti.zero.map .v).headD .bad
def zeroOk (ti : TI) : Bool := ti.d.agg || Nat.beq ti.zero.length 1

def newRowK (d : Option Nat) (esz : Nat) (els : List AV) (s : AS) (K : AS → Prop) : Prop := match d with
  | some d => match getO s.objs d with
    | none => ifK (noRefL d s.tmps && noRefO d s.objs) (fun _ => K { tmps := st s.tmps d (.row d), objs := setO s.objs d ⟨esz, false, some false, els⟩ }) (fun _ => False)
    | some _ => False
  | none => False

/-- These elements stand in these cells. -/
def RowAt (E : Env) (esz : Nat) (els : List AV) (arr : Array Value) : Prop :=
  ∀ (i : Nat) (x : AV), els[i]? = some x → (cellsOf x).length = esz ∧ ∀ (j : Nat) (y : AV), (cellsOf x)[j]? = some y → flatC y = true ∧ ∃ c, arr[i * esz + j]? = some c ∧ RT E y c

theorem zeroOf_cells {ti : TI} (h : zeroOk ti = true) : cellsOf (zeroOf ti) = ti.zero.map .v := by
  unfold zeroOk at h
  unfold zeroOf
  cases ha : ti.d.agg with
  | true => rfl
  | false =>
    rw [ha] at h
    simp only [Bool.false_or] at h
    have h := Nat.eq_of_beq_eq_true h
    match hz : ti.zero, h with
    | [v], _ => rfl

def makeK (L : Lay) (t : Nat) (l c : AV) (K : Nat → AV → Nat → Prop) : Prop := match l, c, lkT L t with
  | .v (.int _ n), .v (.int _ m), some ⟨.slice e, _, _, _, _⟩ => (match lkT L e with
    | some ei => ifK (zeroOk ei) (fun _ => 0 ≤ n ∧ n ≤ m ∧ (ei.bytes : Int) * m ≤ 281474976710656 ∧ m ≤ 9223372036854775807 ∧ K n.toNat (zeroOf ei) ei.size) (fun _ => False)
    | none => False)
  | _, _, _ => False

def partsK (ei : TI) (ev : Operand → AV) : List AV → List (Nat × Operand) → (List AV → Prop) → Prop
  | els, [], K => K els
  | els, (i, x) :: ps, K => ifK (okVal (ev x) && (flat (ev x) && (((cellsOf (ev x)).length == ei.size) && Nat.ble (i + 1) els.length))) (fun _ => partsK ei ev (st els i (ev x)) ps K) (fun _ => False)
def bsK (L : Lay) (t len : Nat) (ev : Operand → AV) (ps : List (Nat × Operand)) (K : Nat → List AV → Prop) : Prop := match lkT L t with
  | some ⟨.slice e, _, _, _, _⟩ => (match lkT L e with
    | some ei => ifK (zeroOk ei && Nat.ble (len * ei.size) 16777216) (fun _ => partsK ei ev (List.replicate len (zeroOf ei)) ps fun els => K ei.size els) (fun _ => False)
    | none => False)
  | _ => False

section
variable {P : Program} {L : Lay} {F : Frm} {s : AS} {a : Act} {E : Env} (h : Ok F s a E) {o : Oper} {next : Act → World → Prop} {Q : Exit → Act → World → Prop} {K : AS → Prop}
  (hn : ∀ a' w', Sat F K a' w' → next a' w')
include h hn

theorem sound_newRow {els : List AV} {arr : Array Value} {e : TypeId} {cap esz : Nat} (hr : (execOp a.eval o).run P E.w = .ok (.value (.slice (some ⟨E.w.heap.size, 0, none⟩) els.length cap)) (E.w.alloc (.cells arr e)))
    (hsz : arr.size = cap * esz) (hcap : els.length ≤ cap) (hels : RowAt E esz els arr) (hk : newRowK o.dst esz els s K) : o.wp P a E.w next Q := by
  unfold newRowK at hk
  split at hk
  · rename_i d hd
    split at hk
    · rename_i hg
      cases hnr : noRefL d s.tmps && noRefO d s.objs with
      | false => rw [hnr] at hk; exact hk.elim
      | true =>
      rw [hnr] at hk
      simp only [Bool.and_eq_true] at hnr
      obtain ⟨nr1, nr2⟩ := hnr
      have hgoes : E.Goes (· = d) (E.new d ⟨esz, false, some false, els⟩ (.cells arr e)) := Env.goes_new
      have hnew := h.new hg nr1 nr2 (ob := ⟨esz, false, some false, els⟩) (arr := arr) (e := e) (cap := cap) (by simp) hsz hcap (fun i y hy => by
        obtain ⟨k1, k2⟩ := hels i y hy
        refine ⟨k1, fun j z hz => ?_⟩
        obtain ⟨k3, c, k4, k5⟩ := k2 j z hz
        refine ⟨c, k4, ?_⟩
        simp only [RC, cond_false]
        refine RT.flat (k5.goes hgoes (fun o ho => ?_)) k3 _
        cases z <;> simp_all [flatC, noRef])
      refine wp_value hr (hn _ _ ⟨_, _, rfl, hnew.put o.dst (x := .row d) (c := .slice (some ⟨E.w.heap.size, 0, none⟩) els.length cap) ?_, ?_⟩)
      · simp only [RT, Env.row]
        refine ⟨rfl, fun ob' ho' => ?_⟩
        simp only [Env.new] at ho'
        rw [getO_setO, if_pos rfl] at ho'; cases ho'
        refine ⟨rfl, .inr ⟨E.w.heap.size, cap, by simp [Env.new], ⟨arr, e, ?_, hsz⟩, rfl⟩⟩
        show (E.w.heap.push _)[E.w.heap.size]? = _
        simp
      · rw [hd]; exact hk
    · exact hk.elim
  · exact hk.elim

end

theorem made_get {z : Array Value} {n i j size : Nat} (hz : z.size = size) (hj : j < size) (hi : i < n) : (madeCells z (n * size))[i * size + j]? = z[j]? := by
  have hlt : i * size + j < n * size := by
    have := Nat.mul_le_mul_right size (show i + 1 ≤ n from hi)
    rw [Nat.add_mul, Nat.one_mul] at this
    omega
  have hmod : (i * size + j) % size = j := by rw [Nat.add_comm, Nat.add_mul_mod_self_right, Nat.mod_eq_of_lt hj]
  have hzj : j < z.size := by omega
  simp only [madeCells, Array.getElem?_map, Array.getElem?_range, hlt, if_true, Option.map_some, hz, hmod]
  rw [getElem!_pos z j hzj, Array.getElem?_eq_getElem hzj]

theorem made_row {E : Env} {ti : TI} {z : Array Value} {n m : Nat} (hok : zeroOk ti = true) (hz : z.toList = ti.zero) (hzl : ti.zero.length = ti.size) (hpl : ∀ v ∈ ti.zero, plain v = true) (hnm : n ≤ m) :
    RowAt E ti.size (List.replicate n (zeroOf ti)) (madeCells z (m * ti.size)) := by
  intro i x hx
  have hi : i < n := by
    have := (List.getElem?_eq_some_iff.1 hx).1
    simpa using this
  have hx' : x = zeroOf ti := (List.mem_replicate.1 (List.mem_of_getElem? hx)).2
  subst hx'
  rw [zeroOf_cells hok]
  refine ⟨by simp [hzl], fun j y hy => ?_⟩
  rw [List.getElem?_map] at hy
  cases hq : ti.zero[j]? with
  | none => rw [hq] at hy; cases hy
  | some v =>
    rw [hq] at hy
    simp only [Option.map_some, Option.some.injEq] at hy
    subst hy
    have hj : j < ti.size := by rw [← hzl]; exact (List.getElem?_eq_some_iff.1 hq).1
    refine ⟨rfl, v, ?_, ?_⟩
    · rw [made_get (by rw [← hzl, ← hz]; simp) hj (by omega), ← Array.getElem?_toList, hz, hq]
    · simp only [RT]; exact .v (hpl v (List.mem_of_getElem? hq))

theorem run_bs {P : Program} {w : World} {t e len : Nat} {i : TypeInfo} {z : Value} {parts : Array (Nat × Value)} {cells' : Array Value} (ht : P.underlying t = some (.slice e)) (hi : P.info? e = some i) (hz : i.zero = some z)
    (hbig : len * i.size ≤ 16777216) (hf : Instr.fill (fun k => some (k * i.size, i.size)) (madeCells z.cells (len * i.size)) parts.toList = some cells') :
    (Instr.buildSlice t len parts).run P w = .ok (.slice (some ⟨w.heap.size, 0, none⟩) len len) (w.alloc (.cells cells' e)) := by
  have hn : ¬ (16777216 < len * i.size) := by omega
  unfold madeCells at hf
  by_cases h0 : len * i.size = 0
  · have hf' : Instr.fill (fun k => some (k * i.size, i.size)) #[] parts.toList = some cells' := by
      rw [← hf, h0, Array.range_zero', Array.map_empty]
    simp [Array.range_zero', Instr.buildSlice, run_underlying ht, sizeOf, typeInfo, hi, hn, h0, hf', newRow]
  · simp [Instr.buildSlice, run_underlying ht, sizeOf, typeInfo, hi, hz, zeroValue, hn, h0, hf, newRow]

section
variable {P : Program} {L : Lay} (hL : LOk P L) {F : Frm} {s : AS} {a : Act} {E : Env} (h : Ok F s a E) {o : Oper} {next : Act → World → Prop} {Q : Exit → Act → World → Prop} {K : AS → Prop}
  (hn : ∀ a' w', Sat F K a' w' → next a' w')
include hL h hn

theorem sound_make {t : Nat} {l c : Operand} (ho : o.op = .makeSlice t l c) (hk : makeK L t (s.env l) (s.env c) fun n z esz => newRowK o.dst esz (List.replicate n z) s K) : o.wp P a E.w next Q := by
  have hl := h.env l
  have hc := h.env c
  unfold makeK at hk
  split at hk
  · rename_i kl n kc m e _ _ _ _ hle hce ht
    rw [hle] at hl
    rw [hce] at hc
    split at hk
    · rename_i ei he
      obtain ⟨hz0, hk⟩ : zeroOk ei = true ∧ _ := by
        cases hc : zeroOk ei with
        | false => rw [hc] at hk; exact hk.elim
        | true => rw [hc] at hk; exact ⟨rfl, hk⟩
      obtain ⟨h0, h1, h2, h3, hk⟩ := hk
      have hti := hL t _ ht
      have hei := hL e _ he
      obtain ⟨i, hi, hs, hb, z, hz1, hz2⟩ := hei.info
      have hrun := run_make (P := P) E.w t e i z hti.desc hi hz1 kl kc n m h0 h1 (by rw [hb]; exact h2) h3
      refine sound_newRow h hn (els := List.replicate n.toNat (zeroOf ei)) (arr := madeCells z.cells (m.toNat * i.size)) (e := e) (cap := m.toNat) (esz := ei.size) ?_ (by rw [size_madeCells, hs]) (by simp; omega) (by rw [hs]; exact made_row hz0 hz2 hei.zlen hei.plain (by omega)) hk
      unfold execOp
      simp only [ho, hl.v_inv.1, hc.v_inv.1, Sem.run_bind, hrun, Result.andThen_ok, Sem.run_pure, List.length_replicate]
    · exact hk.elim
  · exact hk.elim

omit hL h hn in
theorem parts_ok {E : Env} {ei : TI} {ev : Operand → AV} {val : Operand → Value} (hev : ∀ x, RT E (ev x) (val x)) {len : Nat} {K : List AV → Prop} :
    ∀ (ps : List (Nat × Operand)) {els : List AV} {cells : Array Value}, els.length = len → cells.size = len * ei.size → RowAt E ei.size els cells → partsK ei ev els ps K →
      ∃ (ys : List AV) (cells' : Array Value), Instr.fill (fun i => some (i * ei.size, ei.size)) cells (ps.map fun p => (p.1, val p.2)) = some cells' ∧ ys.length = len ∧ cells'.size = len * ei.size ∧ RowAt E ei.size ys cells' ∧ K ys
  | [], els, cells, h1, h2, h3, hk => ⟨els, cells, rfl, h1, h2, h3, hk⟩
  | (i, x) :: ps, els, cells, h1, h2, h3, hk => by
    simp only [partsK] at hk
    cases hc : okVal (ev x) && (flat (ev x) && (((cellsOf (ev x)).length == ei.size) && Nat.ble (i + 1) els.length)) with
    | false => rw [hc] at hk; exact hk.elim
    | true =>
      rw [hc] at hk
      simp only [ifK] at hk
      simp only [Bool.and_eq_true, beq_iff_eq] at hc
      obtain ⟨c1, c2, c3, c4⟩ := hc
      have c4 := Nat.le_of_ble_eq_true c4
      obtain ⟨hx, hx1⟩ := (hev x).cells c1
      have hlen : (val x).cells.size = ei.size := by rw [← c3, hx.length]; simp
      have hroom : i * ei.size + ei.size ≤ cells.size := by
        rw [h2, ← h1]
        have := Nat.mul_le_mul_right ei.size c4
        rw [Nat.add_mul, Nat.one_mul] at this
        exact this
      have hset := set_run (val x).cells.toList (i * ei.size) 0 cells (by simp; omega)
      simp only [Nat.add_zero] at hset
      have hfold : (val x).cells.zipIdx.foldl (fun cs (c, j) => cs.setIfInBounds (i * ei.size + j) c) cells = ((val x).cells.toList.zipIdx 0).foldl (fun cs (p : Value × Nat) => cs.setIfInBounds (i * ei.size + p.2) p.1) cells := by
        rw [← Array.foldl_toList, Array.toList_zipIdx]
      have hcl : ((val x).cells.zipIdx.foldl (fun cs (c, j) => cs.setIfInBounds (i * ei.size + j) c) cells).size = cells.size := by
        rw [← Array.length_toList, hfold, hset]
        simp; omega
      obtain ⟨ys, cells', g1, g2, g3, g4, g5⟩ := parts_ok (len := len) hev ps (els := st els i (ev x)) (cells := (val x).cells.zipIdx.foldl (fun cs (c, j) => cs.setIfInBounds (i * ei.size + j) c) cells)
        (by rw [st_length]; exact h1) (by rw [hcl]; exact h2) (fun i' y hy => by
          have hget : ∀ k, ((val x).cells.zipIdx.foldl (fun cs (c, j) => cs.setIfInBounds (i * ei.size + j) c) cells)[k]? = if i * ei.size ≤ k ∧ k < i * ei.size + ei.size then (val x).cells.toList[k - i * ei.size]? else cells[k]? := fun k => by
            rw [← Array.getElem?_toList, hfold, hset, ← List.append_assoc, splice_get _ _ _ _ (by simp; omega)]
            simp only [Array.length_toList, hlen, Array.getElem?_toList]
          rw [st_get] at hy
          by_cases hii : i' = i
          · subst hii
            simp only [if_true] at hy
            split at hy
            · cases hy
              refine ⟨c3, fun j z hz => ?_⟩
              obtain ⟨c, k1, k2⟩ := hx.get j z hz
              have hj : j < ei.size := by rw [← c3]; exact (List.getElem?_eq_some_iff.1 hz).1
              refine ⟨List.all_eq_true.1 c2 z (List.mem_of_getElem? hz), c, ?_, k2⟩
              rw [hget, if_pos ⟨by omega, by omega⟩, show i' * ei.size + j - i' * ei.size = j by omega]
              exact k1
            · cases hy
          · rw [if_neg hii] at hy
            obtain ⟨k1, k2⟩ := h3 i' y hy
            refine ⟨k1, fun j z hz => ?_⟩
            obtain ⟨k3, c, k4, k5⟩ := k2 j z hz
            have hj : j < ei.size := by rw [← k1]; exact (List.getElem?_eq_some_iff.1 hz).1
            refine ⟨k3, c, ?_, k5⟩
            rw [hget, if_neg, k4]
            rintro ⟨m1, m2⟩
            rcases Nat.lt_or_gt_of_ne hii with hlt | hlt
            · have := Nat.mul_le_mul_right ei.size (show i' + 1 ≤ i from hlt)
              rw [Nat.add_mul, Nat.one_mul] at this
              omega
            · have := Nat.mul_le_mul_right ei.size (show i + 1 ≤ i' from hlt)
              rw [Nat.add_mul, Nat.one_mul] at this
              omega) hk
      refine ⟨ys, cells', ?_, g2, g3, g4, g5⟩
      rw [List.map_cons]
      unfold Instr.fill
      simp only []
      rw [if_neg]
      · exact g1
      · simp only [Bool.or_eq_true, decide_eq_true_eq, not_or]
        exact ⟨fun hh => hh hlen, by omega⟩

theorem sound_bs {t len : Nat} {ps : Array (Nat × Operand)} (ho : o.op = .buildSlice t len ps) (hk : bsK L t len s.env ps.toList fun esz els => newRowK o.dst esz els s K) : o.wp P a E.w next Q := by
  unfold bsK at hk
  split at hk
  · rename_i e _ _ _ _ ht
    split at hk
    · rename_i ei he
      obtain ⟨hz0, hsz, hk⟩ : zeroOk ei = true ∧ len * ei.size ≤ 16777216 ∧ _ := by
        cases hc : zeroOk ei && Nat.ble (len * ei.size) 16777216 with
        | false => rw [hc] at hk; exact hk.elim
        | true => rw [hc] at hk; simp only [Bool.and_eq_true] at hc; exact ⟨hc.1, Nat.le_of_ble_eq_true hc.2, hk⟩
      have hti := hL t _ ht
      have hei := hL e _ he
      obtain ⟨i, hi, hs, hb, z, hz1, hz2⟩ := hei.info
      obtain ⟨ys, cells', g1, g2, g3, g4, g5⟩ := parts_ok (len := len) (fun x => h.env x) ps.toList (els := List.replicate len (zeroOf ei)) (cells := madeCells z.cells (len * ei.size)) (by simp) (by rw [size_madeCells]) (made_row hz0 hz2 hei.zlen hei.plain (Nat.le_refl _)) hk
      refine sound_newRow h hn (els := ys) (arr := cells') (e := e) (cap := len) (esz := ei.size) ?_ g3 (by omega) g4 g5
      have hps : (ps.map fun (i, x) => (i, a.eval x)).toList = ps.toList.map fun p => (p.1, a.eval p.2) := by simp
      have hrun := run_bs (P := P) (w := E.w) hti.desc hi hz1 (by rw [hs]; exact hsz) (parts := ps.map fun (i, x) => (i, a.eval x)) (cells' := cells') (by rw [hs, hps]; exact g1)
      unfold execOp
      simp only [ho, Sem.run_bind, hrun, Result.andThen_ok, Sem.run_pure, g2]
    · exact hk.elim
  · exact hk.elim

end
end Go.Eng
/- Smaller operators. -/
namespace Go.Eng
open Go.RowKit
set_option linter.unusedSimpArgs false
set_option linter.unusedVariables false
set_option linter.unusedSectionVars false

def minK (x y : AV) (K : AV → Prop) : Prop := match x, y with
  | .v (.int k a), .v (.int _ b) => K (.v (.int k (if b < a then b else a)))
  | _, _ => False
def maxK (x y : AV) (K : AV → Prop) : Prop := match x, y with
  | .v (.int k a), .v (.int _ b) => K (.v (.int k (if b > a then b else a)))
  | _, _ => False
def convK (L : Lay) (src dst : Nat) (x : AV) (K : AV → Prop) : Prop := match x, lkT L src, lkT L dst with
  | .v (.int _ n), some _, some ⟨.int k, _, _, _, _⟩ => K (.v (.int k (k.wrap n)))
  | _, _, _ => False
def fnK (x : AV) (K : AV → Prop) : Prop := match x with
  | .fn f cs => K (.fn f cs)
  | _ => False

theorem TI.ok.some {P : Program} {t : Nat} {ti : TI} (h : ti.ok P t) : (P.underlying t).isSome = true := by
  have := h.desc
  revert this
  cases ti.d <;> simp only []
  all_goals first
    | (intro h; rw [h]; rfl)
    | (rintro ⟨d, h, _⟩; rw [h]; rfl)

section
variable {P : Program} {L : Lay} (hL : LOk P L) {F : Frm} {s : AS} {a : Act} {E : Env} (h : Ok F s a E) {o : Oper} {next : Act → World → Prop} {Q : Exit → Act → World → Prop} {K : AS → Prop}
  (hn : ∀ a' w', Sat F K a' w' → next a' w')
include h hn

theorem sound_min {c : Call} {x y : Operand} (ho : o.op = .call c) (hc : c.callee = .builtin .min) (ha : c.args = #[x, y]) (hk : minK (s.env x) (s.env y) fun r => K (s.put o.dst r)) : o.wp P a E.w next Q := by
  have hx := h.env x
  have hy := h.env y
  unfold minK at hk
  split at hk
  · rename_i k n k' m hx' hy'
    rw [hx'] at hx; rw [hy'] at hy
    refine sound_put h hn (v := .int k (if m < n then m else n)) ?_ (RT.int _ _) hk
    unfold execOp
    simp [ho, resolve, hc, invoke, builtin, ha, hx.v_inv.1, hy.v_inv.1, run_min_int2]
  · exact hk.elim
theorem sound_max {c : Call} {x y : Operand} (ho : o.op = .call c) (hc : c.callee = .builtin .max) (ha : c.args = #[x, y]) (hk : maxK (s.env x) (s.env y) fun r => K (s.put o.dst r)) : o.wp P a E.w next Q := by
  have hx := h.env x
  have hy := h.env y
  unfold maxK at hk
  split at hk
  · rename_i k n k' m hx' hy'
    rw [hx'] at hx; rw [hy'] at hy
    refine sound_put h hn (v := .int k (if m > n then m else n)) ?_ (RT.int _ _) hk
    unfold execOp
    simp [ho, resolve, hc, invoke, builtin, ha, hx.v_inv.1, hy.v_inv.1, run_max_int2]
  · exact hk.elim
theorem sound_fn {x : Operand} (ho : o.op = .nilCheck x) (hk : fnK (s.env x) fun r => K (s.put o.dst r)) : o.wp P a E.w next Q := by
  have hx := h.env x
  unfold fnK at hk
  split at hk
  · rename_i f cs hx'
    rw [hx'] at hx
    have hx2 := hx
    simp only [RT] at hx2
    obtain ⟨us, h1, h2⟩ := hx2
    refine sound_put h hn (v := a.eval x) ?_ hx hk
    unfold execOp
    simp only [ho, h1]
    rfl
  · exact hk.elim

include hL
theorem sound_conv {src dst : Nat} {x : Operand} (ho : o.op = .convert src dst x) (hk : convK L src dst (s.env x) fun r => K (s.put o.dst r)) : o.wp P a E.w next Q := by
  have hx := h.env x
  unfold convK at hk
  split at hk
  · rename_i k n ti k' _ _ _ _ hx' hs hd
    rw [hx'] at hx
    have hu : P.underlying dst = some (.int k') := (hL dst _ hd).desc
    have hi : P.intKind dst = k' := by simp [Program.intKind, hu]
    have hr := run_convert_int (P := P) E.w src dst k n (hL src _ hs).some (by rw [hi]; exact hu)
    rw [hi] at hr
    refine sound_put h hn (v := .int k' (k'.wrap n)) ?_ (RT.int _ _) hk
    unfold execOp
    simp only [ho, hx.v_inv.1, Sem.run_bind, hr, Result.andThen_ok, Sem.run_pure]
  · exact hk.elim
end
end Go.Eng
/- Parts of strings. -/
namespace Go.Eng
open Go.RowKit
set_option linter.unusedSimpArgs false
set_option linter.unusedVariables false
set_option linter.unusedSectionVars false

def bndK (ev : Operand → AV) (x : Option Operand) (d : Int) (K : Int → Prop) : Prop := match x with
  | none => K d
  | some x => match ev x with
    | .v (.int _ n) => K n
    | _ => False
def subK (L : Lay) (t : Nat) (ev : Operand → AV) (x : Operand) (lo hi mx : Option Operand) (K : AV → Prop) : Prop := match ev x, lkT L t, mx with
  | .v (.string b), some ⟨.str, _, _, _, _⟩, none => bndK ev lo 0 fun l => bndK ev hi b.size fun h => 0 ≤ l ∧ l ≤ h ∧ h ≤ b.size ∧ K (.v (.string (b.extract l.toNat h.toNat)))
  | _, _, _ => False

section
variable {P : Program} {L : Lay} (hL : LOk P L) {F : Frm} {s : AS} {a : Act} {E : Env} (h : Ok F s a E) {o : Oper} {next : Act → World → Prop} {Q : Exit → Act → World → Prop} {K : AS → Prop}
  (hn : ∀ a' w', Sat F K a' w' → next a' w')
include hL h hn

theorem sound_sub {t : Nat} {x : Operand} {lo hi mx : Option Operand} (ho : o.op = .slice t x lo hi mx) (hk : subK L t s.env x lo hi mx fun r => K (s.put o.dst r)) : o.wp P a E.w next Q := by
  have hx := h.env x
  unfold subK at hk
  split at hk
  · rename_i b _ _ _ _ hx' ht
    rw [hx'] at hx
    have hu : P.underlying t = some .string := (hL t _ ht).desc
    have ex : ∀ v, (Instr.slice t (.string b) (lo.map a.eval) (hi.map a.eval) none).run P E.w = .ok v E.w → (execOp a.eval o).run P E.w = .ok (.value v) E.w := fun v hv => by
      unfold execOp
      simp only [ho, hx.v_inv.1, Option.map_none, Sem.run_bind, run_sliceAt_string _ _ _ _ _ _ hu, hv, Result.andThen_ok, Sem.run_pure]
    cases lo with
    | none =>
      cases hi with
      | none =>
        simp only [bndK] at hk
        obtain ⟨k1, k2, k3, k4⟩ := hk
        refine sound_put h hn (x := .v (.string (b.extract 0 b.size))) (v := .string (b.extract 0 b.size)) (ex _ (run_slice_string_all E.w t b hu)) ?_ (by simpa using k4)
        simp only [RT]; exact .v rfl
      | some y =>
        simp only [bndK] at hk
        have hy := h.env y
        split at hk
        · rename_i kh n hy'
          rw [hy'] at hy
          obtain ⟨k1, k2, k3, k4⟩ := hk
          refine sound_put h hn (x := .v (.string (b.extract 0 n.toNat))) (v := .string (b.extract 0 n.toNat)) (ex _ ?_) ?_ (by simpa using k4)
          · simp only [Option.map_none, Option.map_some, hy.v_inv.1]
            exact run_slice_string_h E.w t b hu kh n k2 k3
          · simp only [RT]; exact .v rfl
        · exact hk.elim
    | some z =>
      have hz := h.env z
      simp only [bndK] at hk
      split at hk
      · rename_i kl m hz'
        rw [hz'] at hz
        cases hi with
        | none =>
          obtain ⟨k1, k2, k3, k4⟩ := hk
          refine sound_put h hn (x := .v (.string (b.extract m.toNat b.size))) (v := .string (b.extract m.toNat b.size)) (ex _ ?_) ?_ (by simpa using k4)
          · simp only [Option.map_none, Option.map_some, hz.v_inv.1]
            exact run_slice_string_l E.w t b hu kl m k1 k2
          · simp only [RT]; exact .v rfl
        | some y =>
          have hy := h.env y
          simp only [] at hk
          split at hk
          · rename_i kh n hy'
            rw [hy'] at hy
            obtain ⟨k1, k2, k3, k4⟩ := hk
            refine sound_put h hn (v := .string (b.extract m.toNat n.toNat)) (ex _ ?_) ?_ k4
            · simp only [Option.map_some, hy.v_inv.1, hz.v_inv.1]
              exact run_slice_string E.w t b kl kh m n hu k1 k2 k3
            · simp only [RT]; exact .v rfl
          · exact hk.elim
      · exact hk.elim
  · exact hk.elim
end

end Go.Eng
/- Append. -/
namespace Go.Eng
open Go.RowKit
set_option linter.unusedSimpArgs false
set_option linter.unusedVariables false
set_option linter.unusedSectionVars false

/-- Where the elements of a readable slice stand. -/
def SrcAt (E : Env) (esz : Nat) (xs : List AV) (c : Value) : Prop :=
  (xs = [] ∧ c = .slice none 0 0) ∨ ∃ (b f cap : Nat) (cf : Nat → Nat → Value), c = .slice (some ⟨b, f, none⟩) xs.length cap ∧ ∀ (i : Nat) (x : AV), xs[i]? = some x → (cellsOf x).length = esz ∧
    ∀ (j : Nat) (y : AV), (cellsOf x)[j]? = some y → E.w.cell? ⟨b, f + i * esz + j, none⟩ = some (cf i j) ∧ C0 E.w (fun _ => []) false [] y (cf i j) ∧ (flatC y = true → C0 E.w E.lab false [] y (cf i j))

theorem row_cell {w : World} {b k : Nat} {arr : Array Value} {e : TypeId} {c : Value} (h4 : w.heap[b]? = some (.cells arr e (0, 0))) (h : arr[k]? = some c) : w.cell? ⟨b, k, none⟩ = some c := by
  simp [World.cell?, h4, h]

theorem C0.flatE {E : Env} {chk : Bool} {π : List Nat} {y : AV} {c : Value} (h : C0 E.w E.lab chk π y c) : C0 E.w E.lab false [] y c := h.lend

/-- The elements of a slice value, as the state knows them. -/
def srcK (g : Nat → Option Ob) (x : AV) (K : Nat → List AV → Prop) : Prop := match x with
  | .sl esz _ _ xs => K esz xs
  | .row o => (match g o with
    | some B => K B.esz B.els
    | none => False)
  | .osl o lo n => (match g o with
    | some B => K B.esz ((B.els.drop lo).take n)
    | none => False)
  | _ => False

section
variable {F : Frm} {s : AS} {a : Act} {E : Env} (h : Ok F s a E)
include h
theorem src_at {x : AV} {c : Value} (hx : RT E x c) {K : Nat → List AV → Prop} (hk : srcK (getO s.objs) x K) : ∃ esz xs, SrcAt E esz xs c ∧ K esz xs := by
  have ob : ∀ (o : Nat) (B : Ob), getO s.objs o = some B → B.box = false → ∀ (b cap : Nat), E.sg o = some b → E.blk b B.esz cap → ∀ (lo n f cap' : Nat), lo + n ≤ B.els.length → (f = lo * B.esz ∨ n = 0) → SrcAt E B.esz ((B.els.drop lo).take n) (.slice (some ⟨b, f, none⟩) n cap') := by
    intro o B hB hbox b cap hs hbk lo n f cap' hn hf
    rcases h.objs o B hB with ⟨k1, _⟩ | ⟨b', cap₂, arr, e, k1, k2, k3, k4, k5, k6, k7⟩
    · rw [k1] at hs; cases hs
    rw [k1] at hs; cases hs
    refine .inr ⟨b, f, cap', fun i j => arr.getD ((lo + i) * B.esz + j) undef, by simp; omega, fun i x hx => ?_⟩
    have hi : i < n := by
      rcases Nat.lt_or_ge i n with h | h
      · exact h
      · simp [List.getElem?_take, Nat.not_lt.2 h] at hx
    rw [List.getElem?_take, if_pos hi, List.getElem?_drop] at hx
    obtain ⟨g1, g2⟩ := k7 _ x hx
    refine ⟨g1, fun j y hy => ?_⟩
    obtain ⟨c, g3, g4⟩ := g2 j y hy
    simp only []
    rw [Array.getD_eq_getD_getElem?, g3]
    have hf' : f = lo * B.esz := by rcases hf with h | h; · exact h
                                    · omega
    rw [hbox] at g4
    simp only [RC, cond_false] at g4
    refine ⟨by rw [hf', ← Nat.add_mul]; exact row_cell k4 g3, ?_, fun _ => g4.lend⟩
    exact g4.move (Nat.le_refl _) (fun _ _ _ => rfl) (fun _ _ _ => by rintro ⟨o, ho⟩; cases ho) (by simp)
  unfold srcK at hk
  split at hk
  · rename_i esz own nl xs
    refine ⟨esz, xs, ?_, hk⟩
    simp only [RT] at hx
    cases hx with
    | nil => exact .inl ⟨rfl, rfl⟩
    | sl cf hnl hn hcap hroot hb hsz hc hr hown =>
      subst hn
      refine .inr ⟨_, _, _, cf, rfl, fun i x hx => ⟨hsz i x hx, fun j y hy => ⟨hc i x j y hx hy, ?_, fun _ => (hr i x j y hx hy).lend⟩⟩⟩
      exact (hr i x j y hx hy).move (Nat.le_refl _) (fun _ _ _ => rfl) (fun _ _ _ => by rintro ⟨o, ho⟩; cases ho) (by simp)
  · rename_i o
    split at hk
    · rename_i B hB
      refine ⟨B.esz, B.els, ?_, hk⟩
      simp only [RT] at hx
      obtain ⟨h2, h3⟩ := hx.2 B (by rw [h.objsEq]; exact hB)
      rcases h3 with ⟨h3, h4⟩ | ⟨b, cap, h3, h4, h5⟩
      · rcases h.objs o B hB with ⟨_, _, k3, _⟩ | ⟨_, _, _, _, k1, _⟩
        · exact .inl ⟨k3, h4⟩
        · rw [k1] at h3; cases h3
      · have := ob o B hB h2 b cap h3 h4 0 B.els.length 0 cap (by omega) (by simp)
        rw [h5]
        simpa using this
    · exact hk.elim
  · rename_i o lo n
    split at hk
    · rename_i B hB
      refine ⟨B.esz, _, ?_, hk⟩
      simp only [RT] at hx
      obtain ⟨h2, h2', h3⟩ := hx.2 B (by rw [h.objsEq]; exact hB)
      rcases h3 with ⟨h3, h4⟩ | ⟨b, cap, f, cap', h3, h4, h5, h6⟩
      · rcases h.objs o B hB with ⟨_, _, k3, _⟩ | ⟨_, _, _, _, k1, _⟩
        · exact .inl ⟨by rw [k3]; simp, h4⟩
        · rw [k1] at h3; cases h3
      · have := ob o B hB h2 b cap h3 h4 lo n f cap' h2' (h6.imp (·.1) (·.1))
        rw [h5]
        exact this
    · exact hk.elim
  · exact hk.elim
end

/-- Cells in a row, as a list. -/
def rowNews (w : World) (b f n : Nat) : List Value := (List.range n).map fun k => (w.cell? ⟨b, f + k, none⟩).getD undef

theorem rowNews_get {w : World} {b f n k : Nat} (hk : k < n) {c : Value} (h : w.cell? ⟨b, f + k, none⟩ = some c) : (rowNews w b f n)[k]? = some c := by
  simp [rowNews, hk, h]

theorem SrcAt.cells {E : Env} {esz : Nat} {xs : List AV} {b f : Nat} {cf : Nat → Nat → Value}
    (h : ∀ (i : Nat) (x : AV), xs[i]? = some x → (cellsOf x).length = esz ∧ ∀ (j : Nat) (y : AV), (cellsOf x)[j]? = some y → E.w.cell? ⟨b, f + i * esz + j, none⟩ = some (cf i j) ∧ C0 E.w (fun _ => []) false [] y (cf i j) ∧ (flatC y = true → C0 E.w E.lab false [] y (cf i j))) :
    ∀ k, k < xs.length * esz → ∃ c, E.w.cell? ⟨b, f + k, none⟩ = some c ∧ c.oneCell' = true := by
  intro k hk
  have hpos : 0 < esz := by
    rcases Nat.eq_zero_or_pos esz with h0 | h0
    · rw [h0] at hk; simp at hk
    · exact h0
  have hi : k / esz < xs.length := (Nat.div_lt_iff_lt_mul hpos).2 hk
  obtain ⟨h1, h2⟩ := h (k / esz) _ (List.getElem?_eq_getElem hi)
  have hj : k % esz < (cellsOf xs[k / esz]).length := by rw [h1]; exact Nat.mod_lt _ hpos
  obtain ⟨h3, h4, _⟩ := h2 (k % esz) _ (List.getElem?_eq_getElem hj)
  refine ⟨_, ?_, h4.one⟩
  rw [← h3]
  congr 2
  have := Nat.div_add_mod k esz
  rw [Nat.mul_comm] at this
  omega

/-- What is appended out of a slice. -/
theorem SrcAt.src {P : Program} {E : Env} {esz t e : Nat} (hu : P.underlying t = some (.slice e)) {xs : List AV} {c : Value} (h : SrcAt E esz xs c) : ∃ news, Src P esz t c xs.length news E.w ∧
    ∀ (i : Nat) (x : AV), xs[i]? = some x → (cellsOf x).length = esz ∧ ∀ (j : Nat) (y : AV), (cellsOf x)[j]? = some y → ∃ u, news[i * esz + j]? = some u ∧ (flatC y = true → C0 E.w E.lab false [] y u) := by
  rcases h with ⟨rfl, rfl⟩ | ⟨b, f, cap, cf, rfl, h⟩
  · exact ⟨[], Src.ofNil (P := P) E.w (size := esz) hu 0, fun i x hx => by simp at hx⟩
  · have hc := SrcAt.cells h
    refine ⟨rowNews E.w b f (xs.length * esz), Src.ofSlice (P := P) E.w (size := esz) hu ⟨b, f, none⟩ xs.length cap _ (by simp [rowNews]) (fun j u hu => ?_) (fun u hu => ?_), fun i x hx => ?_⟩
    · have hj : j < xs.length * esz := by have := (List.getElem?_eq_some_iff.1 hu).1; simpa [rowNews] using this
      obtain ⟨c, h1, _⟩ := hc j hj
      rw [rowNews_get hj h1] at hu
      cases hu
      rw [Addr.add_lit]; exact h1
    · obtain ⟨j, hj, hu⟩ := List.mem_iff_getElem?.1 hu |>.imp fun j hj => (⟨(List.getElem?_eq_some_iff.1 hj).1, hj⟩ : _ ∧ _)
      have hj : j < xs.length * esz := by simpa [rowNews] using hj
      obtain ⟨c, h1, h2⟩ := hc j hj
      rw [rowNews_get hj h1] at hu
      cases hu; exact h2
    · obtain ⟨h1, h2⟩ := h i x hx
      refine ⟨h1, fun j y hy => ?_⟩
      obtain ⟨h3, _, h4⟩ := h2 j y hy
      have hi : i < xs.length := (List.getElem?_eq_some_iff.1 hx).1
      have hj : j < esz := by rw [← h1]; exact (List.getElem?_eq_some_iff.1 hy).1
      refine ⟨_, rowNews_get ?_ (by rw [← Nat.add_assoc]; exact h3), h4⟩
      have := Nat.mul_le_mul_right esz (show i + 1 ≤ xs.length from hi)
      rw [Nat.add_mul, Nat.one_mul] at this
      omega

theorem run_append_roomS {P : Program} (w : World) (t tx ty e : TypeId) (i : TypeInfo) (ht : P.underlying t = some (.slice e)) (hi : P.info? e = some i)
    (g n cap : Nat) (cur : Array Value) {e' : TypeId} (hg : w.heap[g]? = some (.cells cur e' (0, 0))) (x : Value) (m : Nat) (news : List Value) (hs : Src P i.size tx x m news w)
    (hroom : n + m ≤ cap) (hfit : n * i.size + news.length ≤ cur.size) :
    (Builtin.append_ #[t, tx] ty #[.slice (some ⟨g, 0, none⟩) n cap, x]).run P w =
      .ok (.slice (some ⟨g, 0, none⟩) (n + m) cap) (w.setRow g (cur.toList.take (n * i.size) ++ news ++ cur.toList.drop (n * i.size + news.length)).toArray) := by
  have hst := run_storeCells_at P g (n * i.size) e' news 0 cur w hg (by simpa using hfit) hs.one
  simp only [Nat.add_zero] at hst
  rcases hs.kind with ⟨e', hk⟩ | hk <;> simp [Builtin.append_, run_underlying ht, run_underlying hk, sizeOf, typeInfo, hi, hs.len, hroom, hs.cells, Addr.add_lit, hst]

/-- THE CORE: elements els (of a consumed base) and ys become the row d. -/
theorem append_core {P : Program} {F : Frm} {s : AS} {a : Act} {E : Env} (h : Ok F s a E) {d : Nat} (hfree : getO s.objs d = none) (nr1 : noRefL d s.tmps = true) (nr2 : noRefO d s.objs = true)
    {t tx ty e : Nat} {i : TypeInfo} {z : Value} (ht : P.underlying t = some (.slice e)) (hi : P.info? e = some i) (hz : i.zero = some z) (hzs : z.cells.size = i.size) {lab' : Nat → List Nat}
    (hroot : ∀ b, b < E.w.heap.size → ¬ Root E.lab b → ¬ Root lab' b) (hlab : ∀ b τ k, (getO s.objs k).isSome = true → E.lab b = τ ++ [k] → lab' b = τ ++ [k]) (hlabs : ∀ b, lab' b ≠ [] → E.lab b ≠ [])
    {vb : Value} {els : List AV}
    (hbase : (vb = .slice none 0 0 ∧ els = []) ∨ ∃ b cap cur e', vb = .slice (some ⟨b, 0, none⟩) els.length cap ∧ E.w.heap[b]? = some (.cells cur e' (0, 0)) ∧ cur.size = cap * i.size ∧ els.length ≤ cap ∧ lab' b = [d] ∧ (∃ o, E.lab b = [o] ∧ getO s.objs o = none) ∧
      ∀ (i' : Nat) (x : AV), els[i']? = some x → (cellsOf x).length = i.size ∧ ∀ (j : Nat) (y : AV), (cellsOf x)[j]? = some y → ∃ c, cur[i' * i.size + j]? = some c ∧ C0 E.w lab' true [i', j, d] y c)
    {vy : Value} {ys : List AV} {news : List Value} (hsrc : Src P i.size tx vy ys.length news E.w)
    (hys : ∀ (i' : Nat) (x : AV), ys[i']? = some x → (cellsOf x).length = i.size ∧ ∀ (j : Nat) (y : AV), (cellsOf x)[j]? = some y → ∃ u, news[i' * i.size + j]? = some u ∧ C0 E.w lab' true [els.length + i', j, d] y u)
    (hb1 : 1 ≤ i.bytes) (hbig : (els.length + ys.length) * i.bytes ≤ 140737488355328) :
    ∃ v w', (Builtin.append_ #[t, tx] ty #[vb, vy]).run P E.w = .ok v w' ∧ ∃ E', E'.w = w' ∧ Ok F { s with objs := setO s.objs d ⟨i.size, false, none, els ++ ys⟩ } a E' ∧ RT E' (.row d) v := by
  have hlt : ∀ b, E.lab b ≠ [] → b < E.w.heap.size := fun b hb => (h.labs b hb).2
  have hsm : els.length + ys.length ≤ 140737488355328 := by
    have := Nat.mul_le_mul_left (els.length + ys.length) hb1
    omega
  -- elements in a block of cells
  have lkup : ∀ (arr : Array Value) (w' : World) (lab'' : Nat → List Nat) , E.w.heap.size ≤ w'.heap.size → (∀ b, b < E.w.heap.size → ¬ Root lab' b → w'.heap[b]? = E.w.heap[b]?) → (∀ b, b < E.w.heap.size → lab'' b = lab' b) →
      (∀ (i' : Nat) (x : AV), els[i']? = some x → (cellsOf x).length = i.size ∧ ∀ (j : Nat) (y : AV), (cellsOf x)[j]? = some y → ∃ c, arr[i' * i.size + j]? = some c ∧ C0 E.w lab' true [i', j, d] y c) →
      (∀ k u, news[k]? = some u → arr[els.length * i.size + k]? = some u) →
      ∀ (i' : Nat) (x : AV), (els ++ ys)[i']? = some x → (cellsOf x).length = i.size ∧ ∀ (j : Nat) (y : AV), (cellsOf x)[j]? = some y → ∃ c, arr[i' * i.size + j]? = some c ∧ C0 w' lab'' true [i', j, d] y c := by
    intro arr w' lab'' hsz hw hl hold hnew i' x hx
    have mv : ∀ {π : List Nat} {y : AV} {c : Value}, C0 E.w lab' true π y c → C0 w' lab'' true π y c := fun hc =>
      hc.move hsz hw (fun b hb hr => by rintro ⟨k, hk⟩; exact hr ⟨k, by rw [← hl b hb]; exact hk⟩) (fun _ => ⟨rfl, fun b τ hb hτ => by rw [hl b hb]; exact hτ⟩)
    by_cases hlt' : i' < els.length
    · rw [List.getElem?_append_left hlt'] at hx
      obtain ⟨k1, k2⟩ := hold i' x hx
      refine ⟨k1, fun j y hy => ?_⟩
      obtain ⟨c, k3, k4⟩ := k2 j y hy
      exact ⟨c, k3, mv k4⟩
    · rw [List.getElem?_append_right (by omega)] at hx
      obtain ⟨k1, k2⟩ := hys _ x hx
      refine ⟨k1, fun j y hy => ?_⟩
      obtain ⟨u, k3, k4⟩ := k2 j y hy
      refine ⟨u, ?_, ?_⟩
      · have := hnew _ u k3
        rw [← this]
        congr 1
        have : i' = els.length + (i' - els.length) := by omega
        rw [← Nat.add_assoc, ← Nat.add_mul, ← this]
      · have := mv k4
        rwa [show els.length + (i' - els.length) = i' by omega] at this
  -- the grown row
  have grown : ∀ (old : Nat) (base : Option Addr) (olds : List Value), old < els.length + ys.length → olds.length = els.length * i.size → (Builtin.firstCells i.size els.length (.slice base els.length old)).run P E.w.drew = .ok olds.toArray E.w.drew →
      (∀ (i' : Nat) (x : AV), els[i']? = some x → (cellsOf x).length = i.size ∧ ∀ (j : Nat) (y : AV), (cellsOf x)[j]? = some y → ∃ c, olds[i' * i.size + j]? = some c ∧ C0 E.w lab' true [i', j, d] y c) → vb = .slice base els.length old →
      ∃ v w', (Builtin.append_ #[t, tx] ty #[vb, vy]).run P E.w = .ok v w' ∧ ∃ E', E'.w = w' ∧ Ok F { s with objs := setO s.objs d ⟨i.size, false, none, els ++ ys⟩ } a E' ∧ RT E' (.row d) v := by
    intro old base olds ho hlo hold hels hvb
    have hr := run_append_grow_src (P := P) E.w t tx ty e i z ht hi hz base els.length old olds hold vy ys.length news hsrc (by omega) (by omega) (growslice_fits (by omega) hbig)
    have hge := grownCap_ge E.w (els.length + ys.length) old e
    rw [hvb]
    refine ⟨_, _, hr, ?_⟩
    generalize hcap : grownCap E.w (els.length + ys.length) old e = cap at hge ⊢
    generalize harr : (olds ++ news).toArray ++ Builtin.zeroCells z.cells (cap - (els.length + ys.length)) = arr
    have hsize : arr.size = cap * i.size := by
      rw [← harr]
      simp only [Array.size_append, List.size_toArray, size_zeroCells, hzs, List.length_append, hlo, hsrc.newsLen, ← Nat.add_mul]
      congr 1; omega
    have hw : ∀ b, b < E.w.heap.size → (E.w.drew.alloc (.cells arr e)).heap[b]? = E.w.heap[b]? := fun b hb => by
      exact heap_alloc_old E.w.drew (.cells arr e) (show b < E.w.drew.heap.size from hb)
    have hnb : (E.w.drew.alloc (.cells arr e)).heap[E.w.heap.size]? = some (.cells arr e (0, 0)) := heap_alloc_new E.w.drew _
    have hws : (E.w.drew.alloc (.cells arr e)).heap.size = E.w.heap.size + 1 := by simp
    refine ⟨⟨E.w.drew.alloc (.cells arr e), fun b => if b = E.w.heap.size then [d] else lab' b, fun k => if k = d then some E.w.heap.size else E.sg k, setO E.objs d ⟨i.size, false, none, els ++ ys⟩⟩, rfl, ?_, ?_⟩
    · refine h.turn rfl hfree nr1 nr2 ?_ (by rw [hws]; omega) (fun b hb _ => hw b hb) (fun b hb hr => ?_) (fun k hk => by simp [hk]) (fun b τ k hb hk hτ => ?_) (fun b hb => ?_) ?_
      · have hk := h.kept
        exact ⟨hk.os, hk.tape, hk.output, by have := hk.size; show _ ≤ (E.w.drew.alloc (.cells arr e)).heap.size; omega, fun k hk' hs => (hw k (by have := hk.size; omega)).trans (hk.block k hk' hs)⟩
      · rintro ⟨k, hk⟩
        simp only [show b ≠ E.w.heap.size by omega, if_false] at hk
        exact hroot b hb hr ⟨k, hk⟩
      · simp only [show b ≠ E.w.heap.size by omega, if_false]; exact hlab b τ k hk hτ
      · by_cases hbs : b = E.w.heap.size
        · subst hbs; exact ⟨.inl h.kept.size, by rw [hws]; omega⟩
        · simp only [hbs, if_false] at hb
          have := h.labs b (hlabs b hb)
          exact ⟨this.1, by rw [hws]; omega⟩
      · refine .inr ⟨E.w.heap.size, cap, arr, e, by simp, by simp, by simp, hnb, hsize, by simp; omega, ?_⟩
        refine lkup arr _ _ (by rw [hws]; omega) (fun b hb _ => hw b hb) (fun b hb => by simp [show b ≠ E.w.heap.size by omega]) (fun i' x hx => ?_) (fun k u hk => ?_)
        · obtain ⟨k1, k2⟩ := hels i' x hx
          refine ⟨k1, fun j y hy => ?_⟩
          obtain ⟨c, k3, k4⟩ := k2 j y hy
          refine ⟨c, ?_, k4⟩
          have hl := (List.getElem?_eq_some_iff.1 k3).1
          rw [← harr, Array.getElem?_append_left (by simp; omega)]
          simp only [List.getElem?_toArray]
          rw [List.getElem?_append_left hl]; exact k3
        · have hl := (List.getElem?_eq_some_iff.1 hk).1
          rw [← harr, Array.getElem?_append_left (by simp; omega)]
          simp only [List.getElem?_toArray]
          rw [List.getElem?_append_right (by omega), hlo, Nat.add_sub_cancel_left]; exact hk
    · simp only [RT, Env.row]
      refine ⟨rfl, fun ob' ho' => ?_⟩
      rw [getO_setO, if_pos rfl] at ho'; cases ho'
      exact ⟨rfl, .inr ⟨E.w.heap.size, cap, by simp, ⟨arr, e, hnb, hsize⟩, by simp⟩⟩
  rcases hbase with ⟨hvb, hels⟩ | ⟨b, cap, cur, e', hvb, hb, hcs, hle, hlb, ⟨o, hlo, hoo⟩, hcur⟩
  · subst hels
    by_cases hm : ys.length = 0
    · have hys0 : ys = [] := List.eq_nil_of_length_eq_zero hm
      subst hys0
      have hn : news = [] := List.eq_nil_of_length_eq_zero (by rw [hsrc.newsLen]; simp)
      subst hn
      have hr := run_append_nothing (P := P) E.w t tx ty e i ht hi none 0 0 (Nat.le_refl _) vy hsrc
      rw [hvb]
      refine ⟨_, _, hr, ⟨E.w, lab', fun k => if k = d then none else E.sg k, setO E.objs d ⟨i.size, false, none, [] ++ []⟩⟩, rfl, ?_, ?_⟩
      · refine h.turn rfl hfree nr1 nr2 h.kept (Nat.le_refl _) (fun _ _ _ => rfl) hroot (fun k hk => by simp [hk]) (fun b τ k _ hk hτ => hlab b τ k hk hτ) (fun b hb => h.labs b (hlabs b hb)) ?_
        refine .inl ⟨?_, rfl, rfl, by simp⟩
        show (if d = d then none else E.sg d) = none
        simp
      · simp only [RT, Env.row]
        refine ⟨rfl, fun ob' ho' => ?_⟩
        rw [getO_setO, if_pos rfl] at ho'; cases ho'
        exact ⟨rfl, .inl (by simp)⟩
    · exact grown 0 none [] (by simp; omega) (by simp) (run_firstCells_none E.w.drew i.size 0 0 0) (fun i' x hx => by simp at hx) hvb
  · by_cases hroom : els.length + ys.length ≤ cap
    · have hfit : els.length * i.size + news.length ≤ cur.size := by rw [hsrc.newsLen, hcs, ← Nat.add_mul]; exact Nat.mul_le_mul_right _ hroom
      have hr := run_append_roomS (P := P) E.w t tx ty e i ht hi b els.length cap cur hb vy ys.length news hsrc hroom hfit
      rw [hvb]
      refine ⟨_, _, hr, ?_⟩
      generalize harr : (cur.toList.take (els.length * i.size) ++ news ++ cur.toList.drop (els.length * i.size + news.length)).toArray = arr
      have hbs : b < E.w.heap.size := (Array.getElem?_eq_some_iff.1 hb).1
      have hsize : arr.size = cap * i.size := by rw [← harr]; simp; omega
      have hnb : (E.w.setRow b arr).heap[b]? = some (.cells arr e' (0, 0)) := setRow_heap E.w b cur arr e' _ hb
      have hw : ∀ k, k ≠ b → (E.w.setRow b arr).heap[k]? = E.w.heap[k]? := fun k hk => setRow_other E.w b k arr hk
      have hws : (E.w.setRow b arr).heap.size = E.w.heap.size := by simp
      have hget : ∀ k, arr[k]? = if els.length * i.size ≤ k ∧ k < els.length * i.size + news.length then news[k - els.length * i.size]? else cur[k]? := fun k => by
        rw [← harr, List.getElem?_toArray, splice_get _ _ _ _ (by simpa using hfit)]
        simp
      refine ⟨⟨E.w.setRow b arr, lab', fun k => if k = d then some b else E.sg k, setO E.objs d ⟨i.size, false, none, els ++ ys⟩⟩, rfl, ?_, ?_⟩
      · refine h.turn rfl hfree nr1 nr2 ?_ (by rw [hws]; omega) (fun k hk hor => ?_) hroot (fun k hk => by simp [hk]) (fun b τ k _ hk hτ => hlab b τ k hk hτ) (fun k hk => ?_) ?_
        · have hk := h.kept
          refine ⟨hk.os, hk.tape, hk.output, by rw [hws]; exact hk.size, fun k hk' hs => ?_⟩
          have hne : k ≠ b := by
            rintro rfl
            rcases (h.labs k (by rw [hlo]; simp)).1 with h3 | h3
            · omega
            · exact hs h3
          exact (hw k hne).trans (hk.block k hk' hs)
        · refine hw k ?_
          rintro rfl
          rcases hor with hr | ⟨k', hk1, hk2⟩
          · exact hr ⟨o, hlo⟩
          · rw [hlo] at hk2
            have : o = k' := by simpa using hk2
            subst this
            rw [hoo] at hk1; cases hk1
        · have := h.labs k (hlabs k hk)
          exact ⟨this.1, by show k < (E.w.setRow b arr).heap.size; rw [hws]; exact this.2⟩
        · refine .inr ⟨b, cap, arr, e', by simp, hlb, by simp, hnb, hsize, by simp; omega, ?_⟩
          refine lkup arr _ _ (by rw [hws]; omega) (fun k hk hrt => hw k (by rintro rfl; exact hrt ⟨d, hlb⟩)) (fun _ _ => rfl) (fun i' x hx => ?_) (fun k u hk => ?_)
          · obtain ⟨k1, k2⟩ := hcur i' x hx
            refine ⟨k1, fun j y hy => ?_⟩
            obtain ⟨c, k3, k4⟩ := k2 j y hy
            refine ⟨c, ?_, k4⟩
            have hi' : i' < els.length := (List.getElem?_eq_some_iff.1 hx).1
            have hj : j < i.size := by rw [← k1]; exact (List.getElem?_eq_some_iff.1 hy).1
            have := Nat.mul_le_mul_right i.size (show i' + 1 ≤ els.length from hi')
            rw [Nat.add_mul, Nat.one_mul] at this
            rw [hget, if_neg (by omega)]; exact k3
          · have hl := (List.getElem?_eq_some_iff.1 hk).1
            rw [hget, if_pos (by omega), Nat.add_sub_cancel_left]; exact hk
      · simp only [RT, Env.row]
        refine ⟨rfl, fun ob' ho' => ?_⟩
        rw [getO_setO, if_pos rfl] at ho'; cases ho'
        exact ⟨rfl, .inr ⟨b, cap, by simp, ⟨arr, e', hnb, hsize⟩, by simp⟩⟩
    · have hcell : ∀ k, k < els.length * i.size → ∃ c, cur[k]? = some c := fun k hk => by
        have : k < cur.size := by
          rw [hcs]
          have := Nat.mul_le_mul_right i.size hle
          omega
        exact ⟨_, Array.getElem?_eq_getElem this⟩
      have holds : ∀ j v, (cur.toList.take (els.length * i.size))[j]? = some v → E.w.drew.cell? ((⟨b, 0, none⟩ : Addr).add j) = some v := fun j v hv => by
        rw [List.getElem?_take] at hv
        split at hv
        · rw [Array.getElem?_toList] at hv
          rw [Addr.add_lit, Nat.zero_add]
          exact row_cell (w := E.w.drew) hb hv
        · cases hv
      refine grown cap (some ⟨b, 0, none⟩) (cur.toList.take (els.length * i.size)) (by omega) ?_ (run_firstCells_some (P := P) E.w.drew i.size els.length ⟨b, 0, none⟩ els.length cap _ ?_ holds) (fun i' x hx => ?_) hvb
      · simp
        rw [hcs]; exact Nat.min_eq_left (Nat.mul_le_mul_right _ hle)
      · simp
        rw [hcs]; exact Nat.min_eq_left (Nat.mul_le_mul_right _ hle)
      · obtain ⟨k1, k2⟩ := hcur i' x hx
        refine ⟨k1, fun j y hy => ?_⟩
        obtain ⟨c, k3, k4⟩ := k2 j y hy
        refine ⟨c, ?_, k4⟩
        have hi' : i' < els.length := (List.getElem?_eq_some_iff.1 hx).1
        have hj : j < i.size := by rw [← k1]; exact (List.getElem?_eq_some_iff.1 hy).1
        have := Nat.mul_le_mul_right i.size (show i' + 1 ≤ els.length from hi')
        rw [Nat.add_mul, Nat.one_mul] at this
        rw [List.getElem?_take, if_pos (by omega), Array.getElem?_toList]; exact k3

end Go.Eng
/- Append, as an operation. -/
namespace Go.Eng
open Go.RowKit
set_option linter.unusedSimpArgs false
set_option linter.unusedVariables false
set_option linter.unusedSectionVars false

/-- What append takes as its first argument: nothing, or a row of one's own (which is used up). -/
def baseK (g : Nat → Option Ob) (sz : Nat) (x : AV) (K : Option Nat → List AV → Prop) : Prop := match x with
  | .v (.slice none 0 0) => K none []
  | .row o => (match g o with
    | some B => ifK (!B.box && Nat.beq B.esz sz) (fun _ => K (some o) B.els) (fun _ => False)
    | none => False)
  | .osl o lo n => (match g o with
    | some B => ifK (Nat.beq lo 0 && (!B.box && Nat.beq B.esz sz)) (fun _ => K (some o) (B.els.take n)) (fun _ => False)
    | none => False)
  | _ => False
def bytesL (b : ByteArray) : List AV := b.data.toList.map fun c => .v (.int .u8 c.toNat)
/-- What append takes as its second argument. -/
def apSrc (L : Lay) (t : Nat) (g : Nat → Option Ob) (sz : Nat) (y : AV) (K : List AV → Prop) : Prop := match lkT L t with
  | some ⟨.str, _, _, _, _⟩ => (match y with
    | .v (.string b) => ifK (Nat.beq sz 1) (fun _ => K (bytesL b)) (fun _ => False)
    | _ => False)
  | some ⟨.slice _, _, _, _, _⟩ => (match y with
    | .v (.slice none 0 0) => K []
    | y => srcK g y fun esz xs => ifK (Nat.beq esz sz) (fun _ => K xs) (fun _ => False))
  | _ => False
def AllFlat (xs : List AV) : Prop := ∀ x ∈ xs, flat x = true
theorem AllFlat_nil : AllFlat [] ↔ True := by simp [AllFlat]
theorem AllFlat_cons (x : AV) (l : List AV) : AllFlat (x :: l) ↔ (flat x = true ∧ AllFlat l) := by simp [AllFlat]
theorem AllFlat_map {α : Type} (f : α → AV) (l : List α) (h : ∀ x, flat (f x) = true) : AllFlat (l.map f) := by
  intro x hx
  obtain ⟨y, _, rfl⟩ := List.mem_map.1 hx
  exact h y
theorem AllFlat_app (l l' : List AV) : AllFlat (l ++ l') ↔ (AllFlat l ∧ AllFlat l') := by
  simp only [AllFlat, List.mem_append]
  exact ⟨fun h => ⟨fun x hx => h x (.inl hx), fun x hx => h x (.inr hx)⟩, fun h x hx => hx.elim (h.1 x) (h.2 x)⟩
theorem AllFlat_bytes (b : ByteArray) : AllFlat (bytesL b) := AllFlat_map _ _ fun _ => rfl

def killO (s : AS) : Option Nat → AS
  | some o => s.kil o
  | none => s
def newR (d : Option Nat) (esz : Nat) (els : List AV) (s : AS) (K : AS → Prop) : Prop := match d with
  | some d => (match getO s.objs d with
    | none => ifK (noRefL d s.tmps && noRefO d s.objs) (fun _ => K { tmps := st s.tmps d (.row d), objs := setO s.objs d ⟨esz, false, none, els⟩ }) (fun _ => False)
    | some _ => False)
  | none => False
def appK (L : Lay) (t t2 : Nat) (d : Option Nat) (x y : AV) (s : AS) (K : AS → Prop) : Prop := match lkT L t with
  | some ⟨.slice e, _, _, _, _⟩ => (match lkT L e with
    | some ei => baseK (getO s.objs) ei.size x fun ob els => apSrc L t2 (getO s.objs) ei.size y fun ys =>
        ifK (Nat.ble 1 ei.size && Nat.ble 1 ei.bytes) (fun _ => AllFlat ys ∧ (els.length + ys.length) * ei.bytes ≤ 140737488355328 ∧ newR d ei.size (els ++ ys) (killO s ob) K) (fun _ => False)
    | none => False)
  | _ => False

theorem ifK_inv {b : Bool} {k : Unit → Prop} (h : ifK b k (fun _ => False)) : b = true ∧ k () := by
  cases b
  · exact h.elim
  · exact ⟨rfl, h⟩

theorem newR_inv {d : Option Nat} {esz : Nat} {els : List AV} {s : AS} {K : AS → Prop} (h : newR d esz els s K) : ∃ d', d = some d' ∧ getO s.objs d' = none ∧ noRefL d' s.tmps = true ∧ noRefO d' s.objs = true ∧
    K { tmps := st s.tmps d' (.row d'), objs := setO s.objs d' ⟨esz, false, none, els⟩ } := by
  unfold newR at h
  split at h
  · rename_i d
    split at h
    · rename_i hg
      obtain ⟨h1, h2⟩ := ifK_inv h
      simp only [Bool.and_eq_true] at h1
      exact ⟨d, rfl, hg, h1.1, h1.2, h2⟩
    · exact h.elim
  · exact h.elim

section
variable {F : Frm} {s : AS} {a : Act} {E : Env} (h : Ok F s a E)
include h

/-- A base of append, as append_core wants it. -/
theorem base_at {x : AV} {vb : Value} (hx : RT E x vb) {sz d : Nat} (hsz : 1 ≤ sz) {K : Option Nat → List AV → Prop} (hk : baseK (getO s.objs) sz x K) :
    ∃ ob els, K ob els ∧ ∃ E1 lab', E1.w = E.w ∧ E1.lab = E.lab ∧ Ok F (killO s ob) a E1 ∧ (∀ b, b < E.w.heap.size → ¬ Root E.lab b → ¬ Root lab' b) ∧
      (∀ b τ k, (getO (killO s ob).objs k).isSome = true → E.lab b = τ ++ [k] → lab' b = τ ++ [k]) ∧ (∀ b, lab' b ≠ [] → E.lab b ≠ []) ∧
      ((vb = .slice none 0 0 ∧ els = []) ∨ ∃ b cap cur e', vb = .slice (some ⟨b, 0, none⟩) els.length cap ∧ E.w.heap[b]? = some (.cells cur e' (0, 0)) ∧ cur.size = cap * sz ∧ els.length ≤ cap ∧ lab' b = [d] ∧ (∃ o, E.lab b = [o] ∧ getO (killO s ob).objs o = none) ∧
        ∀ (i' : Nat) (x : AV), els[i']? = some x → (cellsOf x).length = sz ∧ ∀ (j : Nat) (y : AV), (cellsOf x)[j]? = some y → ∃ c, cur[i' * sz + j]? = some c ∧ C0 E.w lab' true [i', j, d] y c) := by
  have row : ∀ (o : Nat) (B : Ob), getO s.objs o = some B → B.box = false → B.esz = sz → ∀ (n : Nat), n ≤ B.els.length → ((vb = .slice none 0 0 ∧ B.els.take n = []) ∨ ∃ b cap, E.sg o = some b ∧ E.blk b sz cap ∧ vb = .slice (some ⟨b, 0, none⟩) n cap) → K (some o) (B.els.take n) →
      ∃ ob els, K ob els ∧ ∃ E1 lab', E1.w = E.w ∧ E1.lab = E.lab ∧ Ok F (killO s ob) a E1 ∧ (∀ b, b < E.w.heap.size → ¬ Root E.lab b → ¬ Root lab' b) ∧
      (∀ b τ k, (getO (killO s ob).objs k).isSome = true → E.lab b = τ ++ [k] → lab' b = τ ++ [k]) ∧ (∀ b, lab' b ≠ [] → E.lab b ≠ []) ∧
      ((vb = .slice none 0 0 ∧ els = []) ∨ ∃ b cap cur e', vb = .slice (some ⟨b, 0, none⟩) els.length cap ∧ E.w.heap[b]? = some (.cells cur e' (0, 0)) ∧ cur.size = cap * sz ∧ els.length ≤ cap ∧ lab' b = [d] ∧ (∃ o, E.lab b = [o] ∧ getO (killO s ob).objs o = none) ∧
        ∀ (i' : Nat) (x : AV), els[i']? = some x → (cellsOf x).length = sz ∧ ∀ (j : Nat) (y : AV), (cellsOf x)[j]? = some y → ∃ c, cur[i' * sz + j]? = some c ∧ C0 E.w lab' true [i', j, d] y c) := by
    intro o B hB hbox hesz n hn hv hK
    have hno : getO (s.kil o).objs o = none := by
      simp only [AS.kil, AS.map, getO_mapObs, getO_delO, if_true, Option.map_none]
    refine ⟨some o, _, hK, E.kil o, fun b => relab o [d] (E.lab b), rfl, rfl, h.kil o, fun b _ hr => relab_root (by simp) hr, fun b τ k hk hτ => ?_, fun b hb => relab_ne hb, ?_⟩
    · have hne : k ≠ o := by
        rintro rfl
        simp only [killO] at hk
        rw [hno] at hk; cases hk
      show relab o [d] (E.lab b) = _
      rw [hτ, relab_other hne]
    · rcases hv with hv | ⟨b, cap, g1, g2, g3⟩
      · exact .inl hv
      · rcases h.objs o B hB with ⟨k1, _⟩ | ⟨b', cap₂, arr, e, k1, k2, k3, k4, k5, k6, k7⟩
        · rw [k1] at g1; cases g1
        rw [k1] at g1; cases g1
        obtain ⟨arr', e', m1, m2⟩ := g2
        rw [k4] at m1; cases m1
        rw [hesz] at k5 k7
        have hcap : cap₂ = cap := by
          rw [k5] at m2
          exact Nat.eq_of_mul_eq_mul_right (by omega) m2
        subst hcap
        have htl : (B.els.take n).length = n := by simp; omega
        refine .inr ⟨b, cap₂, arr, e, by rw [htl]; exact g3, k4, k5, by rw [htl]; omega, ?_, ⟨o, k2, hno⟩, fun i' x hx => ?_⟩
        · have := relab_app o [d] []
          simp only [List.nil_append] at this
          show relab o [d] (E.lab b) = _
          rw [k2, this]
        · have hi : i' < n := by
            rcases Nat.lt_or_ge i' n with h | h
            · exact h
            · simp [List.getElem?_take, Nat.not_lt.2 h] at hx
          rw [List.getElem?_take, if_pos hi] at hx
          obtain ⟨j1, j2⟩ := k7 i' x hx
          refine ⟨j1, fun j y hy => ?_⟩
          obtain ⟨c, j3, j4⟩ := j2 j y hy
          refine ⟨c, j3, ?_⟩
          rw [hbox] at j4
          simp only [RC, cond_false] at j4
          refine j4.move (Nat.le_refl _) (fun _ _ _ => rfl) (fun b _ hr => relab_root (by simp) hr) (fun _ => ⟨rfl, fun b τ _ hτ => ?_⟩)
          have := relab_app o [d] (τ ++ [i', j])
          rw [hτ]
          simpa using this
  unfold baseK at hk
  split at hk
  · refine ⟨none, [], hk, E, E.lab, rfl, rfl, h, fun _ _ h => h, fun _ _ _ _ h => h, fun _ h => h, .inl ⟨hx.v_inv.1, rfl⟩⟩
  · rename_i o
    split at hk
    · rename_i B hB
      obtain ⟨hc, hk⟩ := ifK_inv hk
      simp only [Bool.and_eq_true, Bool.not_eq_true'] at hc
      have hesz := Nat.eq_of_beq_eq_true hc.2
      simp only [RT] at hx
      obtain ⟨h2, h3⟩ := hx.2 B (by rw [h.objsEq]; exact hB)
      have := row o B hB hc.1 hesz B.els.length (Nat.le_refl _) (by
        rcases h3 with ⟨h3, h4⟩ | ⟨b, cap, h3, h4, h5⟩
        · rcases h.objs o B hB with ⟨_, _, k3, _⟩ | ⟨_, _, _, _, k1, _⟩
          · exact .inl ⟨h4, by simp [k3]⟩
          · rw [k1] at h3; cases h3
        · exact .inr ⟨b, cap, h3, by rw [← hesz]; exact h4, h5⟩) (by simpa using hk)
      exact this
    · exact hk.elim
  · rename_i o lo n
    split at hk
    · rename_i B hB
      obtain ⟨hc, hk2⟩ := ifK_inv hk
      clear hk
      simp only [Bool.and_eq_true, Bool.not_eq_true'] at hc
      have hlo := Nat.eq_of_beq_eq_true hc.1
      have hesz := Nat.eq_of_beq_eq_true hc.2.2
      subst hlo
      simp only [RT] at hx
      obtain ⟨h2, h2', h3⟩ := hx.2 B (by rw [h.objsEq]; exact hB)
      exact row o B hB hc.2.1 hesz n (by omega) (by
        rcases h3 with ⟨h3, h4⟩ | ⟨b, cap, f, cap', h3, h4, h5, h6⟩
        · rcases h.objs o B hB with ⟨_, _, k3, _⟩ | ⟨_, _, _, _, k1, _⟩
          · exact .inl ⟨h4, by simp [k3]⟩
          · rw [k1] at h3; cases h3
        · rcases h6 with ⟨h6, h7⟩ | ⟨_, _, h6⟩
          · refine .inr ⟨b, cap, h3, by rw [← hesz]; exact h4, ?_⟩
            rw [h5, h6, h7]; simp
          · omega) hk2
    · exact hk.elim
  · exact hk.elim

/-- A source of append. -/
theorem apSrc_at {P : Program} {L : Lay} (hL : LOk P L) {y : AV} {vy : Value} (hy : RT E y vy) {t sz : Nat} {K : List AV → Prop} (hk : apSrc L t (getO s.objs) sz y K) : ∃ ys news, K ys ∧ Src P sz t vy ys.length news E.w ∧
    ∀ (i : Nat) (x : AV), ys[i]? = some x → (cellsOf x).length = sz ∧ ∀ (j : Nat) (y : AV), (cellsOf x)[j]? = some y → ∃ u, news[i * sz + j]? = some u ∧ (flatC y = true → C0 E.w E.lab false [] y u) := by
  unfold apSrc at hk
  split at hk
  · rename_i ht
    have hu : P.underlying t = some .string := (hL t _ ht).desc
    split at hk
    · rename_i b
      obtain ⟨hc, hk⟩ := ifK_inv hk
      have hc := Nat.eq_of_beq_eq_true hc
      subst hc
      refine ⟨_, byteCells b, hk, ?_, fun i x hx => ?_⟩
      · have := Src.ofString (P := P) E.w hu b
        have e : (bytesL b).length = b.size := by simp [bytesL]
        rw [hy.str_inv, e]; exact this
      · simp only [bytesL, List.getElem?_map] at hx
        cases hq : b.data.toList[i]? with
        | none => rw [hq] at hx; cases hx
        | some c =>
          rw [hq] at hx
          simp only [Option.map_some, Option.some.injEq] at hx
          subst hx
          refine ⟨rfl, fun j y hj => ?_⟩
          cases j with
          | zero =>
            simp only [cellsOf, List.getElem?_cons_zero, Option.some.injEq] at hj
            subst hj
            refine ⟨.int .u8 c.toNat, ?_, fun _ => .v rfl⟩
            simp only [byteCells, Nat.mul_one, Nat.add_zero, List.getElem?_map, hq, Option.map_some]
          | succ j => simp [cellsOf] at hj
    · exact hk.elim
  · rename_i e _ _ _ _ ht
    have hu : P.underlying t = some (.slice e) := (hL t _ ht).desc
    split at hk
    · refine ⟨[], [], hk, ?_, fun i x hx => by simp at hx⟩
      rw [hy.v_inv.1]
      exact Src.ofNil (P := P) E.w hu 0
    · obtain ⟨esz, xs, h1, h2⟩ := src_at h hy hk
      obtain ⟨hc, hk2⟩ := ifK_inv h2
      have hc := Nat.eq_of_beq_eq_true hc
      subst hc
      obtain ⟨news, h3, h4⟩ := h1.src (P := P) hu
      exact ⟨xs, news, hk2, h3, h4⟩
  · exact hk.elim

variable {P : Program} {L : Lay} (hL : LOk P L) {o : Oper} {next : Act → World → Prop} {Q : Exit → Act → World → Prop} {K : AS → Prop}
  (hn : ∀ a' w', Sat F K a' w' → next a' w')
include hL hn

theorem sound_append {c : Call} {x y : Operand} {t t2 : Nat} (ho : o.op = .call c) (hc : c.callee = .builtin .append) (ha : c.args.toList = [x, y]) (hat : c.argTypes.toList = [t, t2])
    (hk : appK L t t2 o.dst (s.env x) (s.env y) s K) : o.wp P a E.w next Q := by
  have hx := h.env x
  have hy := h.env y
  unfold appK at hk
  split at hk
  · rename_i e _ _ _ _ ht
    split at hk
    · rename_i ei he
      have hu : P.underlying t = some (.slice e) := (hL t _ ht).desc
      have hei := hL e _ he
      obtain ⟨i, hi, hs, hb, z, hz1, hz2⟩ := hei.info
      have hzs : z.cells.size = i.size := by rw [hs, ← hei.zlen, ← hz2]; simp
      have key : ∀ (sz : Nat), sz = ei.size → ∀ (hsz : 1 ≤ sz), (baseK (getO s.objs) sz (s.env x) fun ob els => apSrc L t2 (getO s.objs) ei.size (s.env y) fun ys =>
          ifK (Nat.ble 1 ei.size && Nat.ble 1 ei.bytes) (fun _ => AllFlat ys ∧ (els.length + ys.length) * ei.bytes ≤ 140737488355328 ∧ newR o.dst ei.size (els ++ ys) (killO s ob) K) (fun _ => False)) → o.wp P a E.w next Q := by
        intro sz hsze hsz hk
        obtain ⟨d, hd⟩ : ∃ d, ∃ ob els ys, newR o.dst ei.size (els ++ ys) (killO s ob) K ∧ o.dst = some d := by
          obtain ⟨ob, els, h1, _⟩ := base_at h hx (d := 0) hsz hk
          obtain ⟨ys, news, h2, _⟩ := apSrc_at h hL hy h1
          obtain ⟨_, h3⟩ := ifK_inv h2
          obtain ⟨d, hd, _⟩ := newR_inv h3.2.2
          exact ⟨d, ob, els, ys, h3.2.2, hd⟩
        obtain ⟨_, _, _, _, hd⟩ := hd
        obtain ⟨ob, els, h1, E1, lab', e1, e2, h4, h5, h6, h7, h8⟩ := base_at h hx (d := d) hsz hk
        obtain ⟨ys, news, h2, g1, g2⟩ := apSrc_at h hL hy h1
        obtain ⟨c1, hflat, hbig, hk⟩ := ifK_inv h2
        simp only [Bool.and_eq_true] at c1
        have c2 := Nat.le_of_ble_eq_true c1.2
        obtain ⟨d', hd', hfree, nr1, nr2, hk⟩ := newR_inv hk
        rw [hd] at hd'; cases hd'
        rw [← hs] at g1 g2
        rw [hsze, ← hs] at h8
        rw [← e1, ← e2] at h5
        rw [← e2] at h6 h7
        rw [← e1, ← e2] at h8
        rw [← e1] at g1
        obtain ⟨v, w', r1, E', r2, r3, r4⟩ := append_core h4 hfree nr1 nr2 (ty := o.type) hu hi hz1 hzs h5 h6 h7 h8 g1 (fun i' x hx => by
          obtain ⟨k1, k2⟩ := g2 i' x hx
          refine ⟨k1, fun j y hy => ?_⟩
          obtain ⟨u, k3, k4⟩ := k2 j y hy
          have hfc : flatC y = true := List.all_eq_true.1 (hflat x (List.mem_of_getElem? hx)) y (List.mem_of_getElem? hy)
          refine ⟨u, k3, ?_⟩
          have := k4 hfc
          rw [← e1, ← e2] at this
          have this : C0 E1.w lab' false [] y u := this.move (Nat.le_refl _) (fun _ _ _ => rfl) h5 (by simp)
          exact this.flat hfc) (by rw [hb]; exact c2) (by rw [hb]; exact hbig)
        rw [e1] at r1
        have ex : (execOp a.eval o).run P E.w = .ok (.value v) w' := by
          have ha' : c.args = #[x, y] := by rw [← Array.toArray_toList (xs := c.args), ha]
          have hat' : c.argTypes = #[t, t2] := by rw [← Array.toArray_toList (xs := c.argTypes), hat]
          unfold execOp
          simp [ho, resolve, hc, invoke, builtin, ha', hat', r1]
        refine wp_value ex (hn _ _ ⟨_, E', r2, r3.put o.dst r4, ?_⟩)
        rw [hd, hs]
        exact hk
      have hpos : 1 ≤ ei.size := by
        rcases Nat.eq_zero_or_pos ei.size with h0 | h0
        · exfalso
          unfold baseK at hk
          have fin : ∀ {ob els}, (apSrc L t2 (getO s.objs) ei.size (s.env y) fun ys => ifK (Nat.ble 1 ei.size && Nat.ble 1 ei.bytes) (fun _ => AllFlat ys ∧ (List.length els + ys.length) * ei.bytes ≤ 140737488355328 ∧ newR o.dst ei.size (els ++ ys) (killO s ob) K) (fun _ => False)) → False := by
            intro ob els hk
            obtain ⟨ys, news, h2, _⟩ := apSrc_at h hL hy hk
            obtain ⟨c1, _⟩ := ifK_inv h2
            rw [h0] at c1; simp at c1
          split at hk
          · exact fin hk
          · split at hk
            · exact fin (ifK_inv hk).2
            · exact hk
          · split at hk
            · exact fin (ifK_inv hk).2
            · exact hk
          · exact hk
        · exact h0
      exact key ei.size rfl hpos hk
    · exact hk.elim
  · exact hk.elim
end
end Go.Eng
/- Parts of slices, arrays behind a pointer, bytes to a string, a slice held against nil. -/
namespace Go.Eng
open Go.RowKit
set_option linter.unusedSimpArgs false
set_option linter.unusedVariables false
set_option linter.unusedSectionVars false

def subsK (g : Nat → Option Ob) (sz : Nat) (ev : Operand → AV) (x : Operand) (lo hi mx : Option Operand) (K : AV → Prop) : Prop := match ev x, mx with
  | .sl esz _ _ xs, none => ifK (Nat.beq esz sz && Nat.ble 1 sz) (fun _ => bndK ev lo 0 fun l => bndK ev hi xs.length fun h => 0 ≤ l ∧ l ≤ h ∧ h ≤ xs.length ∧ K (.sl esz false none ((xs.drop l.toNat).take (h.toNat - l.toNat)))) (fun _ => False)
  | .row o, none => (match g o with
    | some B => ifK (Nat.beq B.esz sz && Nat.ble 1 sz) (fun _ => bndK ev lo 0 fun l => bndK ev hi B.els.length fun h => 0 ≤ l ∧ l ≤ h ∧ h ≤ B.els.length ∧ K (.osl o l.toNat (h.toNat - l.toNat))) (fun _ => False)
    | none => False)
  | .v (.slice none 0 0), none => bndK ev lo 0 fun l => bndK ev hi 0 fun h => 0 ≤ l ∧ l ≤ h ∧ h ≤ 0 ∧ K (.v (.slice none 0 0))
  | _, _ => False
/-- A part of a string or of a slice. -/
def slK (L : Lay) (g : Nat → Option Ob) (t : Nat) (ev : Operand → AV) (x : Operand) (lo hi mx : Option Operand) (K : AV → Prop) : Prop := match lkT L t with
  | some ⟨.slice e, _, _, _, _⟩ => (match lkT L e with
    | some ei => subsK g ei.size ev x lo hi mx K
    | none => False)
  | _ => subK L t ev x lo hi mx K

def arrK (L : Lay) (g : Nat → Option Ob) (n e : Nat) (x i : AV) (K : AV → Prop) : Prop := match x, i, lkT L e with
  | .ptr o j c, .v (.int _ (.ofNat m)), some ei => (match g o with
    | some _ => m < n ∧ K (.ptr o j (c + m * ei.size))
    | none => False)
  | .ip cs c, .v (.int _ (.ofNat m)), some ei => m < n ∧ K (.ip cs (c + m * ei.size))
  | _, _, _ => False
/-- The address of an element. -/
def ixK (L : Lay) (g : Nat → Option Ob) (t : Nat) (x i : AV) (K : AV → Prop) : Prop := match lkT L t with
  | some ⟨.arr n e, _, _, _, _⟩ => arrK L g n e x i K
  | _ => indexK L g t x i K

def u8L : List AV → Option (List Int)
  | [] => some []
  | .v (.int .u8 n) :: l => (u8L l).map (n :: ·)
  | _ => none
theorem u8L_map {α : Type} (f : α → Int) (l : List α) : u8L (l.map fun x => AV.v (.int .u8 (f x))) = some (l.map f) := by
  induction l with
  | nil => rfl
  | cons x l ih => simp [u8L, ih]
theorem u8L_inv : ∀ {xs : List AV} {ns : List Int}, u8L xs = some ns → xs = ns.map fun n => .v (.int .u8 n)
  | [], ns, h => by simp [u8L] at h; subst h; rfl
  | x :: xs, ns, h => by
    unfold u8L at h
    split at h
    · rename_i h0; cases h0
    · rename_i n l he
      simp only [List.cons.injEq] at he
      obtain ⟨rfl, rfl⟩ := he
      cases hr : u8L xs with
      | none => simp [hr] at h
      | some r => simp [hr] at h; subst h; rw [u8L_inv hr]; rfl
    · cases h
/-- Conversions: ints, bytes to a string. -/
def cvK (L : Lay) (g : Nat → Option Ob) (src dst : Nat) (x : AV) (K : AV → Prop) : Prop := match lkT L src with
  | some ⟨.slice e, _, _, _, _⟩ => (match lkT L e, lkT L dst with
    | some ⟨.int .u8, _, _, _, _⟩, some ⟨.str, _, _, _, _⟩ => (match x with
      | .v (.slice none 0 0) => K (.v (.string ByteArray.empty))
      | x => srcK g x fun esz xs => (match u8L xs with
        | some ns => ifK (Nat.beq esz 1) (fun _ => K (.v (.string (strOfNums ns)))) (fun _ => False)
        | none => False))
    | _, _ => False)
  | _ => convK L src dst x K

def isNilC : Operand → Bool
  | .const (.slice none 0 0) => true
  | _ => false
def nilB (nl : Option Bool) (xs : List AV) (K : Bool → Prop) : Prop := match nl with
  | some b => K b
  | none => xs ≠ [] ∧ K false
def nilK (g : Nat → Option Ob) (x : AV) (K : Bool → Prop) : Prop := match x with
  | .v (.slice none 0 0) => K true
  | .sl _ _ nl xs => nilB nl xs K
  | .row o => (match g o with
    | some B => nilB B.nl B.els K
    | none => False)
  | _ => False
/-- Operators of two operands, among them a slice held against nil. -/
def bnK (L : Lay) (g : Nat → Option Ob) (op : BinOp) (t : Nat) (x y : AV) (yn : Bool) (K : AV → Prop) : Prop := match yn with
  | true => (match op, lkT L t with
    | .eql, some ⟨.slice _, _, _, _, _⟩ => nilK g x fun b => K (.v (.bool b))
    | .neq, some ⟨.slice _, _, _, _, _⟩ => nilK g x fun b => K (.v (.bool (!b)))
    | _, _ => False)
  | false => binK L op t x y K

theorem elem_of {P : Program} {t e : Nat} (h : P.underlying t = some (.slice e)) : P.elem t = e := by simp [Program.elem, h]

theorem bndK_mono {ev : Operand → AV} {z : Option Operand} {d : Int} {Φ Ψ : Int → Prop} (hi : ∀ n, Φ n → Ψ n) (hb : bndK ev z d Φ) : bndK ev z d Ψ := by
  cases z with
  | none => exact hi _ hb
  | some y =>
    simp only [bndK] at hb ⊢
    cases hy : ev y with
    | v u => cases u with
      | int k n => rw [hy] at hb; exact hi _ hb
      | _ => rw [hy] at hb; exact hb.elim
    | _ => rw [hy] at hb; exact hb.elim

section
variable {P : Program} {L : Lay} (hL : LOk P L) {F : Frm} {s : AS} {a : Act} {E : Env} (h : Ok F s a E) {o : Oper} {next : Act → World → Prop} {Q : Exit → Act → World → Prop} {K : AS → Prop}
  (hn : ∀ a' w', Sat F K a' w' → next a' w')
include hL h hn

theorem run_subs {t e : Nat} {ei : TI} (ht : P.underlying t = some (.slice e)) (he : lkT L e = some ei) {x : Operand} {ao : Option Addr} {n cap : Nat} (hx : a.eval x = .slice ao n cap) {lo hi : Option Operand} {Φ : Int → Int → Prop} {m : Int} (hm : m = n)
    (hk : bndK s.env lo 0 fun l => bndK s.env hi m fun u => 0 ≤ l ∧ l ≤ u ∧ u ≤ cap ∧ u ≤ n ∧ Φ l u) (ho : o.op = .slice t x lo hi none) :
    ∃ l u, Φ l u ∧ (execOp a.eval o).run P E.w = .ok (.value (sliced ao l.toNat u.toNat cap ei.size)) E.w := by
  subst hm
  have hel := elem_of ht
  have ht' : P.underlying t = some (.slice (P.elem t)) := by rw [hel]; exact ht
  obtain ⟨inf, g1, g2, _⟩ := (hL e ei he).info
  have hsz : ∀ w, (sizeOf (P.elem t)).run P w = .ok ei.size w := fun w => by rw [hel]; simp [sizeOf, typeInfo, g1, g2]
  have ex : ∀ v, (Instr.slice t (.slice ao n cap) (lo.map a.eval) (hi.map a.eval) none).run P E.w = .ok v E.w → (execOp a.eval o).run P E.w = .ok (.value v) E.w := fun v hv => by
    unfold execOp
    simp only [ho, hx, Option.map_none, Sem.run_bind, run_sliceAt_slice _ _ _ _ _ _ ht', hv, Result.andThen_ok, Sem.run_pure]
  cases lo with
  | none =>
    cases hi with
    | none =>
      simp only [bndK] at hk
      obtain ⟨k1, k2, k3, k4, k5⟩ := hk
      refine ⟨_, _, k5, ex _ ?_⟩
      rw [Option.map_none, run_slice_all E.w t ao n cap ht', hsz]
      simp
    | some y =>
      simp only [bndK] at hk
      have hy := h.env y
      split at hk
      · rename_i kh u hy'
        rw [hy'] at hy
        obtain ⟨k1, k2, k3, k4, k5⟩ := hk
        refine ⟨_, _, k5, ex _ ?_⟩
        rw [Option.map_none, Option.map_some, hy.v_inv.1, run_slice_h E.w t ao n cap ht' kh u k2 k3, hsz]
        simp
      · exact hk.elim
  | some z =>
    have hz := h.env z
    simp only [bndK] at hk
    split at hk
    · rename_i kl l hz'
      rw [hz'] at hz
      cases hi with
      | none =>
        simp only [] at hk
        obtain ⟨k1, k2, k3, k4, k5⟩ := hk
        refine ⟨_, _, k5, ex _ ?_⟩
        rw [Option.map_none, Option.map_some, hz.v_inv.1, run_slice_l E.w t ao n cap ht' kl l k1 (by omega), hsz]
        simp
      | some y =>
        have hy := h.env y
        simp only [] at hk
        split at hk
        · rename_i kh u hy'
          rw [hy'] at hy
          obtain ⟨k1, k2, k3, k4, k5⟩ := hk
          refine ⟨_, _, k5, ex _ ?_⟩
          rw [Option.map_some, Option.map_some, hy.v_inv.1, hz.v_inv.1, run_slice_lh E.w t ao n cap ht' kl kh l u k1 k2 k3, hsz]
          simp
        · exact hk.elim
    · exact hk.elim


theorem sound_subs {t e : Nat} {ei : TI} (ht : P.underlying t = some (.slice e)) (he : lkT L e = some ei) {x : Operand} {lo hi mx : Option Operand} (ho : o.op = .slice t x lo hi mx) (hk : subsK (getO s.objs) ei.size s.env x lo hi mx fun r => K (s.put o.dst r)) : o.wp P a E.w next Q := by
  have hx := h.env x
  unfold subsK at hk
  split at hk
  · rename_i esz own nl xs hx'
    rw [hx'] at hx
    obtain ⟨hc, hk⟩ := ifK_inv hk
    simp only [Bool.and_eq_true] at hc
    have hsz := Nat.eq_of_beq_eq_true hc.1
    have hpos := Nat.le_of_ble_eq_true hc.2
    simp only [RT] at hx
    generalize hv : a.eval x = v at hx
    cases hx with
    | nil =>
      obtain ⟨l, u, hK, hr⟩ := run_subs hL h hn ht he hv (m := (0 : Int)) (Φ := fun l u => (0 ≤ l ∧ l ≤ u ∧ u ≤ 0) ∧ K (s.put o.dst (.sl esz false none (([] : List AV).drop l.toNat |>.take (u.toNat - l.toNat))))) rfl (by
        refine bndK_mono (fun l hb => bndK_mono (fun u hb => ?_) hb) hk
        obtain ⟨k1, k2, k3, k4⟩ := hb
        exact ⟨k1, k2, k3, k3, ⟨k1, k2, k3⟩, k4⟩) ho
      obtain ⟨⟨k1, k2, k3⟩, k4⟩ := hK
      refine sound_put h hn hr ?_ k4
      have e1 : l = 0 := by omega
      have e2 : u = 0 := by omega
      subst e1; subst e2
      simp only [RT, sliced]
      exact .nil (by simp)
    | @sl _ _ _ _ _ _ b f n cap cf hnl hlen hcap hroot hb hsz' hc' hr' hown =>
      have hcap : n ≤ cap := hcap.resolve_left (by omega)
      obtain ⟨l, u, hK, hr⟩ := run_subs hL h hn ht he hv (m := (xs.length : Int)) (Φ := fun l u => (0 ≤ l ∧ l ≤ u ∧ u ≤ xs.length) ∧ K (s.put o.dst (.sl esz false none ((xs.drop l.toNat).take (u.toNat - l.toNat))))) (by rw [hlen]) (by
        refine bndK_mono (fun l hb => bndK_mono (fun u hb => ?_) hb) hk
        obtain ⟨k1, k2, k3, k4⟩ := hb
        exact ⟨k1, k2, by omega, by omega, ⟨k1, k2, k3⟩, k4⟩) ho
      obtain ⟨⟨k1, k2, k3⟩, k4⟩ := hK
      refine sound_put h hn hr ?_ k4
      have hget : ∀ (i : Nat) (x : AV), ((xs.drop l.toNat).take (u.toNat - l.toNat))[i]? = some x → i < u.toNat - l.toNat ∧ xs[l.toNat + i]? = some x := fun i x hx => by
        have hi : i < u.toNat - l.toNat := by
          rcases Nat.lt_or_ge i (u.toNat - l.toNat) with h | h
          · exact h
          · simp [List.getElem?_take, Nat.not_lt.2 h] at hx
        rw [List.getElem?_take, if_pos hi, List.getElem?_drop] at hx
        exact ⟨hi, hx⟩
      simp only [RT, sliced]
      by_cases hlc : cap = l.toNat
      · rw [if_pos hlc]
        have hu : u.toNat - l.toNat = 0 := by omega
        rw [hu]
        simp only [List.take_zero]
        exact .sl cf (by simp) (by simp) (.inr (by omega)) hroot hb (fun i x hx => by simp at hx) (fun i x j y hx => by simp at hx) (fun i x j y hx => by simp at hx) (by simp)
      · rw [if_neg hlc]
        simp only [Option.map_some, Addr.add_mid]
        refine .sl (fun i j => cf (l.toNat + i) j) (by simp) (by simp; omega) (.inr (by omega)) hroot hb (fun i x hx => hsz' _ x (hget i x hx).2) (fun i x j y hx hy => ?_) (fun i x j y hx hy => ?_) (by simp)
        · have := hc' _ x j y (hget i x hx).2 hy
          rw [← this]
          congr 2
          rw [← hsz, Nat.add_mul]; omega
        · have := hr' _ x j y (hget i x hx).2 hy
          exact this.lend
  · rename_i ob hx'
    rw [hx'] at hx
    split at hk
    · rename_i B hB
      obtain ⟨hc, hk⟩ := ifK_inv hk
      simp only [Bool.and_eq_true] at hc
      have hsz := Nat.eq_of_beq_eq_true hc.1
      have hpos := Nat.le_of_ble_eq_true hc.2
      simp only [RT] at hx
      obtain ⟨h2, h3⟩ := hx.2 B (by rw [h.objsEq]; exact hB)
      rcases h3 with ⟨h3, h4⟩ | ⟨b, cap, h3, h4, h5⟩
      · have h0 : B.els.length = 0 := by
          rcases h.objs ob B hB with ⟨_, _, k3, _⟩ | ⟨_, _, _, _, k1, _⟩
          · simp [k3]
          · rw [k1] at h3; cases h3
        obtain ⟨l, u, hK, hr⟩ := run_subs hL h hn ht he h4 (m := (B.els.length : Int)) (Φ := fun l u => (0 ≤ l ∧ l ≤ u ∧ u ≤ B.els.length) ∧ K (s.put o.dst (.osl ob l.toNat (u.toNat - l.toNat)))) (by simp [h0]) (by
          refine bndK_mono (fun l hb => bndK_mono (fun u hb => ?_) hb) hk
          obtain ⟨k1, k2, k3, k4⟩ := hb
          exact ⟨k1, k2, by omega, by omega, ⟨k1, k2, k3⟩, k4⟩) ho
        obtain ⟨⟨k1, k2, k3⟩, k4⟩ := hK
        refine sound_put h hn hr ?_ k4
        have e1 : l = 0 := by omega
        have e2 : u = 0 := by omega
        subst e1; subst e2
        simp only [RT, Env.osl, sliced]
        refine ⟨rfl, fun B' hB' => ?_⟩
        rw [h.objsEq, hB] at hB'; cases hB'
        exact ⟨h2, by simp, .inl ⟨h3, by simp⟩⟩
      · obtain ⟨arr, e', m1, m2⟩ := h4
        have hle : B.els.length ≤ cap := by
          rcases h.objs ob B hB with ⟨k1, _⟩ | ⟨b', cap', arr', e', k1, k2, k3, k4, k5, k6, k7⟩
          · rw [k1] at h3; cases h3
          · rw [k1] at h3; cases h3
            rw [k4] at m1; cases m1
            rw [k5] at m2
            have := Nat.eq_of_mul_eq_mul_right (by omega) m2
            omega
        obtain ⟨l, u, hK, hr⟩ := run_subs hL h hn ht he h5 (m := (B.els.length : Int)) (Φ := fun l u => (0 ≤ l ∧ l ≤ u ∧ u ≤ B.els.length) ∧ K (s.put o.dst (.osl ob l.toNat (u.toNat - l.toNat)))) rfl (by
          refine bndK_mono (fun l hb => bndK_mono (fun u hb => ?_) hb) hk
          obtain ⟨k1, k2, k3, k4⟩ := hb
          exact ⟨k1, k2, by omega, by omega, ⟨k1, k2, k3⟩, k4⟩) ho
        obtain ⟨⟨k1, k2, k3⟩, k4⟩ := hK
        refine sound_put h hn hr ?_ k4
        simp only [RT, Env.osl, sliced]
        refine ⟨rfl, fun B' hB' => ?_⟩
        rw [h.objsEq, hB] at hB'; cases hB'
        refine ⟨h2, by omega, .inr ?_⟩
        by_cases hlc : cap = l.toNat
        · rw [if_pos hlc]
          by_cases hl0 : l.toNat = 0
          · exact ⟨b, cap, 0, cap - l.toNat, h3, ⟨arr, e', m1, m2⟩, rfl, .inl ⟨by simp [hl0], rfl⟩⟩
          · exact ⟨b, cap, 0, cap - l.toNat, h3, ⟨arr, e', m1, m2⟩, rfl, .inr ⟨by omega, by omega, by omega⟩⟩
        · rw [if_neg hlc]
          simp only [Option.map_some, Addr.add_mid, Nat.zero_add]
          exact ⟨b, cap, l.toNat * ei.size, cap - l.toNat, h3, ⟨arr, e', m1, m2⟩, rfl, .inl ⟨by rw [hsz], rfl⟩⟩
    · exact hk.elim
  · rename_i hx'
    rw [hx'] at hx
    obtain ⟨l, u, hK, hr⟩ := run_subs hL h hn ht he hx.v_inv.1 (m := (0 : Int)) (Φ := fun l u => (0 ≤ l ∧ l ≤ u ∧ u ≤ 0) ∧ K (s.put o.dst (.v (.slice none 0 0)))) rfl (by
      refine bndK_mono (fun l hb => bndK_mono (fun u hb => ?_) hb) hk
      obtain ⟨k1, k2, k3, k4⟩ := hb
      exact ⟨k1, k2, k3, k3, ⟨k1, k2, k3⟩, k4⟩) ho
    obtain ⟨⟨k1, k2, k3⟩, k4⟩ := hK
    refine sound_put h hn hr ?_ k4
    have e1 : l = 0 := by omega
    have e2 : u = 0 := by omega
    subst e1; subst e2
    simp only [RT, sliced]
    exact .v rfl
  · exact hk.elim

theorem sound_sl {t : Nat} {x : Operand} {lo hi mx : Option Operand} (ho : o.op = .slice t x lo hi mx) (hk : slK L (getO s.objs) t s.env x lo hi mx fun r => K (s.put o.dst r)) : o.wp P a E.w next Q := by
  unfold slK at hk
  split at hk
  · rename_i e _ _ _ _ ht
    split at hk
    · rename_i ei he
      exact sound_subs hL h hn ((hL t _ ht).desc) he ho hk
    · exact hk.elim
  · exact sound_sub hL h hn ho hk

theorem sound_ix {t : Nat} {x i : Operand} (ho : o.op = .indexAddr t x i) (hk : ixK L (getO s.objs) t (s.env x) (s.env i) fun y => K (s.put o.dst y)) : o.wp P a E.w next Q := by
  unfold ixK at hk
  split at hk
  · rename_i n e _ _ _ _ ht
    have hu : P.underlying t = some (.array n e) := (hL t _ ht).desc
    have hx := h.env x
    have hi := h.env i
    have key : ∀ (ei : TI) (b f : Nat) (k : IntKind) (m : Nat), lkT L e = some ei → a.eval x = .pointer (some ⟨b, f, none⟩) → a.eval i = .int k (.ofNat m) → m < n →
        (execOp a.eval o).run P E.w = .ok (.value (.pointer (some ⟨b, f + m * ei.size, none⟩))) E.w := by
      intro ei b f k m he hx hi hlt
      obtain ⟨inf, g1, g2, _⟩ := (hL e ei he).info
      have hlt' : (Int.ofNat m) < (n : Int) := by simp; omega
      unfold execOp
      simp [ho, hx, hi, Instr.indexAt, asIntOf, run_underlying hu, hlt, sizeOf, typeInfo, g1, g2, Addr.add_mid, Instr.sureAddr]
    unfold arrK at hk
    split at hk
    · rename_i ob j c k m ei hx' hi' he
      rw [hx'] at hx; rw [hi'] at hi
      have hiv := hi.int_inv
      simp only [RT] at hx
      split at hk
      · rename_i B hB
        obtain ⟨hlt, hk⟩ := hk
        obtain ⟨b, g1, g2⟩ := hx.2 B (by rw [h.objsEq]; exact hB)
        refine sound_put h hn (key ei b _ k m he g2 hiv hlt) ?_ hk
        simp only [RT, Env.ptr]
        refine ⟨rfl, fun B' hB' => ?_⟩
        rw [h.objsEq, hB] at hB'; cases hB'
        exact ⟨b, g1, by rw [Nat.add_assoc]⟩
      · exact hk.elim
    · rename_i cs c k m ei hx' hi' he
      rw [hx'] at hx; rw [hi'] at hi
      obtain ⟨hlt, hk⟩ := hk
      have hiv := hi.int_inv
      simp only [RT] at hx
      obtain ⟨b, f, g1, g2, g3, g4⟩ := hx
      refine sound_put h hn (key ei b _ k m he g1 hiv hlt) ?_ hk
      simp only [RT, Env.ip]
      exact ⟨b, f, by rw [Nat.add_assoc], g2, g3, g4⟩
    · exact hk.elim
  · exact sound_index hL h hn ho hk

theorem sound_cv {src dst : Nat} {x : Operand} (ho : o.op = .convert src dst x) (hk : cvK L (getO s.objs) src dst (s.env x) fun r => K (s.put o.dst r)) : o.wp P a E.w next Q := by
  unfold cvK at hk
  split at hk
  · rename_i e _ _ _ _ hs
    split at hk
    · rename_i he hd
      have hus : P.underlying src = some (.slice e) := (hL src _ hs).desc
      have hue : P.underlying e = some (.int .u8) := (hL e _ he).desc
      have hud : P.underlying dst = some .string := (hL dst _ hd).desc
      have ex : ∀ v, (convert src dst (a.eval x)).run P E.w = .ok v E.w → (execOp a.eval o).run P E.w = .ok (.value v) E.w := fun v hv => by
        unfold execOp
        simp only [ho, Sem.run_bind, hv, Result.andThen_ok, Sem.run_pure]
      have hx := h.env x
      split at hk
      · rename_i hx'
        rw [hx'] at hx
        refine sound_put h hn (ex _ ?_) (RT.str _) hk
        rw [hx.v_inv.1]
        exact run_convert_bytes_nil (P := P) E.w src e hus hue 0 0 dst hud
      · obtain ⟨esz, xs, h1, h2⟩ := src_at h hx hk
        split at h2
        · rename_i ns hns
          obtain ⟨hc, hk⟩ := ifK_inv h2
          have hc := Nat.eq_of_beq_eq_true hc
          subst hc
          have hxs := u8L_inv hns
          subst hxs
          rcases h1 with ⟨h0, h1⟩ | ⟨b, f, cap, cf, h1, h3⟩
          · have : ns = [] := by simpa using h0
            subst this
            refine sound_put h hn (ex (.string (strOfNums [])) ?_) (RT.str _) hk
            rw [h1, run_convert_bytes_nil (P := P) E.w src e hus hue 0 0 dst hud]
            rfl
          · refine sound_put h hn (ex (.string (strOfNums ns)) ?_) (RT.str _) hk
            rw [h1]
            refine run_convert_bytes_arg (P := P) E.w src e hus hue b f _ cap ns (by simp) (fun i hi => ?_) dst hud
            have hi : i < ns.length := by simpa using hi
            obtain ⟨_, g⟩ := h3 i (.v (.int .u8 ns[i])) (by simp [hi])
            obtain ⟨g1, g2, _⟩ := g 0 (.v (.int .u8 ns[i])) rfl
            have g3 : cf i 0 = .int .u8 ns[i] := by
              generalize cf i 0 = u at g2
              cases g2; rfl
            rw [g3] at g1
            simpa [List.getD, hi] using g1
        · exact h2.elim
    · exact hk.elim
  · exact sound_conv hL h hn ho hk

theorem sound_bn {op : BinOp} {t t' : Nat} {x y : Operand} (ho : o.op = .binOp op t x y t') (hk : bnK L (getO s.objs) op t (s.env x) (s.env y) (isNilC y) fun r => K (s.put o.dst r)) : o.wp P a E.w next Q := by
  cases hy : isNilC y with
  | false => rw [hy] at hk; exact sound_bin hL h hn ho hk
  | true =>
    rw [hy] at hk
    have hyv : y = .const (.slice none 0 0) := by
      unfold isNilC at hy
      split at hy
      · rfl
      · cases hy
    subst hyv
    have hx := h.env x
    have nilv : ∀ {Φ : Bool → Prop}, nilK (getO s.objs) (s.env x) Φ → ∃ b ao n c, a.eval x = .slice ao n c ∧ b = ao.isNone ∧ Φ b := by
      intro Φ hk
      have ofB : ∀ {nl : Option Bool} {xs : List AV} {v : Value}, nilB nl xs Φ → ((v = .slice none 0 0 ∧ xs = [] ∧ nl ≠ some false) ∨ ∃ b n c, v = .slice (some b) n c ∧ nl ≠ some true) → ∃ b ao n c, v = .slice ao n c ∧ b = ao.isNone ∧ Φ b := by
        intro nl xs v hb hv
        unfold nilB at hb
        rcases hv with ⟨rfl, rfl, hnl⟩ | ⟨b, n, c, rfl, hnl⟩
        · split at hb
          · rename_i b
            cases b with
            | true => exact ⟨true, none, 0, 0, rfl, rfl, hb⟩
            | false => exact absurd rfl hnl
          · exact absurd rfl hb.1
        · split at hb
          · rename_i b'
            cases b' with
            | true => exact absurd rfl hnl
            | false => exact ⟨false, some b, n, c, rfl, rfl, hb⟩
          · exact ⟨false, some b, n, c, rfl, rfl, hb.2⟩
      unfold nilK at hk
      split at hk
      · rename_i hx'
        rw [hx'] at hx
        exact ⟨true, none, 0, 0, hx.v_inv.1, rfl, hk⟩
      · rename_i esz own nl xs hx'
        rw [hx'] at hx
        simp only [RT] at hx
        generalize a.eval x = v at hx
        cases hx with
        | nil hnl => exact ofB hk (.inl ⟨rfl, rfl, hnl⟩)
        | sl cf hnl => exact ofB hk (.inr ⟨_, _, _, rfl, hnl⟩)
      · rename_i ob hx'
        rw [hx'] at hx
        split at hk
        · rename_i B hB
          simp only [RT] at hx
          obtain ⟨h2, h3⟩ := hx.2 B (by rw [h.objsEq]; exact hB)
          rcases h3 with ⟨h3, h4⟩ | ⟨b, cap, h3, h4, h5⟩
          · rcases h.objs ob B hB with ⟨_, _, k3, k4⟩ | ⟨_, _, _, _, k1, _⟩
            · exact ofB hk (.inl ⟨h4, k3, k4⟩)
            · rw [k1] at h3; cases h3
          · rcases h.objs ob B hB with ⟨k1, _⟩ | ⟨_, _, _, _, k1, _, k3, _⟩
            · rw [k1] at h3; cases h3
            · exact ofB hk (.inr ⟨_, _, _, h5, k3⟩)
        · exact hk.elim
      · exact hk.elim
    have ex : ∀ v, (do eqGuard op t x (.const (.slice none 0 0)) (a.eval x) (a.eval (.const (.slice none 0 0))); binOp op t (a.eval x) (a.eval (.const (.slice none 0 0))) : Sem Value).run P E.w = .ok v E.w → (execOp a.eval o).run P E.w = .ok (.value v) E.w := fun v hv => by
      unfold execOp
      simp only [ho, Sem.run_bind] at hv ⊢
      simp only [hv, Result.andThen_ok, Sem.run_pure]
    unfold bnK at hk
    simp only [] at hk
    split at hk
    · rename_i e _ _ _ _ ht
      have hu : P.underlying t = some (.slice e) := (hL t _ ht).desc
      obtain ⟨b, ao, n, c, h1, h2, h3⟩ := nilv hk
      subst h2
      refine sound_put h hn (ex (.bool ao.isNone) ?_) (RT.bool _) h3
      rw [h1]
      have := Lib.run_equalIn_slice_nil (P := P) E.w 9999 t e ao n c 0 0 hu
      simp [eqGuard, binOp, Op.equal, Op.maxDepth, Act.eval, this]
    · rename_i e _ _ _ _ ht
      have hu : P.underlying t = some (.slice e) := (hL t _ ht).desc
      obtain ⟨b, ao, n, c, h1, h2, h3⟩ := nilv hk
      subst h2
      refine sound_put h hn (ex (.bool !ao.isNone) ?_) (RT.bool _) h3
      rw [h1]
      have := Lib.run_equalIn_slice_nil (P := P) E.w 9999 t e ao n c 0 0 hu
      simp [eqGuard, binOp, Op.equal, Op.maxDepth, Act.eval, this]
    · exact hk.elim
end
end Go.Eng
/- A map with strings for keys, read. -/
namespace Go.Eng
open Go.RowKit
set_option linter.unusedSimpArgs false
set_option linter.unusedVariables false
set_option linter.unusedSectionVars false
set_option maxRecDepth 100000

/-- What a map answers: the value of a key, z where there is none. -/
def lkE (z : Value) : List (ByteArray × Value) → ByteArray → Value
  | [], _ => z
  | (k, v) :: l, b => if b = k then v else lkE z l b
/-- The value of a key. -/
def mpK (P : Program) (L : Lay) (t : Nat) (x k : AV) (K : AV → Prop) : Prop := match x, k, lkT L t with
  | .mp es, .v (.string b), some ⟨.map kt et, _, _, _, _⟩ => (match lkT L kt, lkT L et with
    | some ⟨.str, _, _, _, _⟩, some ei => (match ei.zero with
      | [z] => (P.info? et).bind (·.zero) = some z ∧ K (.v (lkE z es b))
      | _ => False)
    | _, _ => False)
  | _, _, _ => False

theorem str_same (b k : ByteArray) : ∃ r, Instr.sameNow .string (.string b) (.string k) = some r ∧ (r = true ↔ b = k) := by
  obtain ⟨r, h1, h2⟩ := MapKept.sameNow_of_keys (d := .string) (a := .string b) (b := .string k) (by simp [MapKept.IsKey]) (by simp [MapKept.IsKey])
  exact ⟨r, h1, by simpa using h2⟩
theorem findNow_str (b : ByteArray) : ∀ (l : List MapEntry) (es : List (ByteArray × Value)) (i : Nat), l.map (fun e => (e.key, e.val)) = es.map (fun e => (Value.string e.1, e.2)) →
    ∃ r, Instr.findNow .string (.string b) l i = some r ∧ ∀ z, (match r with | some (_, v) => v | none => z) = lkE z es b
  | [], es, i, h => by
    have : es = [] := by simpa using h.symm
    subst this
    exact ⟨none, rfl, fun z => rfl⟩
  | e :: l, [], i, h => by simp at h
  | e :: l, (k, v) :: es, i, h => by
    simp only [List.map_cons, List.cons.injEq, Prod.mk.injEq] at h
    obtain ⟨⟨h1, h2⟩, h3⟩ := h
    unfold Instr.findNow
    simp only [h1, lkE]
    obtain ⟨r, hr, hiff⟩ := str_same b k
    rw [hr]
    cases r with
    | true =>
      have hb := hiff.1 rfl
      exact ⟨some (i, e.val), rfl, fun z => by simp [h2, hb]⟩
    | false =>
      have hb : b ≠ k := fun h => by have := hiff.2 h; cases this
      obtain ⟨r, h4, h5⟩ := findNow_str b l es (i + 1) h3
      exact ⟨r, h4, fun z => by rw [h5 z, if_neg hb]⟩
theorem lkE_plain {z : Value} (hz : plain z = true) {es : List (ByteArray × Value)} (h : ∀ e ∈ es, plain e.2 = true) (b : ByteArray) : plain (lkE z es b) = true := by
  induction es with
  | nil => exact hz
  | cons e es ih =>
    obtain ⟨k, v⟩ := e
    simp only [lkE]
    split
    · exact h (k, v) (by simp)
    · exact ih (fun e he => h e (by simp [he]))

section
variable {P : Program} {L : Lay} (hL : LOk P L) {F : Frm} {s : AS} {a : Act} {E : Env} (h : Ok F s a E) {o : Oper} {next : Act → World → Prop} {Q : Exit → Act → World → Prop} {K : AS → Prop}
  (hn : ∀ a' w', Sat F K a' w' → next a' w')
include hL h hn
theorem sound_mp {t : Nat} {x k : Operand} (ho : o.op = .lookup t x k false) (hk : mpK P L t (s.env x) (s.env k) fun y => K (s.put o.dst y)) : o.wp P a E.w next Q := by
  unfold mpK at hk
  split at hk
  · rename_i es b kt et _ _ _ _ hx hkey ht
    split at hk
    · rename_i ei hkt het
      split at hk
      · rename_i z hz
        obtain ⟨hzero, hk⟩ := hk
        have hut : P.underlying t = some (.map kt et) := (hL t _ ht).desc
        have huk : P.underlying kt = some .string := (hL kt _ hkt).desc
        have hxr := h.env x
        have hkr := h.env k
        rw [hx] at hxr
        rw [hkey] at hkr
        have hkv := hkr.str_inv
        simp only [RT] at hxr
        obtain ⟨bl, ents, n, h1, h2, h3, h4, h5⟩ := hxr
        obtain ⟨r, g1, g2⟩ := findNow_str b ents.toList es 0 h3
        have hpz : plain z = true := (hL et ei het).plain z (by rw [hz]; simp)
        refine sound_put h hn (v := lkE z es b) ?_ (by simp only [RT]; exact .v (lkE_plain hpz h5 b)) hk
        obtain ⟨inf, hi, hi2⟩ := Option.bind_eq_some_iff.1 hzero
        unfold execOp
        have hz0 := g2 z
        cases r with
        | some p =>
          obtain ⟨j, v⟩ := p
          simp only at hz0
          simp [ho, h1, hkv, Instr.lookup, run_underlying hut, MapKept.run_getObj_map h2, MapKept.run_checkKey huk (k := .string b) (by simp [MapKept.IsKey]), MapKept.run_findKey huk g1, Result.andThen, hz0]
        | none =>
          simp only at hz0
          rw [← hz0]
          have hzv : (zeroValue et).run P E.w = .ok z E.w := by simp [zeroValue, typeInfo, hi, hi2, Result.andThen]
          simp [ho, h1, hkv, Instr.lookup, run_underlying hut, MapKept.run_getObj_map h2, MapKept.run_checkKey huk (k := .string b) (by simp [MapKept.IsKey]), MapKept.run_findKey huk g1, Result.andThen, hzv]
      · exact hk.elim
    · exact hk.elim
  · exact hk.elim
end
end Go.Eng
