import Derived.Test.YtljjnbgbndmidaaDoorEngC
import Derived.Orders
import Derived.Sort.Grow
import Derived.Deep.Draws
/- Regions that draw: any order gives what one order gives. -/
namespace Go.Eng
open Go.RowKit
set_option linter.unusedSimpArgs false
set_option linter.unusedVariables false
set_option linter.unusedSectionVars false

theorem noRefL_lk {k : Nat} {l : List AV} : noRefL k l = true ↔ ∀ t, noRef k (lk l t) = true := by
  induction l with
  | nil => simp [noRefL, lk, noRef]
  | cons x l ih =>
    simp only [noRefL, Bool.and_eq_true, ih]
    constructor
    · rintro ⟨h1, h2⟩ t
      cases t with
      | zero => exact h1
      | succ t => exact h2 t
    · exact fun h => ⟨h 0, fun t => h (t + 1)⟩
theorem noRefO_setO {k d : Nat} {B : Ob} (hB : ∀ x ∈ B.els, noRefL k (cellsOf x) = true) : ∀ {l : List (Nat × Ob)}, noRefO k l = true → noRefO k (setO l d B) = true
  | [], h => by simp only [setO, noRefO, Bool.and_true, Bool.or_eq_true]; exact .inr (List.all_eq_true.2 hB)
  | (e, x) :: l, h => by
    simp only [noRefO, Bool.and_eq_true] at h
    have hB' : (!B.box || B.els.all fun x => noRefL k (cellsOf x)) = true := by simp only [Bool.or_eq_true]; exact .inr (List.all_eq_true.2 hB)
    simp only [setO]
    split
    · simp only [noRefO, Bool.and_eq_true]; exact ⟨hB', h.2⟩
    · split
      · simp only [noRefO, Bool.and_eq_true]; exact ⟨hB', h⟩
      · simp only [noRefO, Bool.and_eq_true]; exact ⟨h.1, noRefO_setO hB h.2⟩
theorem noRefO_of_setO {k d : Nat} {B : Ob} : ∀ {l : List (Nat × Ob)}, getO l d = none → noRefO k (setO l d B) = true → noRefO k l = true
  | [], _, _ => rfl
  | (e, x) :: l, hd, h => by
    simp only [getO] at hd
    split at hd
    · cases hd
    · rename_i he
      simp only [setO, he] at h
      split at h
      · simp only [noRefO, Bool.and_eq_true] at h ⊢; exact h.2
      · simp only [noRefO, Bool.and_eq_true] at h ⊢; exact ⟨h.1, noRefO_of_setO hd h.2⟩

section
variable {P : Program} {L : Lay}

theorem zeroOf_noRef' (ti : TI) (k : Nat) : noRefL k (cellsOf (zeroOf ti)) = true := by
  have key : ∀ l : List Value, noRefL k (l.map .v) = true := fun l => by
    induction l with
    | nil => rfl
    | cons v l ih => simp only [List.map_cons, noRefL, noRef, ih, Bool.and_self]
  unfold zeroOf
  cases ti.d.agg with
  | true => simp only [cond_true, cellsOf]; exact key _
  | false =>
    simp only [cond_false]
    cases ti.zero with
    | nil => rfl
    | cons v l => rfl

theorem Good.isNew {all : List Oper} {o : Oper} {s : AS} {d : Nat} {B : Ob} (h : Good P L all o s (.new d B)) : isNew o.op = true ∧ o.dst = some d ∧ getO s.objs d = none ∧ noRefL d s.tmps = true ∧ noRefO d s.objs = true ∧ ∀ k, ∀ x ∈ B.els, noRefL k (cellsOf x) = true := by
  have op : GoodOp P L o s (.new d B) → Go.Eng.isNew o.op = true ∧ o.dst = some d ∧ getO s.objs d = none ∧ noRefL d s.tmps = true ∧ noRefO d s.objs = true ∧ ∀ k, ∀ x ∈ B.els, noRefL k (cellsOf x) = true := fun h => by
    have row : GoodRow L o s (.new d B) → o.dst = some d ∧ getO s.objs d = none ∧ noRefL d s.tmps = true ∧ noRefO d s.objs = true ∧ ∀ k, ∀ x ∈ B.els, noRefL k (cellsOf x) = true := fun h => by
      obtain ⟨esz, els, d', h3, h1, g1, g2, g3, g4, h8⟩ := h
      cases h8
      exact ⟨g1, g2, g3, g4, h1⟩
    unfold GoodOp at h
    split at h
    · rename_i hop; exact ⟨by rw [hop]; rfl, row h⟩
    · rename_i hop; exact ⟨by rw [hop]; rfl, row h⟩
    · rename_i t hop
      obtain ⟨ti, d', h1, h2, h3, h4, h5, h6, h7, h8⟩ := h
      cases h8
      refine ⟨by rw [hop]; rfl, h3, h4, h5, h6, fun k x hx => ?_⟩
      simp only [List.mem_singleton] at hx
      rw [hx]; exact zeroOf_noRef' ti k
    · obtain ⟨y, h1, _⟩ := h
      cases h1
  unfold Good at h
  split at h
  · exact op h
  · split at h
    · split at h
      · rename_i b _
        revert h
        cases b with
        | true => exact fun h => op h
        | false => intro h; cases h
      · exact h.elim
    · exact h.elim
theorem Good.val_new {all : List Oper} {o : Oper} {s : AS} {y : AV} (h : Good P L all o s (.val y)) (hn : Go.Eng.isNew o.op = true) : y = .tup [] := by
  have op : GoodOp P L o s (.val y) → y = .tup [] := fun h => by
    have row : GoodRow L o s (.val y) → y = .tup [] := fun h => by
      obtain ⟨esz, els, d', h3, h1, g1, g2, g3, g4, h8⟩ := h
      cases h8
    unfold GoodOp at h
    split at h
    · exact row h
    · exact row h
    · obtain ⟨ti, d', h1, h2, h3, h4, h5, h6, h7, h8⟩ := h
      cases h8
    · rename_i hm hbs hna
      exfalso
      cases hq : o.op with
      | makeSlice a b c => exact hm _ _ _ hq
      | buildSlice a b c => exact hbs _ _ _ hq
      | alloc t => exact hna t hq
      | _ => rw [hq] at hn; simp [Go.Eng.isNew, isRow] at hn
  unfold Good at h
  split at h
  · exact op h
  · split at h
    · split at h
      · rename_i b _
        revert h
        cases b with
        | true => exact fun h => op h
        | false => intro h; cases h; rfl
      · exact h.elim
    · exact h.elim

theorem st_comm (l : List AV) {i j : Nat} (h : i ≠ j) (x y : AV) : st (st l i x) j y = st (st l j y) i x := by
  induction l generalizing i j with
  | nil => rfl
  | cons a l ih =>
    cases i <;> cases j <;> simp only [st]
    · exact absurd rfl h
    · rw [ih (by omega)]

theorem AS.out_comm {s : AS} {dx dy : Option Nat} {ox oy : Out} (hne : ∀ d, dx = some d → dy ≠ some d) (hx : ∀ d B, ox = .new d B → dx = some d) (hy : ∀ d B, oy = .new d B → dy = some d) :
    (s.out dx ox).out dy oy = (s.out dy oy).out dx ox := by
  cases ox with
  | val x =>
    cases oy with
    | val y =>
      cases dx with
      | none => cases dy <;> rfl
      | some d =>
        cases dy with
        | none => rfl
        | some e => simp only [AS.out, AS.put]; rw [st_comm _ (fun h => hne d rfl (by rw [h]))]
    | new e B =>
      cases hy e B rfl
      cases dx with
      | none => rfl
      | some d => simp only [AS.out, AS.put]; rw [st_comm _ (fun h => hne d rfl (by rw [h]))]
  | new d B =>
    cases hx d B rfl
    cases oy with
    | val y =>
      cases dy with
      | none => rfl
      | some e => simp only [AS.out, AS.put]; rw [st_comm _ (fun h => hne d rfl (by rw [h]))]
    | new e B' =>
      cases hy e B' rfl
      have : d ≠ e := fun h => hne d rfl (by rw [h])
      simp only [AS.out]; rw [st_comm _ this, setO_comm _ this]

theorem AS.out_lk {s : AS} {dx : Option Nat} {ox : Out} (hx : ∀ d B, ox = .new d B → dx = some d) {t : Nat} (ht : dx ≠ some t) : lk (s.out dx ox).tmps t = lk s.tmps t := by
  cases ox with
  | val x =>
    cases dx with
    | none => rfl
    | some d => simp only [AS.out, AS.put, lk_st]; rw [if_neg]; rintro ⟨rfl, _⟩; exact ht rfl
  | new d B =>
    cases hx d B rfl
    simp only [AS.out, lk_st]; rw [if_neg]; rintro ⟨rfl, _⟩; exact ht rfl

def pairOk (ops : Array Oper) (x y : Oper) : Bool := cls x.op && (cls y.op && (x.apart ops y && (!(Go.Eng.isNew x.op) || Go.Eng.isNew y.op)))

theorem swap {ops : Array Oper} {x y : Oper} {s : AS} {K : AS → Prop} (hp : pairOk ops x y = true) (hs : Go.Eng.isNew y.op = true → ∀ d t, y.dst = some d → x.dst = some t → noRef d (lk s.tmps t) = true)
    (h : stepS P L ops.toList x s fun s' => stepS P L ops.toList y s' K) : stepS P L ops.toList y s fun s' => stepS P L ops.toList x s' K := by
  simp only [pairOk, Bool.and_eq_true, Bool.or_eq_true, Bool.not_eq_true'] at hp
  obtain ⟨hcx, hcy, hap, hk⟩ := hp
  obtain ⟨a1, a2, a3⟩ := Oper.apart_spec hap
  obtain ⟨ox, gx, h1⟩ := good_step hcx h
  obtain ⟨oy, gy, h2⟩ := good_step hcy h1
  have hxn : ∀ d B, ox = .new d B → x.dst = some d := fun d B e => by subst e; exact gx.isNew.2.1
  have hyn : ∀ d B, oy = .new d B → y.dst = some d := fun d B e => by subst e; exact gy.isNew.2.1
  have hlx : ∀ t, x.dst ≠ some t → lk (s.out x.dst ox).tmps t = lk s.tmps t := fun t ht => AS.out_lk hxn ht
  have hly : ∀ t, y.dst ≠ some t → lk (s.out y.dst oy).tmps t = lk s.tmps t := fun t ht => AS.out_lk hyn ht
  -- the second's new object is new at the start
  have hnew : ∀ d B, oy = .new d B → getO s.objs d = none ∧ noRefL d s.tmps = true ∧ noRefO d s.objs = true := fun d B e => by
    subst e
    obtain ⟨b1, b2, b3, b4, b5, _⟩ := gy.isNew
    refine ⟨?_, ?_, ?_⟩
    · cases ox with
      | val x' => cases hx : x.dst <;> simp only [AS.out, AS.put, hx] at b3 <;> exact b3
      | new e B' =>
        simp only [AS.out, getO_setO] at b3
        split at b3
        · cases b3
        · exact b3
    · rw [noRefL_lk] at b4 ⊢
      intro t
      by_cases ht : x.dst = some t
      · exact hs b1 d t b2 ht
      · rw [← hlx t ht]; exact b4 t
    · cases ox with
      | val x' => cases hx : x.dst <;> simp only [AS.out, AS.put, hx] at b5 <;> exact b5
      | new e B' => exact noRefO_of_setO gx.isNew.2.2.1 b5
  have gy' : Good P L ops.toList y s oy := by
    refine gy.of (fun t ht => (hlx t (fun hd => a1 t hd ht)).symm) (fun k => ?_) hnew
    cases ox with
    | val x' => right; cases hx : x.dst <;> simp only [AS.out, AS.put, hx]
    | new e B' =>
      obtain ⟨b1, b2, b3, b4, b5, _⟩ := gx.isNew
      by_cases hke : k = e
      · subst hke
        left
        intro t ht
        rw [hlx t (fun hd => a1 t hd ht)]
        exact noRefL_lk.1 b4 t
      · right; simp only [AS.out, getO_setO, if_neg hke]
  have gx' : Good P L ops.toList x (s.out y.dst oy) ox := by
    refine gx.of (fun t ht => hly t (fun hd => a3 t hd ht)) (fun k => ?_) (fun d B e => ?_)
    · cases oy with
      | val y' => right; cases hy : y.dst <;> simp only [AS.out, AS.put, hy]
      | new e B' =>
        obtain ⟨b3, b4, b5⟩ := hnew e B' rfl
        by_cases hke : k = e
        · subst hke
          left
          intro t ht
          exact noRefL_lk.1 b4 t
        · right; simp only [AS.out, getO_setO, if_neg hke]
    · subst e
      obtain ⟨b1, b2, b3, b4, b5, _⟩ := gx.isNew
      have hny : Go.Eng.isNew y.op = true := hk.resolve_left (by rw [b1]; simp)
      cases oy with
      | val y' =>
        have := gy.val_new hny
        subst this
        refine ⟨?_, ?_, ?_⟩
        · cases hy : y.dst <;> simp only [AS.out, AS.put] <;> exact b3
        · rw [noRefL_lk] at b4 ⊢
          intro t
          cases hy : y.dst with
          | none => exact b4 t
          | some e =>
            simp only [AS.out, AS.put, lk_st]
            split
            · rfl
            · exact b4 t
        · cases hy : y.dst <;> simp only [AS.out, AS.put] <;> exact b5
      | new e B' =>
        obtain ⟨c1, c2, c3, c4, c5, c6⟩ := gy.isNew
        have hde : d ≠ e := fun h => a2 d b2 (by rw [h]; exact c2)
        refine ⟨?_, ?_, ?_⟩
        · simp only [AS.out, getO_setO, if_neg hde]; exact b3
        · rw [noRefL_lk] at b4 ⊢
          intro t
          simp only [AS.out, lk_st]
          split
          · unfold newV; cases B'.box <;> simp [noRef, Ne.symm hde]
          · exact b4 t
        · exact noRefO_setO (c6 d) b5
  exact step_good hcy gy' (step_good hcx gx' (by rw [← AS.out_comm a2 hxn hyn]; exact h2))

end
end Go.Eng
/- Regions that draw: any order gives what one order gives. -/
namespace Go.Eng
open Go.RowKit
set_option linter.unusedSimpArgs false
set_option linter.unusedVariables false
set_option linter.unusedSectionVars false

def nthO : List Oper → Nat → Option Oper
  | [], _ => none
  | o :: _, 0 => some o
  | _ :: l, n + 1 => nthO l n
theorem nthO_eq (l : List Oper) (i : Nat) : nthO l i = l[i]? := by
  induction l generalizing i with
  | nil => simp [nthO]
  | cons o l ih => cases i <;> simp [nthO, ih]
def nthN : List Nat → Nat → Nat
  | [], _ => 0
  | o :: _, 0 => o
  | _ :: l, n + 1 => nthN l n
def setN : List Nat → Nat → Nat → List Nat
  | [], _, _ => []
  | _ :: l, 0, x => x :: l
  | y :: l, n + 1, x => y :: setN l n x
def pickL (all : List Oper) : List Nat → List Oper
  | [] => []
  | i :: l => match nthO all i with
    | some o => o :: pickL all l
    | none => pickL all l
def predL : List Edge → List Nat
  | [] => []
  | e :: l => match Region.binds .any e with
    | true => e.on :: predL l
    | false => predL l
def preds (o : Oper) : List Nat := predL o.after.toList
def rowM (ms : List Nat) : List Nat → Nat
  | [] => 0
  | k :: l => (2 ^ k) ||| ((nthN ms k) ||| rowM ms l)
def validM (ms : List Nat) : List Oper → Nat → Bool
  | [], _ => true
  | o :: l, i => Nat.beq (nthN ms i) (rowM ms (preds o)) && validM ms l (i + 1)
def mkM (all : List Oper) : List Nat → List Nat → List Nat
  | [], ms => ms
  | j :: l, ms => match nthO all j with
    | some o => mkM all l (setN ms j (rowM ms (preds o)))
    | none => ms
def dstNe (x y : Oper) : Bool := match x.dst, y.dst with
  | some d, some e => !Nat.beq d e
  | _, _ => true
def pairB (ops : Array Oper) (ms : List Nat) (i j : Nat) : Bool := !Nat.beq i j && (match nthO ops.toList i, nthO ops.toList j with
  | some x, some y => dstNe x y && (Nat.testBit (nthN ms j) i || pairOk ops x y)
  | _, _ => false)
def pairsB (ops : Array Oper) (ms : List Nat) : List Nat → Bool
  | [] => true
  | i :: l => (l.all fun j => pairB ops ms i j) && pairsB ops ms l
def topoB (all : List Oper) : List Nat → Bool
  | [] => true
  | j :: l => (match nthO all j with
    | some o => (preds o).all fun k => !Nat.beq k j && l.all fun i => !Nat.beq k i
    | none => false) && topoB all l
def drawOk (ops : Array Oper) (perm : List Nat) : Bool :=
  Nat.ble perm.length ops.size && ((List.range ops.size).all (fun i => perm.any fun j => Nat.beq i j) &&
    (ops.toList.all (fun o => (preds o).all fun k => Nat.ble (k + 1) ops.size) && (validM (mkM ops.toList perm (List.replicate ops.size 0)) ops.toList 0 && (pairsB ops (mkM ops.toList perm (List.replicate ops.size 0)) perm && topoB ops.toList perm))))

theorem preds_mem {o : Oper} {k : Nat} : k ∈ preds o ↔ ∃ e ∈ o.after, Region.binds .any e = true ∧ e.on = k := by
  have key : ∀ l : List Edge, k ∈ predL l ↔ ∃ e ∈ l, Region.binds .any e = true ∧ e.on = k := fun l => by
    induction l with
    | nil => simp [predL]
    | cons e l ih =>
      simp only [predL]
      cases hb : Region.binds .any e with
      | true =>
        simp only [List.mem_cons, ih]
        constructor
        · rintro (rfl | ⟨e', h1, h2⟩)
          · exact ⟨e, .inl rfl, hb, rfl⟩
          · exact ⟨e', .inr h1, h2⟩
        · rintro ⟨e', rfl | h1, h2, h3⟩
          · exact .inl h3.symm
          · exact .inr ⟨e', h1, h2, h3⟩
      | false =>
        simp only [List.mem_cons, ih]
        constructor
        · rintro ⟨e', h1, h2⟩
          exact ⟨e', .inr h1, h2⟩
        · rintro ⟨e', rfl | h1, h2, h3⟩
          · rw [hb] at h2; cases h2
          · exact ⟨e', h1, h2, h3⟩
  unfold preds
  rw [key]
  simp [Array.mem_toList_iff]

theorem rowM_bit {ms : List Nat} {i : Nat} : ∀ {l : List Nat}, (rowM ms l).testBit i = true → i ∈ l ∨ ∃ k ∈ l, (nthN ms k).testBit i = true
  | [], h => by simp [rowM] at h
  | k :: l, h => by
    simp only [rowM, Nat.testBit_or, Nat.testBit_two_pow, Bool.or_eq_true, decide_eq_true_eq] at h
    rcases h with h | h | h
    · exact .inl (by simp [h])
    · exact .inr ⟨k, by simp, h⟩
    · rcases rowM_bit h with h | ⟨k', h1, h2⟩
      · exact .inl (by simp [h])
      · exact .inr ⟨k', by simp [h1], h2⟩

theorem validM_get {ms : List Nat} : ∀ {l : List Oper} {n j : Nat} {o : Oper}, validM ms l n = true → l[j]? = some o → nthN ms (n + j) = rowM ms (preds o)
  | [], n, j, o, _, h => by simp at h
  | x :: l, n, 0, o, hv, h => by
    simp only [validM, Bool.and_eq_true] at hv
    simp at h; subst h
    exact Nat.eq_of_beq_eq_true hv.1
  | x :: l, n, j + 1, o, hv, h => by
    simp only [validM, Bool.and_eq_true] at hv
    have := validM_get (n := n + 1) (j := j) hv.2 (by simpa using h)
    rw [← this]; congr 1; omega

def newD : List Oper → List Nat
  | [] => []
  | o :: l => match isNew o.op, o.dst with
    | true, some d => d :: newD l
    | _, _ => newD l
def allD : List Oper → List Nat
  | [] => []
  | o :: l => match o.dst with
    | some d => d :: allD l
    | none => allD l
def side1 (tmps : List AV) (d : Nat) : List Nat → Bool
  | [] => true
  | t :: ts => noRef d (lk tmps t) && side1 tmps d ts
def sideB (tmps : List AV) (ts : List Nat) : List Nat → Bool
  | [] => true
  | d :: ds => side1 tmps d ts && sideB tmps ts ds

def Side (os : List Oper) (s : AS) : Prop := ∀ y ∈ os, isNew y.op = true → ∀ x ∈ os, ∀ d t, y.dst = some d → x.dst = some t → noRef d (lk s.tmps t) = true

theorem side_of {os : List Oper} {s : AS} (h : sideB s.tmps (allD os) (newD os) = true) : Side os s := by
  have h1 : ∀ (d : Nat) (ts : List Nat), side1 s.tmps d ts = true → ∀ t ∈ ts, noRef d (lk s.tmps t) = true := fun d ts => by
    induction ts with
    | nil => simp
    | cons t ts ih =>
      simp only [side1, Bool.and_eq_true, List.mem_cons]
      rintro ⟨g1, g2⟩ u (rfl | hu)
      · exact g1
      · exact ih g2 u hu
  have h2 : ∀ (ts ds : List Nat), sideB s.tmps ts ds = true → ∀ d ∈ ds, ∀ t ∈ ts, noRef d (lk s.tmps t) = true := fun ts ds => by
    induction ds with
    | nil => simp
    | cons d ds ih =>
      simp only [sideB, Bool.and_eq_true, List.mem_cons]
      rintro ⟨g1, g2⟩ u (rfl | hu)
      · exact h1 _ ts g1
      · exact ih g2 u hu
  have h3 : ∀ (os : List Oper), ∀ x ∈ os, ∀ t, x.dst = some t → t ∈ allD os := fun os => by
    induction os with
    | nil => simp
    | cons o os ih =>
      intro x hx t ht
      simp only [allD]
      rcases List.mem_cons.1 hx with rfl | hx
      · rw [ht]; simp
      · cases o.dst <;> simp [ih x hx t ht]
  have h4 : ∀ (os : List Oper), ∀ x ∈ os, isNew x.op = true → ∀ t, x.dst = some t → t ∈ newD os := fun os => by
    induction os with
    | nil => simp
    | cons o os ih =>
      intro x hx hn t ht
      simp only [newD]
      rcases List.mem_cons.1 hx with rfl | hx
      · rw [ht, hn]; simp
      · have := ih x hx hn t ht
        split <;> simp [this]
  exact fun y hy hn x hx d t hd ht => h2 _ _ h d (h4 os y hy hn d hd) t (h3 os x hx t ht)

section
variable {P : Program} {L : Lay}

def Ne2 (x y : Oper) : Prop := ∀ d, x.dst = some d → y.dst ≠ some d

theorem bubble {ops : Array Oper} {j : Oper} {post : List Oper} {K : AS → Prop} : ∀ (pre : List Oper) {s : AS}, (∀ i ∈ pre, pairOk ops i j = true) → (pre ++ [j]).Pairwise Ne2 → Side (pre ++ [j]) s →
    opsS P L ops.toList (pre ++ j :: post) s K → stepS P L ops.toList j s fun s' => opsS P L ops.toList (pre ++ post) s' K
  | [], s, _, _, _, h => by
    simp only [List.nil_append] at h ⊢
    rw [opsS_cons] at h; exact h
  | i :: pre, s, hp, hd, hs, h => by
    simp only [List.cons_append] at h hd hs ⊢
    rw [opsS_cons] at h
    simp only [List.pairwise_cons] at hd
    have h1 := stepS_mono (K' := fun s' => stepS P L ops.toList j s' fun s'' => opsS P L ops.toList (pre ++ post) s'' K) h (fun s' hfr hk => by
      refine bubble pre (fun i hi => hp i (by simp [hi])) hd.2 (fun y hy hn x hx d t hyd hxt => ?_) hk
      exact hfr t d (fun hit => hd.1 x hx t hit hxt) (hs y (by simp [hy]) hn x (by simp [hx]) d t hyd hxt))
    have h2 := swap (hp i (by simp)) (fun hn d t hjd hit => hs j (by simp) hn i (by simp) d t hjd hit) h1
    refine stepS_mono h2 (fun s' _ hk => ?_)
    rw [opsS_cons]; exact hk

theorem stepS_sound (hL : LOk P L) {F : Frm} (hG : ∀ w, Kept F.Sh F.w0 w → GoodW P w) {s : AS} {a : Act} {E : Env} (h : Ok F s a E) {ops : Array Oper} {j : Nat} {o : Oper} (ho : ops[j]? = some o) {next : Act → World → Prop} {Q : Exit → Act → World → Prop} {K : AS → Prop}
    (hn : ∀ a' w', Sat F K a' w' → next a' w') (hk : stepS P L ops.toList o s K) : wpOp P ops Q j next a E.w := by
  unfold wpOp
  simp only [ho]
  have run : opS P L o s K → o.wp P a E.w next Q := fun hk => opS_sound hL hG h hn hk
  have skip : K (s.put o.dst (.tup [])) → next (a.put o.dst undef) E.w := fun hk => hn _ _ ⟨_, E, rfl, h.put o.dst (x := .tup []) (c := undef) (by simp only [RT]; exact ⟨[], rfl, by simp [RTL]⟩), hk⟩
  unfold stepS at hk
  split at hk
  · rename_i hg
    have : Region.wanted o (yielded ops a.tmps) = true := by simp [Region.wanted, hg]
    rw [if_pos this]
    exact .inl (run hk)
  · rename_i j want hg
    split at hk
    · rename_i d hdd
      split at hk
      · rename_i b hb
        have hw := wanted_of h hg hdd hb
        cases b <;> simp only [ifK] at hk
        · rw [if_neg (by rw [hw]; decide)]; exact skip hk
        · rw [if_pos hw]; exact .inl (run hk)
      · exact hk.elim
    · exact hk.elim

theorem pickL_append (all : List Oper) (a b : List Nat) : pickL all (a ++ b) = pickL all a ++ pickL all b := by
  induction a with
  | nil => rfl
  | cons i a ih =>
    simp only [List.cons_append, pickL]
    cases nthO all i <;> simp [ih]
theorem pickL_mem {all : List Oper} {o : Oper} : ∀ {l : List Nat}, o ∈ pickL all l → ∃ i ∈ l, all[i]? = some o
  | [], h => by simp [pickL] at h
  | i :: l, h => by
    simp only [pickL] at h
    rw [nthO_eq] at h
    cases hi : all[i]? with
    | none => rw [hi] at h; obtain ⟨k, h1, h2⟩ := pickL_mem h; exact ⟨k, by simp [h1], h2⟩
    | some x =>
      rw [hi] at h
      rcases List.mem_cons.1 h with rfl | h
      · exact ⟨i, by simp, hi⟩
      · obtain ⟨k, h1, h2⟩ := pickL_mem h; exact ⟨k, by simp [h1], h2⟩

/-- What is known of the operations that are still to do. -/
structure Rem (ops : Array Oper) (T : Nat → Nat → Prop) (rem : List Nat) (listed : Array Bool) : Prop where
  unl : ∀ i, listed.getD i true = false ↔ i ∈ rem
  has : ∀ i ∈ rem, ∃ o, ops[i]? = some o
  pair : rem.Pairwise fun i j => i ≠ j ∧ ∀ x y, ops[i]? = some x → ops[j]? = some y → Ne2 x y ∧ (T i j ∨ pairOk ops x y = true)
  topo : rem.Pairwise fun j i => ∀ o, ops[j]? = some o → i ∉ preds o
  self : ∀ j ∈ rem, ∀ o, ops[j]? = some o → j ∉ preds o
  clos : ∀ k, listed.getD k false = true → ∀ i, T i k → listed.getD i false = true
  rng : ∀ (j : Nat) (o : Oper), ops[j]? = some o → ∀ k ∈ preds o, k < ops.size
  size : listed.size = ops.size

theorem pick_ne {ops : Array Oper} {T : Nat → Nat → Prop} : ∀ {rem : List Nat}, (rem.Pairwise fun i j => i ≠ j ∧ ∀ x y, ops[i]? = some x → ops[j]? = some y → Ne2 x y ∧ (T i j ∨ pairOk ops x y = true)) → (pickL ops.toList rem).Pairwise Ne2
  | [], _ => .nil
  | i :: l, h => by
    simp only [List.pairwise_cons] at h
    simp only [pickL]
    rw [nthO_eq, Array.getElem?_toList]
    cases hi : ops[i]? with
    | none => exact pick_ne h.2
    | some x =>
      refine .cons (fun y hy => ?_) (pick_ne h.2)
      obtain ⟨j, h1, h2⟩ := pickL_mem hy
      rw [Array.getElem?_toList] at h2
      exact ((h.1 j h1).2 x y hi h2).1

theorem anyS (hL : LOk P L) {F : Frm} (hG : ∀ w, Kept F.Sh F.w0 w → GoodW P w) {ops : Array Oper} {Q : Exit → Act → World → Prop} {K : AS → Prop} {T : Nat → Nat → Prop}
    (hT : ∀ i j o, ops[j]? = some o → T i j → i ∈ preds o ∨ ∃ k ∈ preds o, T i k) (hn : ∀ a' w', Sat F K a' w' → Q .normal a' w') :
    ∀ (fuel : Nat) (rem : List Nat) (listed : Array Bool) {s : AS} {a : Act} {E : Env}, rem.length ≤ fuel → Rem ops T rem listed → Ok F s a E → Side (pickL ops.toList rem) s →
      opsS P L ops.toList (pickL ops.toList rem) s K → wpAny P .any ops Q fuel listed a E.w := by
  have fin : ∀ {rem : List Nat} {listed : Array Bool} {s : AS} {a : Act} {E : Env}, Rem ops T rem listed → Ok F s a E → opsS P L ops.toList (pickL ops.toList rem) s K → Region.ready .any ops listed = [] → rem = [] ∧ Q .normal a E.w := by
    intro rem listed s a E hr h hk hnil
    cases rem with
    | nil => exact ⟨rfl, hn _ _ ⟨s, E, rfl, h, hk⟩⟩
    | cons i rem =>
      exfalso
      obtain ⟨o, ho⟩ := hr.has i (by simp)
      have : i ∈ Region.ready .any ops listed := mem_ready.2 ⟨(hr.unl i).2 (by simp), o, ho, fun e he hb => by
        have hp : e.on ∈ preds o := preds_mem.2 ⟨e, he, hb, rfl⟩
        have hni : e.on ∉ i :: rem := by
          simp only [List.mem_cons, not_or]
          have ht := hr.topo
          simp only [List.pairwise_cons] at ht
          exact ⟨fun h => hr.self i (by simp) o ho (h ▸ hp), fun hm => ht.1 _ hm o ho hp⟩
        have hu := mt (hr.unl e.on).1 hni
        have hlt : e.on < listed.size := by rw [hr.size]; exact hr.rng i o ho _ hp
        rw [Array.getD_eq_getD_getElem?] at hu ⊢
        rw [Array.getElem?_eq_getElem hlt] at hu ⊢
        simpa using hu⟩
      rw [hnil] at this
      cases this
  intro fuel
  induction fuel with
  | zero =>
    intro rem listed s a E hle hr h hs hk
    have hrem : rem = [] := List.length_eq_zero_iff.1 (by omega)
    have hnil : Region.ready .any ops listed = [] := by
      rw [List.eq_nil_iff_forall_not_mem]
      intro i hi
      have := (hr.unl i).1 (mem_ready.1 hi).1
      rw [hrem] at this; cases this
    exact ⟨hnil, (fin hr h hk hnil).2⟩
  | succ fuel ih =>
    intro rem listed s a E hle hr h hs hk
    refine ⟨fun hnil => (fin hr h hk hnil).2, fun j hj => ?_⟩
    obtain ⟨hj0, o, ho, hall⟩ := mem_ready.1 hj
    have hjr := (hr.unl j).1 hj0
    obtain ⟨pre, post, rfl⟩ := List.append_of_mem hjr
    have hpk : pickL ops.toList (pre ++ j :: post) = pickL ops.toList pre ++ o :: pickL ops.toList post := by
      rw [pickL_append]; congr 1
      simp only [pickL]; rw [nthO_eq, Array.getElem?_toList, ho]
    have hlisted : ∀ i, T i j → listed.getD i false = true := fun i ht => by
      rcases hT i j o ho ht with hp | ⟨k, hp, hk'⟩
      · obtain ⟨e, he, hb, rfl⟩ := preds_mem.1 hp
        exact hall e he hb
      · obtain ⟨e, he, hb, rfl⟩ := preds_mem.1 hp
        exact hr.clos _ (hall e he hb) i hk'
    have hpre : ∀ x ∈ pickL ops.toList pre, pairOk ops x o = true := fun x hx => by
      obtain ⟨i, hi, hxi⟩ := pickL_mem hx
      rw [Array.getElem?_toList] at hxi
      have hp := (List.pairwise_append.1 hr.pair).2.2 i hi j (by simp)
      refine ((hp.2 x o hxi ho).2).resolve_left (fun ht => ?_)
      have h1 := hlisted i ht
      have h2 := (hr.unl i).2 (by simp [hi])
      rw [Array.getD_eq_getD_getElem?] at h1 h2
      cases hq : listed[i]? with
      | none => rw [hq] at h2; cases h2
      | some b => rw [hq] at h1 h2; simp at h1 h2; rw [h1] at h2; cases h2
    have hne := pick_ne hr.pair
    rw [hpk] at hne hs hk
    have hstep := bubble (pickL ops.toList pre) hpre (by
      have := (List.pairwise_append.1 hne)
      refine List.pairwise_append.2 ⟨this.1, List.pairwise_singleton _ _, fun x hx y hy => ?_⟩
      simp only [List.mem_singleton] at hy; subst hy
      exact this.2.2 x hx y (by simp)) (fun y hy hn x hx d t hd ht => hs y (by
        rcases List.mem_append.1 hy with hy | hy
        · simp [hy]
        · simp only [List.mem_singleton] at hy; simp [hy]) hn x (by
        rcases List.mem_append.1 hx with hy | hy
        · simp [hy]
        · simp only [List.mem_singleton] at hy; simp [hy]) d t hd ht) hk
    have hstep' := stepS_mono (K' := fun s' => Side (pickL ops.toList (pre ++ post)) s' ∧ opsS P L ops.toList (pickL ops.toList (pre ++ post)) s' K) hstep (fun s' hfr hk' => by
      rw [pickL_append]
      refine ⟨fun y hy hny x hx d t hyd hxt => ?_, hk'⟩
      have hne' : o.dst ≠ some t := by
        have hp := List.pairwise_append.1 hne
        rcases List.mem_append.1 hx with hx | hx
        · exact fun hot => hp.2.2 x hx o (by simp) t hxt hot
        · have := List.pairwise_cons.1 hp.2.1
          exact fun hot => this.1 x hx t hot hxt
      exact hfr t d hne' (hs y (by rcases List.mem_append.1 hy with hy | hy <;> simp [hy]) hny x (by rcases List.mem_append.1 hx with hx | hx <;> simp [hx]) d t hyd hxt))
    refine stepS_sound hL hG h ho (fun a' w' hsat => ?_) hstep'
    obtain ⟨s', E', rfl, h', hside, hk'⟩ := hsat
    have hjnot : j ∉ pre ++ post := by
      have hp := List.pairwise_append.1 hr.pair
      simp only [List.mem_append, not_or]
      exact ⟨fun hm => (hp.2.2 j hm j (by simp)).1 rfl, fun hm => ((List.pairwise_cons.1 hp.2.1).1 j hm).1 rfl⟩
    have hsub : (pre ++ post).Sublist (pre ++ j :: post) := List.Sublist.append (List.Sublist.refl _) (List.sublist_cons_self _ _)
    have hjl : j < listed.size := by
      rcases Nat.lt_or_ge j listed.size with h | h
      · exact h
      · simp [Array.getElem?_eq_none h] at hj0
    refine ih (pre ++ post) _ (by simp at hle ⊢; omega) ⟨fun i => ?_, fun i hi => hr.has i (hsub.mem hi), hr.pair.sublist hsub, hr.topo.sublist hsub, fun i hi => hr.self i (hsub.mem hi), fun k hk i ht => ?_, hr.rng, by simp [hr.size]⟩ h' hside hk'
    · by_cases hij : j = i
      · subst hij
        constructor
        · intro hh; simp [hjl] at hh
        · intro hh; exact absurd hh hjnot
      · rw [getD_set_ne true hij, hr.unl i]
        simp only [List.mem_append, List.mem_cons]
        constructor
        · rintro (h | h | h)
          · exact .inl h
          · exact absurd h.symm hij
          · exact .inr h
        · rintro (h | h)
          · exact .inl h
          · exact .inr (.inr h)
    · by_cases hjk : j = k
      · subst hjk
        exact getD_set_true (hlisted i ht)
      · rw [getD_set_ne false hjk] at hk
        exact getD_set_true (hr.clos k hk i ht)

theorem pairs_pair {ops : Array Oper} {ms : List Nat} : ∀ {l : List Nat}, pairsB ops ms l = true →
    l.Pairwise fun i j => i ≠ j ∧ ∀ x y, ops[i]? = some x → ops[j]? = some y → Ne2 x y ∧ ((∃ o, ops[j]? = some o ∧ (nthN ms j).testBit i = true) ∨ pairOk ops x y = true)
  | [], _ => .nil
  | i :: l, h => by
    simp only [pairsB, Bool.and_eq_true] at h
    refine .cons (fun j hj => ?_) (pairs_pair h.2)
    have := List.all_eq_true.1 h.1 j hj
    simp only [pairB, Bool.and_eq_true, Bool.not_eq_true'] at this
    refine ⟨fun e => by subst e; simp at this, fun x y hx hy => ?_⟩
    have h2 := this.2
    rw [nthO_eq, nthO_eq, Array.getElem?_toList, Array.getElem?_toList, hx, hy] at h2
    simp only [Bool.and_eq_true, Bool.or_eq_true] at h2
    refine ⟨fun d hd hd' => ?_, h2.2.imp (fun h => ⟨y, hy, h⟩) id⟩
    have h3 := h2.1
    simp only [dstNe, hd, hd'] at h3
    simp at h3
theorem topo_pair {ops : Array Oper} : ∀ {l : List Nat}, topoB ops.toList l = true →
    (l.Pairwise fun j i => ∀ o, ops[j]? = some o → i ∉ preds o) ∧ ∀ j ∈ l, ∀ o, ops[j]? = some o → j ∉ preds o
  | [], _ => ⟨.nil, by simp⟩
  | j :: l, h => by
    simp only [topoB, Bool.and_eq_true] at h
    obtain ⟨g1, g2⟩ := topo_pair h.2
    have key : ∀ o, ops[j]? = some o → ∀ k ∈ preds o, k ≠ j ∧ k ∉ l := fun o ho k hk => by
      have h1 := h.1
      rw [nthO_eq, Array.getElem?_toList, ho] at h1
      have := List.all_eq_true.1 h1 k hk
      simp only [Bool.and_eq_true, Bool.not_eq_true'] at this
      refine ⟨fun e => by subst e; simp at this, fun hm => ?_⟩
      have := List.all_eq_true.1 this.2 k hm
      simp at this
    refine ⟨.cons (fun i hi o ho hp => (key o ho i hp).2 hi) g1, fun i hi o ho hp => ?_⟩
    rcases List.mem_cons.1 hi with rfl | hi
    · exact (key o ho i hp).1 rfl
    · exact g2 i hi o ho hp

theorem wp_draw (hL : LOk P L) (hM : P.follows .mixedOrders = true) {F : Frm} (hG : ∀ w, Kept F.Sh F.w0 w → GoodW P w) {id : Nat} {ops : Array Oper} {Q : Exit → Act → World → Prop} {K : AS → Prop} {perm : List Nat} (hc : drawOk ops perm = true)
    (hn : ∀ a' w', Sat F K a' w' → Q .normal a' w') {s : AS} {a : Act} {E : Env} (h : Ok F s a E) (hs : sideB s.tmps (allD (pickL ops.toList perm)) (newD (pickL ops.toList perm)) = true)
    (hk : opsS P L ops.toList (pickL ops.toList perm) s K) : (Code.region id ops true).wp P Q a E.w := by
  simp only [drawOk, Bool.and_eq_true] at hc
  obtain ⟨c1, c2, c3, c4, c5, c6⟩ := hc
  generalize mkM ops.toList perm (List.replicate ops.size 0) = ms at *
  have hgrow : Ok F s a { E with w := { E.w with drawn := E.w.drawn + 1 } } := h.grow (w' := { E.w with drawn := E.w.drawn + 1 }) ⟨rfl, rfl, rfl, Nat.le_refl _, fun _ _ => rfl⟩
  refine wp_region_any hM (anyS hL hG (T := fun i j => ∃ o, ops[j]? = some o ∧ (nthN ms j).testBit i = true) ?_ hn ops.size perm _ (Nat.le_of_ble_eq_true c1) ?_ hgrow (side_of hs) hk)
  · rintro i j o ho ⟨o', ho', hb⟩
    have hv := validM_get (j := j) c4 (by rw [Array.getElem?_toList]; exact ho)
    rw [Nat.zero_add] at hv
    rw [hv] at hb
    rcases rowM_bit hb with hb | ⟨k, h1, h2⟩
    · exact .inl hb
    · have hk : k < ops.size := by
        have := List.all_eq_true.1 c3 o (List.mem_of_getElem? (by rw [Array.getElem?_toList]; exact ho))
        exact Nat.le_of_ble_eq_true (List.all_eq_true.1 this k h1)
      exact .inr ⟨k, h1, ops[k], by simp [hk], h2⟩
  · have hhas : ∀ (l : List Nat), topoB ops.toList l = true → ∀ i ∈ l, ∃ o, ops[i]? = some o := fun l => by
      induction l with
      | nil => simp
      | cons j l ih =>
        intro ht i hi
        simp only [topoB, Bool.and_eq_true] at ht
        rcases List.mem_cons.1 hi with rfl | hi
        · have h1 := ht.1
          rw [nthO_eq, Array.getElem?_toList] at h1
          cases ho : ops[i]? with
          | none => rw [ho] at h1; cases h1
          | some o => exact ⟨o, rfl⟩
        · exact ih ht.2 i hi
    refine ⟨fun i => ?_, hhas perm c6, pairs_pair c5, (topo_pair c6).1, (topo_pair c6).2, fun k hk => ?_, fun j o ho k hk => ?_, by simp⟩
    · constructor
      · intro hi
        have hlt : i < ops.size := by
          rcases Nat.lt_or_ge i ops.size with h | h
          · exact h
          · rw [Array.getD_eq_getD_getElem?, Array.getElem?_eq_none (by simpa using h)] at hi; cases hi
        have := List.all_eq_true.1 c2 i (List.mem_range.2 hlt)
        obtain ⟨j, h1, h2⟩ := List.any_eq_true.1 this
        exact Nat.eq_of_beq_eq_true h2 ▸ h1
      · intro hi
        obtain ⟨o, ho⟩ := hhas perm c6 i hi
        have hlt : i < ops.size := (Array.getElem?_eq_some_iff.1 ho).1
        rw [Array.getD_eq_getD_getElem?]
        simp [hlt]
    · rw [Array.getD_eq_getD_getElem?] at hk
      rcases Nat.lt_or_ge k ops.size with h | h
      · simp [h] at hk
      · simp [h] at hk
    · have := List.all_eq_true.1 c3 o (List.mem_of_getElem? (by rw [Array.getElem?_toList]; exact ho))
      exact Nat.le_of_ble_eq_true (List.all_eq_true.1 this k hk)

end
end Go.Eng
/- Steps that only the proof takes; slices built of rows. -/
namespace Go.Eng
open Go.RowKit
set_option linter.unusedSimpArgs false
set_option linter.unusedVariables false
set_option linter.unusedSectionVars false

/-- A state may be looked at in another way. -/
inductive Gh : AS → AS → Prop
  | refl (s : AS) : Gh s s
  | frz {s s' : AS} (o : Nat) (B : Ob) (h1 : getO s.objs o = some B) (h2 : B.box = false) (h : Gh (s.frz o B) s') : Gh s s'
  | ren {s s' : AS} (o o' : Nat) (B : Ob) (h1 : getO s.objs o = some B) (h2 : B.box = false) (h3 : getO s.objs o' = none) (h : Gh (s.ren o o' B) s') : Gh s s'
  | kil {s s' : AS} (o : Nat) (h : Gh (s.kil o) s') : Gh s s'
  | fits {s s1 s' : AS} (h1 : Fits s s1) (h : Gh s1 s') : Gh s s'
theorem Gh.ok {s s' : AS} (g : Gh s s') : ∀ {F : Frm} {a : Act} {E : Env}, Ok F s a E → ∃ E', E'.w = E.w ∧ Ok F s' a E' := by
  induction g with
  | refl s => intro F a E h; exact ⟨E, rfl, h⟩
  | frz o B h1 h2 _ ih =>
    intro F a E h
    obtain ⟨E', e, h'⟩ := ih (h.frz h1 h2 (π := [0, 0]) (by simp))
    exact ⟨E', e, h'⟩
  | ren o o' B h1 h2 h3 _ ih =>
    intro F a E h
    obtain ⟨E', e, h'⟩ := ih (h.ren h1 h2 h3)
    exact ⟨E', e, h'⟩
  | kil o _ ih =>
    intro F a E h
    obtain ⟨E', e, h'⟩ := ih (h.kil o)
    exact ⟨E', e, h'⟩
  | fits h1 _ ih =>
    intro F a E h
    obtain ⟨E', e, h'⟩ := ih (h.fits h1)
    exact ⟨E', e, h'⟩

/-- Cells of an element of the new row d: rows are taken in. -/
def abN (x : Operand) (d : Nat) : Nat → Nat → AS → (List AV → AS → Prop) → Prop
  | 0, _, s, K => K [] s
  | n + 1, j, s, K => match lk (cellsOf (s.env x)) j with
    | .row k => (match getO s.objs k with
      | some B => ifK (!B.box && (!(Nat.beq k d) && Nat.ble 1 B.esz)) (fun _ => abN x d n (j + 1) (s.frz k B) fun ys s' => K (.sl B.esz true B.nl B.els :: ys) s') (fun _ => False)
      | none => False)
    | y => ifK (flatC y) (fun _ => abN x d n (j + 1) s fun ys s' => K (y :: ys) s') (fun _ => False)
def mkV (v : AV) (cs : List AV) : AV := match v with
  | .agg _ => .agg cs
  | _ => cs.headD .bad
def partsA (ei : TI) (d : Nat) : List AV → List (Nat × Operand) → AS → (List AV → AS → Prop) → Prop
  | els, [], s, K => K els s
  | els, (i, x) :: ps, s, K => ifK (okVal (s.env x) && (((cellsOf (s.env x)).length == ei.size) && Nat.ble (i + 1) els.length)) (fun _ => abN x d ei.size 0 s fun cs s' => partsA ei d (st els i (mkV (s.env x) cs)) ps s' K) (fun _ => False)
def bsA (L : Lay) (t len : Nat) (ps : List (Nat × Operand)) (d : Option Nat) (s : AS) (K : AS → Prop) : Prop := match d, lkT L t with
  | some d, some ⟨.slice e, _, _, _, _⟩ => (match lkT L e with
    | some ei => ifK (zeroOk ei && Nat.ble (len * ei.size) 16777216) (fun _ => partsA ei d (List.replicate len (zeroOf ei)) ps s fun els s' => newRowK (some d) ei.size els s' K) (fun _ => False)
    | none => False)
  | _, _ => False

def RowA (E : Env) (d esz : Nat) (els : List AV) (arr : Array Value) : Prop :=
  ∀ (i : Nat) (x : AV), els[i]? = some x → (cellsOf x).length = esz ∧ ∀ (j : Nat) (y : AV), (cellsOf x)[j]? = some y → ∃ c, arr[i * esz + j]? = some c ∧ C0 E.w E.lab true [i, j, d] y c
theorem RowA.frz {E : Env} {d esz k : Nat} {B : Ob} {π : List Nat} {els : List AV} {arr : Array Value} (h : RowA E d esz els arr) (hkd : k ≠ d) (hπ : 1 ≤ π.length) : RowA (E.frz k B π) d esz els arr := fun i x hx => by
  obtain ⟨h1, h2⟩ := h i x hx
  refine ⟨h1, fun j y hy => ?_⟩
  obtain ⟨c, h3, h4⟩ := h2 j y hy
  refine ⟨c, h3, h4.move (Nat.le_refl _) (fun _ _ _ => rfl) (fun b _ hr => relab_root hπ hr) (fun _ => ⟨rfl, fun b τ _ hτ => ?_⟩)⟩
  simp only [Env.frz]
  rw [hτ]
  have := relab_other (o := k) (k := d) (Ne.symm hkd) π (τ ++ [i, j])
  simpa using this

section
variable {P : Program} {L : Lay} {F : Frm} {a : Act}

theorem abN_ok {x : Operand} {d i esz : Nat} : ∀ (n j0 : Nat) {s : AS} {E : Env} {K : List AV → AS → Prop} {els : List AV} {arr : Array Value}, Ok F s a E → okVal (s.env x) = true → j0 + n = (cellsOf (s.env x)).length → RowA E d esz els arr → abN x d n j0 s K →
    ∃ ys s' E', K ys s' ∧ E'.w = E.w ∧ Ok F s' a E' ∧ RowA E' d esz els arr ∧ ys.length = n ∧ (∀ (j : Nat) (y : AV), ys[j]? = some y → ∃ c, (a.eval x).cells.toList[j0 + j]? = some c ∧ C0 E'.w E'.lab true [i, j0 + j, d] y c) ∧
      (∀ {y : AV} {c : Value} {j : Nat}, C0 E.w E.lab true [i, j, d] y c → C0 E'.w E'.lab true [i, j, d] y c)
  | 0, j0, s, E, K, els, arr, h, hok, hl, hr, hk => ⟨[], s, E, hk, rfl, h, hr, rfl, fun j y hy => by simp at hy, fun hc => hc⟩
  | n + 1, j0, s, E, K, els, arr, h, hok, hl, hr, hk => by
    obtain ⟨hcs, _⟩ := (h.env x).cells hok
    have hj : j0 < (cellsOf (s.env x)).length := by omega
    obtain ⟨v, hv, hcell⟩ := hcs.get j0 _ (List.getElem?_eq_getElem hj)
    have hlk : lk (cellsOf (s.env x)) j0 = (cellsOf (s.env x))[j0] := by rw [lk_eq]; simp [hj]
    simp only [abN] at hk
    rw [hlk] at hk
    have hz : (cellsOf (s.env x))[j0]? = some (cellsOf (s.env x))[j0] := List.getElem?_eq_getElem hj
    generalize (cellsOf (s.env x))[j0] = z at hk hcell hz
    split at hk
    · rename_i k
      split at hk
      · rename_i B hB
        obtain ⟨hc, hk⟩ := ifK_inv hk
        simp only [Bool.and_eq_true, Bool.not_eq_true', natbeq, beq_eq_false_iff_ne] at hc
        obtain ⟨hbox, hkd, hpos⟩ := hc
        have hpos := Nat.le_of_ble_eq_true hpos
        have hB' : getO E.objs k = some B := by rw [h.objsEq]; exact hB
        have hobj : ∀ k ob, getO E.objs k = some ob → RO E k ob := fun k ob hk => h.objs k ob (by rw [← h.objsEq]; exact hk)
        have hfz := h.frz hB hbox (π := [i, j0, d]) (by simp)
        have hrow := row_at hB' hbox hobj (π := [i, j0, d]) (by simp) (by simpa only [RT] using hcell)
        have hc0 : C0 (E.frz k B [i, j0, d]).w (E.frz k B [i, j0, d]).lab true [i, j0, d] (.sl B.esz true B.nl B.els) v := by
          rcases hrow with ⟨g1, g2, g3, g4⟩ | ⟨b, cap, arr', e, k1, k2, k3, k4, k5, k6, k7, k8⟩
          · rw [g2, g3]; exact .nil g4
          · have hre : ∀ b τ, E.lab b = τ ++ [k] → (E.frz k B [i, j0, d]).lab b = τ ++ [i, j0, d] := fun b τ hτ => by simp only [Env.frz]; rw [hτ, relab_app]
            rw [k2]
            have hcl : B.els.length ≤ cap := k7.resolve_left (by omega)
            have := slice_own (E := E) (w' := E.w) (lab' := (E.frz k B [i, j0, d]).lab) (π := [i, j0, d]) hbox (fun _ _ => rfl) (Nat.le_refl _) (fun b _ hr => relab_root (by simp) hr) (b := b) (by simpa using hre b [] (by simpa using k3)) (by simp) (fun b τ _ hτ => hre b τ hτ) k5 k8 B.els.length cap (Nat.le_refl _) hcl k6 true B.nl k4
            rw [List.take_length] at this
            exact this
        have henv : (s.frz k B).env x = mapA (frR k B) (frO k B) (frP k) (s.env x) := by
          cases x with
          | tmp t =>
            simp only [AS.env, AS.frz, AS.map, lk_eq, List.getD_eq_getElem?_getD, mapL_map, List.getElem?_map]
            cases s.tmps[t]? <;> rfl
          | const c => simp only [AS.env]; cases plain c <;> rfl
          | func f => rfl
          | global g => rfl
        have hm := frz_mapOk hB' hbox hobj (π := [i, j0, d]) (by simp)
        have hok' : okVal ((s.frz k B).env x) = true := by
          rw [henv]
          cases hx : s.env x with
          | row o => simp only [mapA, frR]; cases Nat.beq o k <;> rfl
          | osl o lo n => simp only [mapA, frO]; cases Nat.beq o k <;> rfl
          | ptr o i c =>
            rw [hx] at hz
            cases j0 with
            | zero => simp [cellsOf] at hz
            | succ j => simp [cellsOf] at hz
          | bad => rw [hx] at hok; cases hok
          | tup xs => rw [hx] at hok; cases hok
          | _ => rfl
        have hl' : (j0 + 1) + n = (cellsOf ((s.frz k B).env x)).length := by
          rw [henv, hm.cells, mapL_map, List.length_map]; omega
        obtain ⟨ys, s', E', g1, g2, g3, g4, g5, g6, g7⟩ := abN_ok n (j0 + 1) hfz hok' hl' (hr.frz hkd (by simp)) hk
        refine ⟨_, s', E', g1, g2, g3, g4, by simp [g5], fun j y hy => ?_, fun {y c j} hc => ?_⟩
        · cases j with
          | zero =>
            simp only [List.getElem?_cons_zero, Option.some.injEq] at hy
            subst hy
            exact ⟨v, by simpa using hv, by simpa using g7 hc0⟩
          | succ j =>
            obtain ⟨c, m1, m2⟩ := g6 j y (by simpa using hy)
            exact ⟨c, by rw [← m1]; congr 1; omega, by rw [show j0 + (j + 1) = j0 + 1 + j by omega]; exact m2⟩
        · refine g7 (hc.move (Nat.le_refl _) (fun _ _ _ => rfl) (fun b _ hr => relab_root (by simp) hr) (fun _ => ⟨rfl, fun b τ _ hτ => ?_⟩))
          simp only [Env.frz]
          rw [hτ]
          have := relab_other (o := k) (k := d) (Ne.symm hkd) [i, j0, d] (τ ++ [i, j])
          simpa using this
      · exact hk.elim
    · obtain ⟨hc, hk⟩ := ifK_inv hk
      obtain ⟨ys, s', E', g1, g2, g3, g4, g5, g6, g7⟩ := abN_ok (i := i) n (j0 + 1) h hok (by omega) hr hk
      refine ⟨_, s', E', g1, g2, g3, g4, by simp [g5], fun j y hy => ?_, g7⟩
      cases j with
      | zero =>
        simp only [List.getElem?_cons_zero, Option.some.injEq] at hy
        subst hy
        exact ⟨v, by simpa using hv, by simpa using g7 (hcell.flat hc [i, j0, d])⟩
      | succ j =>
        obtain ⟨c, m1, m2⟩ := g6 j y (by simpa using hy)
        exact ⟨c, by rw [← m1]; congr 1; omega, by rw [show j0 + (j + 1) = j0 + 1 + j by omega]; exact m2⟩

theorem RowA.world {E E' : Env} {d esz : Nat} {els : List AV} {arr : Array Value} (h : RowA E d esz els arr) (hc : ∀ {y : AV} {c : Value} {i j : Nat}, C0 E.w E.lab true [i, j, d] y c → C0 E'.w E'.lab true [i, j, d] y c) : RowA E' d esz els arr := fun i x hx => by
  obtain ⟨h1, h2⟩ := h i x hx
  refine ⟨h1, fun j y hy => ?_⟩
  obtain ⟨c, h3, h4⟩ := h2 j y hy
  exact ⟨c, h3, hc h4⟩

theorem cellsOf_mkV {v : AV} {cs : List AV} (h : cs.length = (cellsOf v).length) (h1 : ∀ y ∈ cs, cellsOf y = [y]) : cellsOf (mkV v cs) = cs := by
  cases v with
  | agg xs => rfl
  | _ =>
    simp only [cellsOf, List.length_cons, List.length_nil] at h
    match cs, h with
    | [y], _ => simp only [mkV, List.headD_cons]; exact h1 y (by simp)

theorem partsA_ok {ei : TI} {d len : Nat} : ∀ (ps : List (Nat × Operand)) {s : AS} {E : Env} {K : List AV → AS → Prop} {els : List AV} {cells : Array Value}, Ok F s a E → els.length = len → cells.size = len * ei.size → RowA E d ei.size els cells → partsA ei d els ps s K →
    ∃ ys cells' s' E', Instr.fill (fun i => some (i * ei.size, ei.size)) cells (ps.map fun p => (p.1, a.eval p.2)) = some cells' ∧ ys.length = len ∧ cells'.size = len * ei.size ∧ RowA E' d ei.size ys cells' ∧ E'.w = E.w ∧ Ok F s' a E' ∧ K ys s'
  | [], s, E, K, els, cells, h, h1, h2, h3, hk => ⟨els, cells, s, E, rfl, h1, h2, h3, rfl, h, hk⟩
  | (i, x) :: ps, s, E, K, els, cells, h, h1, h2, h3, hk => by
    simp only [partsA] at hk
    obtain ⟨hc, hk⟩ := ifK_inv hk
    simp only [Bool.and_eq_true, beq_iff_eq] at hc
    obtain ⟨c1, c3, c4⟩ := hc
    have c4 := Nat.le_of_ble_eq_true c4
    obtain ⟨cs, s1, E1, hk1, e1, hok1, hr1, hlen1, hcs, _⟩ := abN_ok (i := i) ei.size 0 h c1 (by omega) h3 hk
    obtain ⟨hx, hx1⟩ := (h.env x).cells c1
    have hlen : (a.eval x).cells.size = ei.size := by rw [← c3, hx.length]; simp
    have hroom : i * ei.size + ei.size ≤ cells.size := by
      rw [h2, ← h1]
      have := Nat.mul_le_mul_right ei.size c4
      rw [Nat.add_mul, Nat.one_mul] at this
      exact this
    have hset := set_run (a.eval x).cells.toList (i * ei.size) 0 cells (by simp; omega)
    simp only [Nat.add_zero] at hset
    have hfold : (a.eval x).cells.zipIdx.foldl (fun cs (c, j) => cs.setIfInBounds (i * ei.size + j) c) cells = ((a.eval x).cells.toList.zipIdx 0).foldl (fun cs (p : Value × Nat) => cs.setIfInBounds (i * ei.size + p.2) p.1) cells := by
      rw [← Array.foldl_toList, Array.toList_zipIdx]
    have hcl : ((a.eval x).cells.zipIdx.foldl (fun cs (c, j) => cs.setIfInBounds (i * ei.size + j) c) cells).size = cells.size := by
      rw [← Array.length_toList, hfold, hset]
      simp; omega
    have hcm : cellsOf (mkV (s.env x) cs) = cs := cellsOf_mkV (by rw [hlen1, c3]) (fun y hy => by
      obtain ⟨j, hj⟩ := List.mem_iff_getElem?.1 hy
      obtain ⟨c, _, g2⟩ := hcs j y hj
      exact g2.cells1)
    obtain ⟨ys, cells', s', E', g1, g2, g3, g4, g5, g6, g7⟩ := partsA_ok (d := d) (len := len) ps hok1 (els := st els i (mkV (s.env x) cs)) (cells := (a.eval x).cells.zipIdx.foldl (fun cs (c, j) => cs.setIfInBounds (i * ei.size + j) c) cells)
      (by rw [st_length]; exact h1) (by rw [hcl]; exact h2) (fun i' y hy => by
        have hget : ∀ k, ((a.eval x).cells.zipIdx.foldl (fun cs (c, j) => cs.setIfInBounds (i * ei.size + j) c) cells)[k]? = if i * ei.size ≤ k ∧ k < i * ei.size + ei.size then (a.eval x).cells.toList[k - i * ei.size]? else cells[k]? := fun k => by
          rw [← Array.getElem?_toList, hfold, hset, ← List.append_assoc, splice_get _ _ _ _ (by simp; omega)]
          simp only [Array.length_toList, hlen, Array.getElem?_toList]
        rw [st_get] at hy
        by_cases hii : i' = i
        · subst hii
          simp only [if_true] at hy
          split at hy
          · cases hy
            rw [hcm]
            refine ⟨hlen1, fun j z hz => ?_⟩
            obtain ⟨c, k1, k2⟩ := hcs j z hz
            have hj : j < ei.size := by rw [← hlen1]; exact (List.getElem?_eq_some_iff.1 hz).1
            refine ⟨c, ?_, by simpa using k2⟩
            rw [hget, if_pos ⟨by omega, by omega⟩, show i' * ei.size + j - i' * ei.size = j by omega]
            simpa using k1
          · cases hy
        · rw [if_neg hii] at hy
          obtain ⟨k1, k2⟩ := hr1 i' y hy
          refine ⟨k1, fun j z hz => ?_⟩
          obtain ⟨c, k4, k5⟩ := k2 j z hz
          have hj : j < ei.size := by rw [← k1]; exact (List.getElem?_eq_some_iff.1 hz).1
          refine ⟨c, ?_, k5⟩
          rw [hget, if_neg, k4]
          rintro ⟨m1, m2⟩
          rcases Nat.lt_or_gt_of_ne hii with hlt | hlt
          · have := Nat.mul_le_mul_right ei.size (show i' + 1 ≤ i from hlt)
            rw [Nat.add_mul, Nat.one_mul] at this
            omega
          · have := Nat.mul_le_mul_right ei.size (show i + 1 ≤ i' from hlt)
            rw [Nat.add_mul, Nat.one_mul] at this
            omega) hk1
    refine ⟨ys, cells', s', E', ?_, g2, g3, g4, by rw [g5, e1], g6, g7⟩
    rw [List.map_cons]
    unfold Instr.fill
    simp only []
    rw [if_neg]
    · exact g1
    · simp only [Bool.or_eq_true, decide_eq_true_eq, not_or]
      exact ⟨fun hh => hh hlen, by omega⟩

variable (hL : LOk P L) {s : AS} {E : Env} (h : Ok F s a E) {o : Oper} {next : Act → World → Prop} {Q : Exit → Act → World → Prop} {K : AS → Prop}
  (hn : ∀ a' w', Sat F K a' w' → next a' w')
include hL h hn
theorem sound_bsA {t len : Nat} {ps : Array (Nat × Operand)} (ho : o.op = .buildSlice t len ps) (hk : bsA L t len ps.toList o.dst s K) : o.wp P a E.w next Q := by
  unfold bsA at hk
  split at hk
  · rename_i d e _ _ _ _ hd ht
    split at hk
    · rename_i ei he
      obtain ⟨hc, hk⟩ := ifK_inv hk
      simp only [Bool.and_eq_true] at hc
      obtain ⟨hz0, hsz⟩ := hc
      have hsz := Nat.le_of_ble_eq_true hsz
      have hti := hL t _ ht
      have hei := hL e _ he
      obtain ⟨i, hi, hs, hb, z, hz1, hz2⟩ := hei.info
      have hmade : RowA E d ei.size (List.replicate len (zeroOf ei)) (madeCells z.cells (len * ei.size)) := fun i' x hx => by
        obtain ⟨k1, k2⟩ := made_row (E := E) hz0 hz2 hei.zlen hei.plain (Nat.le_refl len) i' x hx
        refine ⟨k1, fun j y hy => ?_⟩
        obtain ⟨k3, c, k4, k5⟩ := k2 j y hy
        exact ⟨c, k4, k5.flat k3 _⟩
      obtain ⟨ys, cells', s', E', g1, g2, g3, g4, g5, g6, g7⟩ := partsA_ok (d := d) (len := len) ps.toList h (els := List.replicate len (zeroOf ei)) (cells := madeCells z.cells (len * ei.size)) (by simp) (by rw [size_madeCells]) hmade hk
      obtain ⟨d', hd', hg, nr1, nr2, hk⟩ := newRowK_inv g7
      cases hd'
      have hps : (ps.map fun (i, x) => (i, a.eval x)).toList = ps.toList.map fun p => (p.1, a.eval p.2) := by simp
      have hrun := run_bs (P := P) (w := E.w) hti.desc hi hz1 (by rw [hs]; exact hsz) (parts := ps.map fun (i, x) => (i, a.eval x)) (cells' := cells') (by rw [hs, hps]; exact g1)
      have hex : (execOp a.eval o).run P E.w = .ok (.value (.slice (some ⟨E.w.heap.size, 0, none⟩) len len)) (E.w.alloc (.cells cells' e)) := by
        unfold execOp
        simp only [ho, Sem.run_bind, hrun, Result.andThen_ok, Sem.run_pure]
      rw [← g5] at hex
      have hnew := g6.new hg nr1 nr2 (ob := ⟨ei.size, false, some false, ys⟩) (arr := cells') (e := e) (cap := len) (by simp) g3 (by simp; omega) (fun i' y hy => by
        obtain ⟨k1, k2⟩ := g4 i' y hy
        refine ⟨k1, fun j w hw => ?_⟩
        obtain ⟨c, k4, k5⟩ := k2 j w hw
        refine ⟨c, k4, ?_⟩
        simp only [RC, cond_false]
        have hgoes : E'.Goes (· = d) (E'.new d ⟨ei.size, false, some false, ys⟩ (.cells cells' e)) := Env.goes_new
        exact k5.move hgoes.size hgoes.world hgoes.root (fun _ => ⟨rfl, fun b τ hb hτ => by simp only [Env.new]; rw [if_neg (by omega)]; exact hτ⟩))
      rw [← g5]
      refine wp_value hex (hn _ _ ⟨_, _, rfl, hnew.put o.dst (x := .row d) (c := .slice (some ⟨E'.w.heap.size, 0, none⟩) len len) ?_, ?_⟩)
      · simp only [RT, Env.row]
        refine ⟨rfl, fun ob' ho' => ?_⟩
        simp only [Env.new] at ho'
        rw [getO_setO, if_pos rfl] at ho'; cases ho'
        refine ⟨rfl, .inr ⟨E'.w.heap.size, len, by simp [Env.new], ⟨cells', e, ?_, g3⟩, by rw [g2]⟩⟩
        show (E'.w.heap.push _)[E'.w.heap.size]? = _
        simp
      · rw [hd]; exact hk
    · exact hk.elim
  · exact hk.elim
end
end Go.Eng
/- Operations of a region in the text's order, with the proof's own steps between. -/
namespace Go.Eng
open Go.RowKit
set_option linter.unusedSimpArgs false
set_option linter.unusedVariables false
set_option linter.unusedSectionVars false

def opX (P : Program) (L : Lay) (o : Oper) (s : AS) (K : AS → Prop) : Prop := match o.op with
  | .buildSlice t len ps => bsA L t len ps.toList o.dst s K
  | .call c => (match c.callee with
    | .value (.func f) => ∃ base, callIK P f (view.viewL (getO s.objs) (envL s.env c.args.toList)) base o.dst s K
    | _ => False)
  | _ => False
@[irreducible] def opG (P : Program) (L : Lay) (o : Oper) (s : AS) (K : AS → Prop) : Prop := ∃ s1, Gh s s1 ∧ (opS P L o s1 K ∨ opX P L o s1 K)
theorem opG_of {P : Program} {L : Lay} {o : Oper} {s : AS} {K : AS → Prop} (h : opS P L o s K) : opG P L o s K := by unfold opG; exact ⟨s, .refl s, .inl h⟩
theorem opG_x {P : Program} {L : Lay} {o : Oper} {s : AS} {K : AS → Prop} (h : opX P L o s K) : opG P L o s K := by unfold opG; exact ⟨s, .refl s, .inr h⟩
theorem opG_gh {P : Program} {L : Lay} {o : Oper} {s s1 : AS} {K : AS → Prop} (g : Gh s s1) (h : opG P L o s1 K) : opG P L o s K := by
  unfold opG at *
  obtain ⟨s2, g2, h⟩ := h
  refine ⟨s2, ?_, h⟩
  have tr : ∀ {s s1 s2 : AS}, Gh s s1 → Gh s1 s2 → Gh s s2 := by
    intro s s1 s2 g1
    induction g1 with
    | refl s => exact fun g => g
    | frz o B h1 h2 _ ih => exact fun g => .frz o B h1 h2 (ih g)
    | ren o o' B h1 h2 h3 _ ih => exact fun g => .ren o o' B h1 h2 h3 (ih g)
    | kil o _ ih => exact fun g => .kil o (ih g)
    | fits h1 _ ih => exact fun g => .fits h1 (ih g)
  exact tr g g2

theorem opG_sound {P : Program} {L : Lay} (hL : LOk P L) {F : Frm} (hG : ∀ w, Kept F.Sh F.w0 w → GoodW P w) {s : AS} {a : Act} {E : Env} (h : Ok F s a E) {o : Oper} {next : Act → World → Prop} {Q : Exit → Act → World → Prop} {K : AS → Prop}
    (hn : ∀ a' w', Sat F K a' w' → next a' w') (hk : opG P L o s K) : o.wp P a E.w next Q := by
  unfold opG at hk
  obtain ⟨s1, g, hk⟩ := hk
  obtain ⟨E', e, h'⟩ := g.ok h
  rw [← e]
  rcases hk with hk | hk
  · exact opS_sound hL hG h' hn hk
  · unfold opX at hk
    split at hk
    · exact sound_bsA hL h' hn ‹_› hk
    · split at hk
      · rename_i f hf
        obtain ⟨base, hk⟩ := hk
        exact sound_callI h' hn hG ‹_› hf hk
      · exact hk.elim
    · exact hk.elim

def opsG (P : Program) (L : Lay) (all : List Oper) : List Oper → AS → (AS → Prop) → Prop
  | [], s, K => K s
  | o :: os, s, K => match o.guard with
    | none => opG P L o s fun s' => opsG P L all os s' K
    | some (j, want) => (match dstOf all j with
      | some d => (match gv want (lk s.tmps d) with
        | some b => ifK b (fun _ => opG P L o s fun s' => opsG P L all os s' K) (fun _ => opsG P L all os (s.put o.dst (.tup [])) K)
        | none => False)
      | none => False)

theorem opsG_sound {P : Program} {L : Lay} (hL : LOk P L) {F : Frm} (hG : ∀ w, Kept F.Sh F.w0 w → GoodW P w) {ops : Array Oper} {Q : Exit → Act → World → Prop} {K : AS → Prop} (hn : ∀ a' w', Sat F K a' w' → Q .normal a' w') :
    ∀ (os : List Oper) (k : Nat), ops.toList.drop k = os → ∀ {s : AS} {a : Act} {E : Env}, Ok F s a E → opsG P L ops.toList os s K → wpOps P ops Q (List.range' k os.length) a E.w
  | [], k, _, s, a, E, h, hk => by
    simp only [List.length_nil, List.range'_zero, wpOps]
    exact hn _ _ ⟨s, E, rfl, h, hk⟩
  | o :: os, k, hd, s, a, E, h, hk => by
    have ho : ops[k]? = some o := by
      have := congrArg (fun l => l[0]?) hd
      simpa [List.getElem?_drop] using this
    have hd' : ops.toList.drop (k + 1) = os := by
      have := congrArg List.tail hd
      simpa [List.tail_drop] using this
    simp only [List.length_cons, List.range'_succ, wpOps, ho]
    simp only [opsG] at hk
    have run : opG P L o s (fun s' => opsG P L ops.toList os s' K) → o.wp P a E.w (wpOps P ops Q (List.range' (k + 1) os.length)) Q := fun hk =>
      opG_sound hL hG h (fun a' w' ⟨s', E', e1, e2, e3⟩ => by rw [← e1]; exact opsG_sound hL hG hn os (k + 1) hd' e2 e3) hk
    have skip : opsG P L ops.toList os (s.put o.dst (.tup [])) K → wpOps P ops Q (List.range' (k + 1) os.length) (a.put o.dst undef) E.w := fun hk =>
      opsG_sound hL hG hn os (k + 1) hd' (h.put o.dst (x := .tup []) (c := undef) (by simp only [RT]; exact ⟨[], rfl, by simp [RTL]⟩)) hk
    split at hk
    · rename_i hg
      have : Region.wanted o (yielded ops a.tmps) = true := by simp [Region.wanted, hg]
      rw [if_pos this]
      exact .inl (run hk)
    · rename_i j want hg
      split at hk
      · rename_i d hdd
        split at hk
        · rename_i b hb
          have hw := wanted_of h hg hdd hb
          cases b <;> simp only [ifK] at hk
          · rw [if_neg (by rw [hw]; decide)]; exact skip hk
          · rw [if_pos hw]; exact .inl (run hk)
        · exact hk.elim
      · exact hk.elim

end Go.Eng
/- A map that is written out. -/
namespace Go.Eng
open Go.RowKit
set_option linter.unusedSimpArgs false
set_option linter.unusedVariables false
set_option linter.unusedSectionVars false
set_option maxRecDepth 100000

/-- The first n operations insert into the map in slot d. -/
def insL (t d : Nat) : Nat → List Oper → Option (List (ByteArray × Value))
  | 0, _ => some []
  | _ + 1, [] => none
  | n + 1, o :: os => match o.op, o.guard, o.dst with
    | .insert t' (.tmp m) (.const (.string b)) (.const v), none, none => bif Nat.beq t' t && (Nat.beq m d && plain v) then (insL t d n os).map ((b, v) :: ·) else none
    | _, _, _ => none
def keysB : List (ByteArray × Value) → Bool
  | [] => true
  | (k, _) :: l => l.all (fun e => !(e.1.data.toList == k.data.toList)) && keysB l
/-- The first n + 1 operations make a map of these entries, in slot d. -/
def mapLit (L : Lay) (n : Nat) : List Oper → Option (Nat × List (ByteArray × Value))
  | [] => none
  | o :: os => match o.op, o.guard, o.dst with
    | .makeMap t none, none, some d => (match lkT L t with
      | some ⟨.map kt _, _, _, _, _⟩ => (match lkT L kt with
        | some ⟨.str, _, _, _, _⟩ => (match insL t d n os with
          | some es => bif keysB es then some (d, es) else none
          | none => none)
        | _ => none)
      | _ => none)
    | _, _, _ => none
def litS (L : Lay) (ops : List Oper) (s : AS) (K : AS → List Oper → Prop) : Prop :=
  ∃ n d es, mapLit L n ops = some (d, es) ∧ Nat.ble (d + 1) s.tmps.length = true ∧ K (s.put (some d) (.mp es)) (ops.drop (n + 1))

theorem keysB_inv : ∀ {l : List (ByteArray × Value)}, keysB l = true → l.Pairwise fun x y => y.1 ≠ x.1
  | [], _ => .nil
  | (k, v) :: l, h => by
    simp only [keysB, Bool.and_eq_true, List.all_eq_true, Bool.not_eq_true', beq_eq_false_iff_ne] at h
    refine .cons (fun e he hh => h.1 e he (by rw [hh])) (keysB_inv h.2)

structure MapAt (w : World) (b : Nat) (es : List (ByteArray × Value)) (w' : World) : Prop where
  os : w'.os = w.os
  tape : w'.tape = w.tape
  output : w'.output = w.output
  size : w'.heap.size = w.heap.size + 1
  isNew : b = w.heap.size
  old : ∀ k, k < b → w'.heap[k]? = w.heap[k]?
  ents : ∃ ents n, w'.heap[b]? = some (.map ents n) ∧ ents.toList.map (fun e => (e.key, e.val)) = es.map (fun e => (Value.string e.1, e.2))

theorem insL_sound {P : Program} {ops : Array Oper} {Q : Exit → Act → World → Prop} {t d kt et : Nat} {w : World} {b : Nat} {a : Act} (hut : P.underlying t = some (.map kt et)) (huk : P.underlying kt = some .string) (ha : a.eval (.tmp d) = .map (some b)) :
    ∀ (n k : Nat) (os : List Oper) (es0 es : List (ByteArray × Value)) (w' : World), ops.toList.drop k = os → insL t d n os = some es → (es0 ++ es).Pairwise (fun x y => y.1 ≠ x.1) → MapAt w b es0 w' →
      (∀ w', MapAt w b (es0 ++ es) w' → wpOps P ops Q (List.range' (k + n) (os.length - n)) a w') → (∀ e ∈ es, plain e.2 = true) → wpOps P ops Q (List.range' k os.length) a w'
  | 0, k, os, es0, es, w', hd, hi, hp, hm, hk, hpl => by
    simp only [insL, Option.some.injEq] at hi
    subst hi
    have := hk w' (by simpa using hm)
    simpa using this
  | n + 1, k, [], es0, es, w', hd, hi, hp, hm, hk, hpl => by simp [insL] at hi
  | n + 1, k, o :: os, es0, es, w', hd, hi, hp, hm, hk, hpl => by
    have ho : ops[k]? = some o := by
      have := congrArg (fun l => l[0]?) hd
      simpa [List.getElem?_drop] using this
    have hd' : ops.toList.drop (k + 1) = os := by
      have := congrArg List.tail hd
      simpa [List.tail_drop] using this
    simp only [insL] at hi
    split at hi
    · rename_i t' m kb v hop hg hdst
      cases hc : Nat.beq t' t && (Nat.beq m d && plain v) with
      | false => rw [hc] at hi; simp at hi
      | true =>
        rw [hc] at hi
        simp only [cond_true, Option.map_eq_some_iff] at hi
        obtain ⟨es', hi, rfl⟩ := hi
        simp only [Bool.and_eq_true, natbeq, beq_iff_eq] at hc
        obtain ⟨rfl, rfl, hpv⟩ := hc
        simp only [List.length_cons, List.range'_succ, wpOps, ho]
        have hw : Region.wanted o (yielded ops a.tmps) = true := by simp [Region.wanted, hg]
        rw [if_pos hw]
        refine .inl ?_
        obtain ⟨ents, c, g1, g2⟩ := hm.ents
        have hnk : ∀ e ∈ es0, kb ≠ e.1 := by
          intro e he
          have := (List.pairwise_append.1 hp).2.2 e he (kb, v) (by simp)
          exact this
        have hnone : ∀ (l : List MapEntry) (es : List (ByteArray × Value)) (i : Nat), l.map (fun e => (e.key, e.val)) = es.map (fun e => (Value.string e.1, e.2)) → (∀ e ∈ es, kb ≠ e.1) → Instr.findNow .string (.string kb) l i = some none := by
          intro l
          induction l with
          | nil => intro es i _ _; rfl
          | cons e l ih =>
            intro es i h hne
            cases es with
            | nil => simp at h
            | cons e' es =>
              simp only [List.map_cons, List.cons.injEq, Prod.mk.injEq] at h
              unfold Instr.findNow
              obtain ⟨r, hr, hiff⟩ := str_same kb e'.1
              have : r = false := by
                cases r with
                | true => exact absurd (hiff.1 rfl) (hne e' (by simp))
                | false => rfl
              subst this
              simp only [h.1.1, hr]
              exact ih es (i + 1) h.2 (fun x hx => hne x (by simp [hx]))
        have hf := hnone ents.toList es0 0 g2 hnk
        have hset := MapKept.heap_set (o' := .map (ents.push { key := .string kb, val := v, born := c }) (c + 1)) g1
        have hrun : (execOp a.eval o).run P w' = .ok .skip { w' with heap := w'.heap.setIfInBounds b (.map (ents.push { key := .string kb, val := v, born := c }) (c + 1)) } := by
          have e1 : a.eval (.const (.string kb)) = .string kb := rfl
          have e2 : a.eval (.const v) = v := rfl
          unfold execOp
          simp [hop, ha, e1, e2, Instr.mapUpdate, run_underlying hut, MapKept.run_getObj_map g1, MapKept.run_checkKey huk (k := .string kb) (by simp [MapKept.IsKey]), MapKept.run_findKey huk hf, MapKept.run_setObj_map _ g1, Result.andThen]
        refine wp_skip' hrun ?_
        have hput : a.put o.dst undef = a := by rw [hdst]; rfl
        rw [hput]
        refine insL_sound (w := w) hut huk ha n (k + 1) os (es0 ++ [(kb, v)]) es' _ hd' hi (by simpa using hp) ?_ (fun w'' hm'' => ?_) (fun e he => hpl e (by simp [he]))
        · refine ⟨hm.os, hm.tape, hm.output, by simpa using hm.size, hm.isNew, fun j hj => ?_, ents.push { key := .string kb, val := v, born := c }, c + 1, hset.1, by simp [g2]⟩
          exact (hset.2 j (by omega)).trans (hm.old j hj)
        · have := hk w'' (by simpa using hm'')
          simpa [Nat.add_assoc, Nat.add_comm 1 n] using this
    · cases hi

theorem insL_plain {t d : Nat} : ∀ {n : Nat} {os : List Oper} {es : List (ByteArray × Value)}, insL t d n os = some es → ∀ e ∈ es, plain e.2 = true
  | 0, os, es, h => by simp only [insL, Option.some.injEq] at h; subst h; simp
  | n + 1, [], es, h => by simp [insL] at h
  | n + 1, o :: os, es, h => by
    simp only [insL] at h
    split at h
    · rename_i t' m kb v _ _ _
      cases hc : Nat.beq t' t && (Nat.beq m d && plain v) with
      | false => rw [hc] at h; simp at h
      | true =>
        rw [hc] at h
        simp only [cond_true, Option.map_eq_some_iff] at h
        obtain ⟨es', h, rfl⟩ := h
        simp only [Bool.and_eq_true] at hc
        intro e he
        rcases List.mem_cons.1 he with rfl | he
        · exact hc.2.2
        · exact insL_plain h e he
    · cases h

theorem litS_sound {P : Program} {L : Lay} (hL : LOk P L) {F : Frm} (hG : ∀ w, Kept F.Sh F.w0 w → GoodW P w) {ops : Array Oper} {Q : Exit → Act → World → Prop} {K : AS → Prop} (hn : ∀ a' w', Sat F K a' w' → Q .normal a' w')
    {s : AS} {a : Act} {E : Env} (h : Ok F s a E) (hk : litS L ops.toList s fun s' rest => opsG P L ops.toList rest s' K) : wpOps P ops Q (List.range' 0 ops.toList.length) a E.w := by
  obtain ⟨n, d, es, h1, h2, hk⟩ := hk
  cases hos : ops.toList with
  | nil => rw [hos] at h1; simp [mapLit] at h1
  | cons o os =>
    rw [hos] at h1
    simp only [mapLit] at h1
    split at h1
    · rename_i t d' hop hg hdst
      split at h1
      · rename_i kt et _ _ _ _ ht
        split at h1
        · rename_i hkt
          split at h1
          · rename_i es' hi
            cases hkb : keysB es' with
            | false => rw [hkb] at h1; simp at h1
            | true =>
              rw [hkb] at h1
              simp only [cond_true, Option.some.injEq, Prod.mk.injEq] at h1
              obtain ⟨rfl, rfl⟩ := h1
              have hut : P.underlying t = some (.map kt et) := (hL t _ ht).desc
              have huk : P.underlying kt = some .string := (hL kt _ hkt).desc
              have ho : ops[0]? = some o := by
                have := congrArg (fun l => l[0]?) hos
                simpa using this
              have hd' : ops.toList.drop 1 = os := by rw [hos]; rfl
              simp only [List.length_cons, List.range'_succ, wpOps, ho]
              have hw : Region.wanted o (yielded ops a.tmps) = true := by simp [Region.wanted, hg]
              rw [if_pos hw]
              refine .inl ?_
              have hrun : (execOp a.eval o).run P E.w = .ok (.value (.map (some E.w.heap.size))) (E.w.alloc (.map #[] 0)) := by
                unfold execOp
                simp [hop, Instr.makeMap, Result.andThen]
              refine wp_value hrun ?_
              have hsz : d' < a.tmps.size := by
                have := h.tmps.length
                have h2 := Nat.le_of_ble_eq_true h2
                simp only [Array.length_toList] at this
                exact Nat.lt_of_lt_of_eq h2 this
              have hev : (a.put o.dst (.map (some E.w.heap.size))).eval (.tmp d') = .map (some E.w.heap.size) := by
                rw [hdst]
                simp [Act.put, Act.eval, hsz]
              have halloc := MapKept.heap_alloc E.w (.map #[] 0)
              refine insL_sound (w := E.w) (b := E.w.heap.size) (es0 := []) hut huk hev n 1 os es' _ hd' hi (by simpa using keysB_inv hkb) ⟨rfl, rfl, rfl, by show (E.w.heap.push _).size = _; simp, rfl, fun k hk => halloc.2 k hk, #[], 0, halloc.1, rfl⟩ (fun w' hm => ?_) (insL_plain hi)
              have hbelow : Below E.w.heap.size E.w w' := ⟨hm.os, hm.tape, hm.output, by rw [hm.size]; omega, fun k hk => hm.old k hk⟩
              have hok := (h.grow hbelow).put (some d') (x := .mp es') (c := .map (some E.w.heap.size)) (by
                simp only [RT]
                obtain ⟨ents, c, g1, g2⟩ := hm.ents
                refine ⟨_, ents, c, rfl, g1, by simpa using g2, ?_, insL_plain hi⟩
                rintro ⟨o', ho'⟩
                have := (h.labs E.w.heap.size (by rw [ho']; simp)).2
                omega)
              rw [hdst]
              have := opsG_sound hL hG (Q := Q) (ops := ops) (K := K) hn (ops.toList.drop (n + 1)) (n + 1) rfl hok (by rw [hos] at hk ⊢; exact hk)
              have e : (ops.toList.drop (n + 1)).length = os.length - n := by rw [hos]; simp
              rw [e, Nat.add_comm n 1] at this
              exact this
          · cases h1
        · cases h1
      · cases h1
    · cases h1
end Go.Eng
/- Code. -/
namespace Go.Eng
open Go.RowKit
set_option linter.unusedSimpArgs false
set_option linter.unusedVariables false
set_option linter.unusedSectionVars false

inductive XE where
  | normal | ret
  | exit (id : Nat)

/-- A loop: a family of states, one of which stands at each round's head. -/
@[irreducible] def loopK (body : AS → (XE → AS → Prop) → Prop) (s : AS) (K : XE → AS → Prop) : Prop :=
  ∃ (ι : Type) (p : ι → Prop) (S : ι → AS) (μ : ι → Nat) (i : ι), p i ∧ Gh s (S i) ∧
    ∀ i, p i → body (S i) fun e s' => match e with
      | .normal => ∃ j, p j ∧ μ j < μ i ∧ Gh s' (S j)
      | e => K e s'

theorem loopK_of {body : AS → (XE → AS → Prop) → Prop} {s : AS} {K : XE → AS → Prop} {ι : Type} (p : ι → Prop) (S : ι → AS) (μ : ι → Nat) (i : ι) (hi : p i) (hf : Gh s (S i))
    (h : ∀ i, p i → body (S i) fun e s' => match e with
      | .normal => ∃ j, p j ∧ μ j < μ i ∧ Gh s' (S j)
      | e => K e s') : loopK body s K := by
  unfold loopK; exact ⟨ι, p, S, μ, i, hi, hf, h⟩

def codeS (P : Program) (L : Lay) : Code → AS → (XE → AS → Prop) → Prop
  | .skip, s, K => K .normal s
  | .region _ ops false, s, K => opsG P L ops.toList ops.toList s (K .normal) ∨ litS L ops.toList s fun s' rest => opsG P L ops.toList rest s' (K .normal)
  | .region _ ops true, s, K => P.follows .mixedOrders = true ∧ ∃ perm : List Nat, drawOk ops perm = true ∧ sideB s.tmps (allD (pickL ops.toList perm)) (newD (pickL ops.toList perm)) = true ∧ opsS P L ops.toList (pickL ops.toList perm) s (K .normal)
  | .seq x y, s, K => codeS P L x s fun e s' => match e with
    | .normal => codeS P L y s' K
    | .ret => K .ret s'
    | .exit i => K (.exit i) s'
  | .cond c x y, s, K => (match s.env c with
    | .v (.bool t) => ifK t (fun _ => codeS P L x s K) (fun _ => codeS P L y s K)
    | _ => False)
  | .block id c, s, K => codeS P L c s fun e s' => match e with
    | .normal => K .normal s'
    | .ret => K .ret s'
    | .exit i => ifK ((i == id)) (fun _ => K .normal s') (fun _ => K (.exit i) s')
  | .loop c, s, K => loopK (codeS P L c) s K
  | .exit id, s, K => K (.exit id) s
  | .ret, s, K => K .ret s
  | _, _, _ => False

def XE.of : XE → Exit
  | .normal => .normal
  | .ret => .ret
  | .exit i => .exit i

theorem wp_loop_ghost {P : Program} {c : Code} {Q : Exit → Act → World → Prop} {ι : Type} (I : ι → Act → World → Prop) (μ : ι → Nat) {a : Act} {w : World} (i : ι) (h0 : I i a w)
    (round : ∀ i a w, I i a w → c.wp P (Exit.then (fun a' w' => ∃ j, I j a' w' ∧ μ j < μ i) Q) a w) : (Code.loop c).wp P Q a w := by
  intro b k cs
  have key : ∀ n i a w, μ i = n → I i a w →
      ∃ e a' w', Q e a' w' ∧ Arrives P (lone (b.at a (.code c :: .inLoop c :: k)) cs w) b k cs e a' w' := by
    intro n
    induction n using Nat.strongRecOn with
    | _ n ih =>
      intro i a w hn hI
      obtain ⟨e, a₁, w₁, hq, harr⟩ := round i a w hI b (.inLoop c :: k) cs
      cases e with
      | normal =>
        obtain ⟨j, hI₁, hlt⟩ := hq
        obtain ⟨e₂, a₂, w₂, hq₂, harr₂⟩ := ih (μ j) (hn ▸ hlt) j a₁ w₁ rfl hI₁
        exact ⟨e₂, a₂, w₂, hq₂, .of_steps (Steps.trans harr (.one step_inLoop)) harr₂⟩
      | exit id => exact ⟨_, a₁, w₁, hq, .pass (x := .inLoop c) rfl (fun _ _ => .inl (by simp)) harr⟩
      | goto l => exact ⟨_, a₁, w₁, hq, .pass (x := .inLoop c) rfl (fun _ _ => .inl (by simp)) harr⟩
      | ret => exact ⟨_, a₁, w₁, hq, .pass (x := .inLoop c) rfl (fun _ _ => .inl (by simp)) harr⟩
      | panic ch => exact ⟨_, a₁, w₁, hq, .pass (x := .inLoop c) rfl (fun _ _ => .inl (by simp)) harr⟩
      | outgrown => exact ⟨_, a₁, w₁, hq, .pass (x := .inLoop c) rfl (fun _ _ => .inl (by simp)) harr⟩
  obtain ⟨e, a', w', hq, harr⟩ := key _ i a w rfl h0
  exact ⟨e, a', w', hq, .of_steps (.one step_loop) harr⟩

theorem codeS_sound {P : Program} {L : Lay} (hL : LOk P L) {F : Frm} (hG : ∀ w, Kept F.Sh F.w0 w → GoodW P w) : ∀ (c : Code) {s : AS} {a : Act} {E : Env} {Q : Exit → Act → World → Prop} {K : XE → AS → Prop}, Ok F s a E → codeS P L c s K →
    (∀ e a' w', Sat F (K e) a' w' → Q e.of a' w') → c.wp P Q a E.w
  | .skip, s, a, E, Q, K, h, hk, hq => wp_skip (hq .normal _ _ ⟨s, E, rfl, h, hk⟩)
  | .region id ops false, s, a, E, Q, K, h, hk, hq => by
    simp only [codeS] at hk
    have := hk.elim (opsG_sound hL hG (Q := Q) (hq .normal) ops.toList 0 rfl h) (litS_sound hL hG (Q := Q) (hq .normal) h)
    refine wp_region ?_
    rw [List.range_eq_range']
    simpa using this
  | .seq x y, s, a, E, Q, K, h, hk, hq => by
    refine wp_seq (codeS_sound hL hG x h (by simpa only [codeS] using hk) (fun e a' w' hs => ?_))
    obtain ⟨s', E', rfl, h', hk'⟩ := hs
    cases e with
    | normal => exact codeS_sound hL hG y h' hk' hq
    | ret => exact hq .ret _ _ ⟨s', E', rfl, h', hk'⟩
    | exit i => exact hq (.exit i) _ _ ⟨s', E', rfl, h', hk'⟩
  | .cond c x y, s, a, E, Q, K, h, hk, hq => by
    simp only [codeS] at hk
    have hc := h.env c
    split at hk
    · rename_i t ht
      rw [ht] at hc
      cases t with
      | true => exact wp_cond_true hc.bool_inv (codeS_sound hL hG x h (by simpa only [ifK] using hk) hq)
      | false => exact wp_cond_false hc.bool_inv (codeS_sound hL hG y h (by simpa only [ifK] using hk) hq)
    · exact hk.elim
  | .block id c, s, a, E, Q, K, h, hk, hq => by
    refine wp_block (codeS_sound hL hG c h (by simpa only [codeS] using hk) (fun e a' w' hs => ?_))
    obtain ⟨s', E', rfl, h', hk'⟩ := hs
    cases e with
    | normal => exact hq .normal _ _ ⟨s', E', rfl, h', hk'⟩
    | ret => exact hq .ret _ _ ⟨s', E', rfl, h', hk'⟩
    | exit i =>
      simp only [XE.of, Exit.inBlock]
      by_cases hi : i = id
      · subst hi
        simp only [if_true]
        refine hq .normal _ _ ⟨s', E', rfl, h', ?_⟩
        simpa [nb, ifK] using hk'
      · rw [if_neg hi]
        refine hq (.exit i) _ _ ⟨s', E', rfl, h', ?_⟩
        simpa [nb, hi, ifK] using hk'
  | .loop c, s, a, E, Q, K, h, hk, hq => by
    simp only [codeS] at hk
    unfold loopK at hk
    obtain ⟨ι, p, S, μ, i, hp, hf, hround⟩ := hk
    obtain ⟨E0, e0, h0⟩ := hf.ok h
    refine wp_loop_ghost (fun i a w => p i ∧ ∃ E, E.w = w ∧ Ok F (S i) a E) μ i ⟨hp, E0, e0, h0⟩ (fun i a w hI => ?_)
    obtain ⟨hp, E₁, rfl, h₁⟩ := hI
    refine codeS_sound hL hG c h₁ (hround i hp) (fun e a' w' hs => ?_)
    obtain ⟨s', E', rfl, h', hk'⟩ := hs
    cases e with
    | normal =>
      obtain ⟨j, g1, g2, g3⟩ := hk'
      obtain ⟨E2, e2, h2⟩ := g3.ok h'
      exact ⟨j, ⟨g1, E2, e2, h2⟩, g2⟩
    | ret => exact hq .ret _ _ ⟨s', E', rfl, h', hk'⟩
    | exit i => exact hq (.exit i) _ _ ⟨s', E', rfl, h', hk'⟩
  | .exit id, s, a, E, Q, K, h, hk, hq => wp_exit (hq (.exit id) _ _ ⟨s, E, rfl, h, hk⟩)
  | .ret, s, a, E, Q, K, h, hk, hq => wp_ret (hq .ret _ _ ⟨s, E, rfl, h, hk⟩)
  | .region id ops true, s, a, E, Q, K, h, hk, hq => by
    simp only [codeS] at hk
    obtain ⟨hM, perm, h1, h2, h3⟩ := hk
    exact wp_draw hL hM hG h1 (hq .normal) h h2 h3
  | .rangeFunc .., s, a, E, Q, K, h, hk, hq => by simp [codeS] at hk
  | .scope .., s, a, E, Q, K, h, hk, hq => by simp [codeS] at hk
  | .label .., s, a, E, Q, K, h, hk, hq => by simp [codeS] at hk
  | .goto .., s, a, E, Q, K, h, hk, hq => by simp [codeS] at hk
  | .refuse .., s, a, E, Q, K, h, hk, hq => by simp [codeS] at hk

end Go.Eng
/- From a body to the contract. -/
namespace Go.Eng
open Go.RowKit
set_option linter.unusedSimpArgs false
set_option linter.unusedVariables false
set_option linter.unusedSectionVars false

/-- All cells are plain. -/
def plainC : AV → Bool
  | .v _ => true
  | _ => false
def plainA (x : AV) : Bool := (cellsOf x).all plainC

def nlOk (a b : Option Bool) : Prop := match a with
  | none => True
  | some _ => a = b
/-- A cell x of the state may be given back as r. -/
def retC (g : Nat → Option Ob) (x r : AV) : Prop := match x, r with
  | .v u, .v u' => u = u'
  | .v (.slice none 0 0), .sl _ _ nl xs => xs = [] ∧ nl ≠ some false
  | .row o, .sl esz _ nl xs => (match g o with
    | some B => B.box = false ∧ B.esz = esz ∧ 1 ≤ B.esz ∧ B.els = xs ∧ nlOk nl B.nl ∧ ownC.ownL B.els
    | none => False)
  | .osl o lo n, .sl esz _ nl xs => (match g o with
    | some B => B.box = false ∧ B.esz = esz ∧ 1 ≤ B.esz ∧ lo = 0 ∧ B.els.take n = xs ∧ nl = none ∧ ownC.ownL B.els
    | none => False)
  | _, _ => False
def retCs (g : Nat → Option Ob) : List AV → List AV → Prop
  | [], [] => True
  | x :: xs, r :: rs => retC g x r ∧ retCs g xs rs
  | _, _ => False
def retV (g : Nat → Option Ob) (x r : AV) : Prop := match r with
  | .agg rs => (match x with
    | .agg xs => retCs g xs rs
    | _ => False)
  | r => retC g x r
/-- The rows among cells, with their places. -/
def plC (m : Nat) : Nat → List AV → List (Nat × List Nat)
  | _, [] => []
  | k, x :: xs => match x with
    | .row o => (o, [k, m]) :: plC m (k + 1) xs
    | .osl o _ _ => (o, [k, m]) :: plC m (k + 1) xs
    | _ => plC m (k + 1) xs
def plIds : List (Nat × List Nat) → List Nat
  | [] => []
  | (o, _) :: l => o :: plIds l
/-- The value of a result variable. -/
def srcV (L : Lay) (s : AS) : ResultVar → (AV → Prop) → Prop
  | .tmp t, K => K (lk s.tmps t)
  | .cell t ty, K => match lk s.tmps t, lkT L ty with
    | .ptr ob i c, some ti => (match getO s.objs ob with
      | some B => idxK B.els i fun x => ldc ti (((cellsOf x).drop c).take ti.size) K
      | none => False)
    | _, _ => False
def retL (L : Lay) (s : AS) : Nat → List ResultVar → List AV → List (Nat × List Nat) → Prop
  | _, [], [], pl => nodupB (plIds pl) = true
  | m, t :: ts, r :: rs, pl => srcV L s t (fun x => retV (getO s.objs) x r ∧ retL L s (m + 1) ts rs (plC m 0 (cellsOf x) ++ pl))
  | _, _, _, _ => False
def retK (L : Lay) (s : AS) (ts : List ResultVar) (r : AV) : Prop := match ts with
  | [t] => retL L s 0 [t] [r] []
  | ts => match r with
    | .tup rs => retL L s 0 ts rs []
    | _ => False

/-- What stands at the end: the results. -/
def Fin (L : Lay) (ts : List ResultVar) (r : AV) (s : AS) : Prop := retK L s ts r

def srcRun (tmps : Array Value) : ResultVar → Sem Value
  | .tmp t => pure (tmps.getD t undef)
  | .cell a t => do loadVar t (← asAddr (tmps.getD a undef))

section
variable {P : Program} {L : Lay} (hL : LOk P L) {F : Frm} {s : AS} {a : Act} {E : Env} (h : Ok F s a E)
include hL h

theorem src_ok {r : ResultVar} {K : AV → Prop} (hk : srcV L s r K) : ∃ v x, (srcRun a.tmps r).run P E.w = .ok v E.w ∧ RT E x v ∧ K x := by
  cases r with
  | tmp t => exact ⟨_, _, rfl, h.tmp t, hk⟩
  | cell t ty =>
    simp only [srcV] at hk
    split at hk
    · rename_i ob i c ti hx ht
      split at hk
      · rename_i B hB
        obtain ⟨x', hx', hk⟩ := idxK_iff.1 hk
        have he := h.tmp t
        rw [hx] at he
        simp only [RT] at he
        obtain ⟨b, g2, g3⟩ := he.2 B (by rw [h.objsEq]; exact hB)
        obtain ⟨b', cs, k1, k2, k3, k4, k5, k6⟩ := (h.objs ob B hB).elem hx'
        rw [g2] at k1; cases k1
        obtain ⟨l1, l2⟩ := run_ld hL ht (rangeAt_sub k4 c ti.size)
        have hr := (k5.drop c).take ti.size
        have h1 : ∀ u ∈ (cs.drop c).take ti.size, u.oneCell' = true := fun u hu => k6 u (List.mem_of_mem_drop (List.mem_of_mem_take hu))
        have hex : ∀ v, (Instr.loadAt ty (.pointer (some ⟨b, i * B.esz + c, none⟩))).run P E.w = .ok v E.w → (srcRun a.tmps (.cell t ty)).run P E.w = .ok v E.w := fun v hv => by
          simp only [srcRun, g3]
          rw [← hv]
          simp [asAddr, Instr.loadAt, Instr.sureAddr]
        generalize ((cellsOf x').drop c).take ti.size = ys at *
        generalize (cs.drop c).take ti.size = us at *
        unfold ldc at hk
        cases ha : ti.d.agg with
        | true =>
          rw [ha] at hk
          simp only [ifK] at hk
          obtain ⟨hl, hk⟩ : (ys.length == ti.size) = true ∧ K (.agg ys) := by
            cases hl : (ys.length == ti.size) with
            | false => rw [hl] at hk; exact hk.elim
            | true => rw [hl] at hk; exact ⟨rfl, hk⟩
          exact ⟨_, .agg ys, hex _ (l1 ha (by rw [← hr.length, eq_of_beq hl])), by simp only [RT]; exact ⟨us, rfl, hr, h1⟩, hk⟩
        | false =>
          rw [ha] at hk
          simp only [ifK] at hk
          match ys, us, hr, hk, l2 with
          | [y], [u], hr, hk, l2 =>
            simp only [RTL] at hr
            exact ⟨_, y, hex _ (l2 ha u rfl), hr.1, hk⟩
          | [y], [], hr, _, _ => simp [RTL] at hr
          | [y], _ :: _ :: _, hr, _, _ => simp [RTL] at hr
      · exact hk.elim
    · exact hk.elim

end

/-- Where the rows that are given back go. -/
def plGo : List (Nat × List Nat) → List Nat → List Nat
  | [], p => p
  | (o, π) :: l, p => if p.getLast? = some o then p.dropLast ++ π else plGo l p
theorem plGo_app : ∀ {l : List (Nat × List Nat)} {o : Nat} {π : List Nat} (τ : List Nat), nodupB (plIds l) = true → (o, π) ∈ l → plGo l (τ ++ [o]) = τ ++ π
  | [], o, π, τ, _, h => by simp at h
  | (o', π') :: l, o, π, τ, hn, h => by
    simp only [plIds, nodupB, Bool.and_eq_true] at hn
    simp only [plGo]
    rcases List.mem_cons.1 h with h2 | h2
    · cases h2; simp
    · have hne : o ≠ o' := by
        rintro rfl
        refine notIn_iff.1 hn.1 ?_
        have : ∀ l : List (Nat × List Nat), plIds l = l.map (·.1) := fun l => by
          induction l with
          | nil => rfl
          | cons p l ih => obtain ⟨a, b⟩ := p; simp [plIds, ih]
        rw [this]
        exact List.mem_map.2 ⟨(o, π), h2, rfl⟩
      simp [hne]
      exact plGo_app τ hn.2 h2
/-- The labels of what is given back: of old memory nothing. -/
def retLab (n : Nat) (lab : Nat → List Nat) (pl : List (Nat × List Nat)) (b : Nat) : List Nat :=
  if b < n then [0] else if 2 ≤ (plGo pl (lab b)).length then plGo pl (lab b) else []

section
variable {P : Program} {L : Lay} {w : World} {s : AS} {a : Act} {E : Env} (h : Ok ⟨fun _ => False, w⟩ s a E)
include h

theorem retC_ok {pl : List (Nat × List Nat)} (hnd : nodupB (plIds pl) = true) {x r : AV} {c : Value} {k m : Nat} (hx : RT E x c) (hr : retC (getO s.objs) x r) (hpl : ∀ o, (x = .row o ∨ ∃ lo n, x = .osl o lo n) → (o, [k, m]) ∈ pl) :
    C0 E.w (retLab w.heap.size E.lab pl) true [k, m] r c := by
  have row : ∀ (o : Nat) (B : Ob), getO s.objs o = some B → B.box = false → 1 ≤ B.esz → ownC.ownL B.els → (o, [k, m]) ∈ pl → ∀ (n : Nat) (own : Bool) (nl : Option Bool), n ≤ B.els.length → nl ≠ some true → ∀ (b cap : Nat), E.sg o = some b → E.blk b B.esz cap →
      C0 E.w (retLab w.heap.size E.lab pl) true [k, m] (.sl B.esz own nl (B.els.take n)) (.slice (some ⟨b, 0, none⟩) n cap) := by
    intro o B hB hbox hpos hown hmem n own nl hn hnl b cap hs hbk
    rcases h.objs o B hB with ⟨k1, _⟩ | ⟨b', cap₂, arr, e, k1, k2, k3, k4, k5, k6, k7⟩
    · rw [k1] at hs; cases hs
    rw [k1] at hs; cases hs
    obtain ⟨arr', e', m1, m2⟩ := hbk
    rw [k4] at m1; cases m1
    have hcap : cap₂ = cap := by
      rw [k5] at m2
      exact Nat.eq_of_mul_eq_mul_right (by omega) m2
    subst hcap
    have hlab : ∀ b τ, E.lab b = τ ++ [o] → retLab w.heap.size E.lab pl b = τ ++ [k, m] := fun b τ hτ => by
      have hb := (h.labs b (by rw [hτ]; simp)).1
      have hnb : ¬ b < w.heap.size := by
        rcases hb with hb | hb
        · exact Nat.not_lt.2 hb
        · exact hb.elim
      have hg := plGo_app τ hnd hmem
      simp only [retLab, hnb, if_false]
      rw [hτ, hg, if_pos (by simp)]
    have hbs : b < E.w.heap.size := (Array.getElem?_eq_some_iff.1 k4).1
    have hlb := hlab b [] (by simpa using k2)
    simp only [List.nil_append] at hlb
    have hget : ∀ (i : Nat) (x : AV), (B.els.take n)[i]? = some x → i < n ∧ B.els[i]? = some x := fun i x hx => by
      have hi : i < n := by
        rcases Nat.lt_or_ge i n with h | h
        · exact h
        · simp [List.getElem?_take, Nat.not_lt.2 h] at hx
      rw [List.getElem?_take, if_pos hi] at hx
      exact ⟨hi, hx⟩
    refine .sl (fun i j => arr.getD (i * B.esz + j) undef) hnl (by simp; omega) (.inr (by omega)) (by rintro ⟨q, hq⟩; rw [hlb] at hq; cases hq) hbs (fun i x hx => (k7 _ x (hget i x hx).2).1) (fun i x j y hx hy => ?_) (fun i x j y hx hy => ?_) (fun _ _ => ⟨rfl, hlb, by omega, arr, e, k4, k5⟩)
    · obtain ⟨hi, hx'⟩ := hget i x hx
      obtain ⟨c, j1, j2⟩ := (k7 _ x hx').2 j y hy
      rw [Array.getD_eq_getD_getElem?, j1]
      simp [World.cell?, k4, j1]
    · obtain ⟨hi, hx'⟩ := hget i x hx
      obtain ⟨c, j1, j2⟩ := (k7 _ x hx').2 j y hy
      rw [Array.getD_eq_getD_getElem?, j1]
      rw [hbox] at j2
      simp only [RC, cond_false] at j2
      simp only [Option.getD_some]
      have := j2.moveOwn (w' := E.w) (lab' := retLab w.heap.size E.lab pl) (π' := [i, j, k, m]) rfl (ownC_cells (ownL_get hown i x hx') j y hy) (Nat.le_refl _) (fun b τ _ hτ => ⟨by
        have := hlab b (τ ++ [i, j]) (by simpa using hτ)
        simpa using this, rfl⟩) (by simp)
      cases own with
      | true => exact this
      | false => exact this.lend
  unfold retC at hr
  split at hr
  · subst hr
    have hx2 := hx.v_inv
    rw [hx2.1]; exact .v hx2.2
  · obtain ⟨rfl, hnl⟩ := hr
    rw [hx.v_inv.1]; exact .nil hnl
  · rename_i o esz own nl xs
    split at hr
    · rename_i B hB
      obtain ⟨h1, rfl, h2, rfl, h3, h4⟩ := hr
      simp only [RT] at hx
      obtain ⟨g2, g3⟩ := hx.2 B (by rw [h.objsEq]; exact hB)
      rcases g3 with ⟨g3, g4⟩ | ⟨b, cap, g3, g4, g5⟩
      · rcases h.objs o B hB with ⟨_, _, k3, k4⟩ | ⟨_, _, _, _, k1, _⟩
        · rw [g4, k3]
          refine .nil ?_
          cases nl with
          | none => simp
          | some b => simp only [nlOk] at h3; rw [h3]; exact k4
        · rw [k1] at g3; cases g3
      · have hnl : nl ≠ some true := by
          cases nl with
          | none => simp
          | some b =>
            simp only [nlOk] at h3
            rw [h3]
            rcases h.objs o B hB with ⟨k1, _⟩ | ⟨_, _, _, _, _, _, k3, _⟩
            · rw [k1] at g3; cases g3
            · exact k3
        have := row o B hB h1 h2 h4 (hpl o (.inl rfl)) B.els.length own nl (Nat.le_refl _) hnl b cap g3 g4
        rw [g5]
        rwa [List.take_length] at this
    · exact hr.elim
  · rename_i o lo n esz own nl xs
    split at hr
    · rename_i B hB
      obtain ⟨h1, rfl, h2, rfl, rfl, rfl, h4⟩ := hr
      simp only [RT] at hx
      obtain ⟨g2, g2', g3⟩ := hx.2 B (by rw [h.objsEq]; exact hB)
      rcases g3 with ⟨g3, g4⟩ | ⟨b, cap, f, cap', g3, g4, g5, g6⟩
      · rcases h.objs o B hB with ⟨_, _, k3, k4⟩ | ⟨_, _, _, _, k1, _⟩
        · rw [g4, k3]; simp; exact .nil (by simp)
        · rw [k1] at g3; cases g3
      · rcases g6 with ⟨g6, g7⟩ | ⟨_, _, g6⟩
        · have := row o B hB h1 h2 h4 (hpl o (.inr ⟨_, _, rfl⟩)) n own none (by omega) (by simp) b _ g3 g4
          rw [g5, g6, g7]
          simpa using this
        · omega
    · exact hr.elim
  · exact hr.elim

theorem plC_mem {m : Nat} : ∀ {k : Nat} {xs : List AV} (i : Nat) (x : AV) (o : Nat), xs[i]? = some x → (x = .row o ∨ ∃ lo n, x = .osl o lo n) → (o, [k + i, m]) ∈ plC m k xs
  | _, [], i, x, o, hx, _ => by simp at hx
  | k, y :: xs, 0, x, o, hx, hc => by
    simp at hx; subst hx
    rcases hc with rfl | ⟨lo, n, rfl⟩ <;> simp [plC]
  | k, y :: xs, i + 1, x, o, hx, hc => by
    have := plC_mem (m := m) (k := k + 1) i x o (by simpa using hx) hc
    rw [show k + 1 + i = k + (i + 1) by omega] at this
    unfold plC
    split
    · exact List.mem_cons_of_mem _ this
    · exact List.mem_cons_of_mem _ this
    · exact this

theorem retCs_ok {pl : List (Nat × List Nat)} (hnd : nodupB (plIds pl) = true) {m : Nat} : ∀ {k : Nat} {xs rs : List AV} {cs : List Value}, RTL E xs cs → retCs (getO s.objs) xs rs → (∀ (i : Nat) (x : AV) (o : Nat), xs[i]? = some x → (x = .row o ∨ ∃ lo n, x = .osl o lo n) → (o, [k + i, m]) ∈ pl) →
    RRc E.w (retLab w.heap.size E.lab pl) m k rs cs
  | k, [], [], [], _, _, _ => by simp [RRc]
  | k, x :: xs, r :: rs, c :: cs, hx, hr, hpl => by
    simp only [RTL] at hx
    simp only [retCs] at hr
    simp only [RRc]
    exact ⟨retC_ok h hnd hx.1 hr.1 (fun o ho => by simpa using hpl 0 x o rfl ho), retCs_ok hnd hx.2 hr.2 (fun i x o hx ho => by
      have := hpl (i + 1) x o (by simpa using hx) ho
      rwa [show k + (i + 1) = k + 1 + i by omega] at this)⟩
  | k, [], _ :: _, _, _, hr, _ => by simp [retCs] at hr
  | k, _ :: _, [], _, _, hr, _ => by simp [retCs] at hr
  | k, [], [], _ :: _, hx, _, _ => by simp [RTL] at hx
  | k, _ :: _, _ :: _, [], hx, _, _ => by simp [RTL] at hx

theorem retV_ok {pl : List (Nat × List Nat)} (hnd : nodupB (plIds pl) = true) {m : Nat} {x r : AV} {c : Value} (hx : RT E x c) (hr : retV (getO s.objs) x r) (hpl : ∀ p ∈ plC m 0 (cellsOf x), p ∈ pl) :
    RRv E.w (retLab w.heap.size E.lab pl) m r c := by
  have one : ∀ {r : AV}, (∀ xs, r ≠ .agg xs) → retC (getO s.objs) x r → C0 E.w (retLab w.heap.size E.lab pl) true [0, m] r c := fun _ hr => by
    refine retC_ok h hnd hx hr (fun o ho => hpl _ ?_)
    have hc : cellsOf x = [x] := by rcases ho with rfl | ⟨_, _, rfl⟩ <;> rfl
    rw [hc]
    rcases ho with rfl | ⟨_, _, rfl⟩ <;> simp [plC]
  unfold retV at hr
  split at hr
  · split at hr
    · rename_i xs
      obtain ⟨cs, rfl, h2, _⟩ := hx.agg_inv
      exact ⟨cs, rfl, retCs_ok h hnd h2 hr (fun i x o hx ho => hpl _ (by simpa [cellsOf] using plC_mem h (k := 0) i x o hx ho))⟩
    · exact hr.elim
  · rename_i hna
    have := one (fun xs e => hna xs e) hr
    unfold RRv
    split
    · rename_i xs; exact absurd rfl (hna xs)
    · exact this

include P in
theorem retL_ok (hL : LOk P L) : ∀ {ts : List ResultVar} {rs : List AV} {m : Nat} {pl : List (Nat × List Nat)}, retL L s m ts rs pl → ∃ (vs : List Value) (pl' : List (Nat × List Nat)), (List.mapM (srcRun a.tmps) ts).run P E.w = .ok vs E.w ∧ nodupB (plIds pl') = true ∧ (∀ p ∈ pl, p ∈ pl') ∧
    RRt E.w (retLab w.heap.size E.lab pl') m rs vs ∧ vs.length = ts.length
  | [], [], m, pl, hr => by simp only [retL] at hr; exact ⟨[], pl, by simp, hr, fun p hp => hp, by simp [RRt], rfl⟩
  | t :: ts, r :: rs, m, pl, hr => by
    simp only [retL] at hr
    obtain ⟨v, x, g1, g2, g3, g4⟩ := src_ok hL h hr
    obtain ⟨vs, pl', k1, k2, k3, k4, k5⟩ := retL_ok hL g4
    refine ⟨v :: vs, pl', ?_, k2, fun p hp => k3 p (by simp [hp]), ?_, by simp [k5]⟩
    · simp only [List.mapM_cons, Sem.run_bind, g1, Result.andThen_ok, k1, Sem.run_pure]
    · simp only [RRt]
      exact ⟨retV_ok h k2 g2 g3 (fun p hp => k3 p (by simp [hp])), k4⟩
  | [], _ :: _, m, pl, hr => by simp [retL] at hr
  | _ :: _, [], m, pl, hr => by simp [retL] at hr
end

def oneOr : List Value → Value
  | [v] => v
  | vs => .tuple vs.toArray
def RRr (w : World) (lab : Nat → List Nat) (r : AV) (v : Value) : Prop := match r with
  | .tup xs => ∃ vs : List Value, v = .tuple vs.toArray ∧ RRt w lab 0 xs vs
  | x => RRv w lab 0 x v

theorem results_run {P : Program} {fn : Func} {ts : List ResultVar} (hres : fn.results = ts.toArray) (tmps : Array Value) (w : World) {vs : List Value} (hvs : (List.mapM (srcRun tmps) ts).run P w = .ok vs w) :
    (results fn tmps).run P w = .ok (oneOr vs) w := by
  have hg : results fn tmps = (fn.results.mapM (srcRun tmps) >>= fun vs => pure (if h : vs.size = 1 then vs[0] else .tuple vs)) := by
    unfold results
    congr 1
  rw [hg, hres]
  simp only [Sem.run_bind, List.mapM_toArray, Sem.run_map, hvs, Result.andThen_ok, Sem.run_pure]
  congr 1
  match vs with
  | [v] => simp [oneOr]
  | [] => simp [oneOr]
  | v :: v' :: vs => simp [oneOr]

theorem calls_of_code {P : Program} {L : Lay} (hL : LOk P L) {f : FuncId} {fn : Func} {c : Code} (hf : P.funcs[f]? = some fn) (hb : fn.body = some c) (hnm : (fn.name == "runtime.NumGoroutine") = false) {ts : List ResultVar} (hres : fn.results = ts.toArray)
    {args : List AV} {r : AV} {n : Nat} (hn : fn.ntmps = n)
    (hk : codeS P L c ⟨args ++ List.replicate (n - args.length) .bad, []⟩ fun e s => match e with
      | .normal => Fin L ts r s
      | .ret => Fin L ts r s
      | .exit _ => False) : CallsTo P f args r := by
  refine ⟨by simp [callOk, hf, hb, hnm], fun w hgood cargs hargs => ?_⟩
  refine calls_of_wp hf hb ?_
  have hlen := hargs.length
  have hok : Ok ⟨fun _ => False, w⟩ ⟨args ++ List.replicate (n - args.length) .bad, []⟩ { tmps := cargs.toArray ++ Array.replicate (fn.ntmps - cargs.toArray.size) undef, defers := [] } (E0 w) := by
    refine ⟨rfl, rfl, Kept.refl _ _, ?_, fun o ob h => by simp [getO] at h, fun b hb => absurd rfl hb⟩
    simp only [Array.toList_append, Array.toList_replicate, List.size_toArray]
    refine hargs.append ?_
    rw [hn, hlen]
    refine RTL.of (by simp) (fun i x c hx hc => ?_)
    have : x = .bad := (List.mem_replicate.1 (List.mem_of_getElem? hx)).2
    subst this
    simp [RT]
  refine codeS_sound hL (fun w' hk => hgood.below hk.below) c hok hk (fun e a' w' hs => ?_)
  obtain ⟨s', E', rfl, h', hk'⟩ := hs
  have hlabs : ∀ pl, (∀ b, b < w.heap.size → retLab w.heap.size E'.lab pl b = [0]) ∧ (∀ b, w.heap.size ≤ b → retLab w.heap.size E'.lab pl b ≠ [] → b < E'.w.heap.size ∧ 2 ≤ (retLab w.heap.size E'.lab pl b).length) := fun pl => by
    refine ⟨fun b hb => by simp [retLab, hb], fun b hb hne => ?_⟩
    have hnb : ¬ b < w.heap.size := Nat.not_lt.2 hb
    simp only [retLab, hnb, if_false] at hne ⊢
    by_cases h2 : 2 ≤ (plGo pl (E'.lab b)).length
    · rw [if_pos h2]
      refine ⟨?_, h2⟩
      have : E'.lab b ≠ [] := by
        intro hnil
        rw [hnil] at h2
        have key : ∀ pl, plGo pl [] = [] := fun pl => by
          induction pl with
          | nil => rfl
          | cons p pl ih => obtain ⟨o, π⟩ := p; simp [plGo, ih]
        rw [key] at h2; simp at h2
      exact (h'.labs b this).2
    · rw [if_neg h2] at hne; exact absurd rfl hne
  have fin : retK L s' ts r → bodyPost P fn (fun e w' => ∃ v, e = .returned v ∧ Below w.heap.size w w' ∧ RR w w' r v) .ret a' E'.w := fun hr => by
    unfold retK at hr
    split at hr
    · rename_i t
      obtain ⟨vs, pl, k1, k2, _, k4, k5⟩ := retL_ok h' hL hr
      match vs, k5 with
      | [v], _ =>
        simp only [RRt] at k4
        refine ⟨h'.defers, _, results_run hres _ _ k1, v, rfl, h'.kept.below, retLab w.heap.size E'.lab pl, (hlabs pl).1, (hlabs pl).2, ?_⟩
        have h4 := k4.1
        split
        · rename_i xs
          -- a tuple is no cell
          unfold RRv at h4
          simp only [] at h4
          cases h4
        · exact h4
    · rename_i hts
      split at hr
      · rename_i rs
        obtain ⟨vs, pl, k1, k2, _, k4, k5⟩ := retL_ok h' hL hr
        have hone : oneOr vs = .tuple vs.toArray := by
          match ts, hts, vs, k5 with
          | [], _, [], _ => rfl
          | [t], hts, _, _ => exact absurd rfl (hts t)
          | _ :: _ :: _, _, _ :: _ :: _, _ => rfl
        exact ⟨h'.defers, _, results_run hres _ _ k1, _, rfl, h'.kept.below, retLab w.heap.size E'.lab pl, (hlabs pl).1, (hlabs pl).2, vs, hone, k4⟩
      · exact hr.elim
  cases e with
  | normal => exact fin hk'
  | ret => exact fin hk'
  | exit i => exact hk'.elim

end Go.Eng
/- The rules by which codeS is taken step by step: what is still to do lies on a stack; one operation at a time goes to 'simp only [go_sem]'. -/
namespace Go.Eng
set_option linter.unusedSimpArgs false
open Go.RowKit

inductive It where
  | ops (all os : List Oper)
  | opg (all os : List Oper)
  | code (c : Code)
  | blk (id : Nat)
  | lp (Q : AS → Prop)

/-- Where an exit goes. -/
def outOf (i : Nat) : List It → Option (List It)
  | [] => none
  | .blk id :: k => bif (i == id) then some k else outOf i k
  | _ :: k => outOf i k

mutual
def exec (P : Program) (L : Lay) (F : AS → Prop) : List It → AS → Prop
  | [], s => F s
  | .ops all os :: k, s => opsS P L all os s fun s' => exec P L F k s'
  | .opg all os :: k, s => opsG P L all os s fun s' => exec P L F k s'
  | .code c :: k, s => codeS P L c s fun e s' => match e with
    | .normal => exec P L F k s'
    | .ret => F s'
    | .exit i => unw P L F i k s'
  | .blk _ :: k, s => exec P L F k s
  | .lp Q :: _, s => Q s
def unw (P : Program) (L : Lay) (F : AS → Prop) (i : Nat) : List It → AS → Prop
  | [], _ => False
  | .blk id :: k, s => if i = id then exec P L F k s else unw P L F i k s
  | .ops _ _ :: k, s => unw P L F i k s
  | .opg _ _ :: k, s => unw P L F i k s
  | .code _ :: k, s => unw P L F i k s
  | .lp _ :: k, s => unw P L F i k s
end

section
variable {P : Program} {L : Lay} {F : AS → Prop} {k : List It} {s : AS}

theorem e_start {c : Code} (h : exec P L F [.code c] s) : codeS P L c s fun e s' => match e with
    | .normal => F s'
    | .ret => F s'
    | .exit _ => False := by
  simp only [exec, unw] at h
  exact h
theorem e_seq {x y : Code} (h : exec P L F (.code x :: .code y :: k) s) : exec P L F (.code (.seq x y) :: k) s := by
  simp only [exec] at *
  unfold codeS
  refine cast ?_ h
  congr 1
theorem e_block {id : Nat} {c : Code} (h : exec P L F (.code c :: .blk id :: k) s) : exec P L F (.code (.block id c) :: k) s := by
  simp only [exec] at *
  unfold codeS
  refine cast ?_ h
  congr 1
  funext e s'
  cases e with
  | normal => simp only [exec]
  | ret => rfl
  | exit i =>
    simp only [unw, nb]
    by_cases hi : i = id
    · simp [hi, ifK]
    · simp [hi, ifK]
theorem e_region {id : Nat} {ops : Array Oper} (h : exec P L F (.opg ops.toList ops.toList :: k) s) : exec P L F (.code (.region id ops false) :: k) s := by
  simp only [exec] at *
  unfold codeS
  exact .inl h
/-- A map written out. -/
theorem e_lit {n d : Nat} {es : List (ByteArray × Value)} {id : Nat} {ops : Array Oper} (h1 : mapLit L n ops.toList = some (d, es)) (h2 : Nat.ble (d + 1) s.tmps.length = true)
    (h : exec P L F (.opg ops.toList (ops.toList.drop (n + 1)) :: k) (s.put (some d) (.mp es))) : exec P L F (.code (.region id ops false) :: k) s := by
  simp only [exec] at *
  unfold codeS
  exact .inr ⟨n, d, es, h1, h2, h⟩
theorem e_draw (hM : P.follows .mixedOrders = true) (perm : List Nat) {id : Nat} {ops : Array Oper} {os : List Oper} {ds ts : List Nat} (h1 : drawOk ops perm = true) (h2 : pickL ops.toList perm = os) (h3 : newD os = ds) (h4 : allD os = ts) (h5 : sideB s.tmps ts ds = true)
    (h : exec P L F (.ops ops.toList os :: k) s) : exec P L F (.code (.region id ops true) :: k) s := by
  subst h2; subst h3; subst h4
  simp only [exec] at *
  unfold codeS
  exact ⟨hM, perm, h1, h5, h⟩
/-- Text order. -/
theorem e_drawT (hM : P.follows .mixedOrders = true) {id : Nat} {ops : Array Oper} {ds ts : List Nat} (h1 : drawOk ops (List.range ops.size) = true) (h3 : newD ops.toList = ds) (h4 : allD ops.toList = ts) (h5 : sideB s.tmps ts ds = true)
    (h : exec P L F (.ops ops.toList ops.toList :: k) s) : exec P L F (.code (.region id ops true) :: k) s := by
  have key : ∀ (a b : List Oper), pickL (a ++ b) (List.range' a.length b.length) = b := fun a b => by
    induction b generalizing a with
    | nil => rfl
    | cons x b ih =>
      simp only [List.length_cons, List.range'_succ, pickL]
      rw [nthO_eq]
      simp only [List.getElem?_append_right (Nat.le_refl _), Nat.sub_self, List.getElem?_cons_zero]
      have := ih (a ++ [x])
      simp only [List.append_assoc, List.cons_append, List.nil_append, List.length_append, List.length_cons, List.length_nil, Nat.zero_add] at this
      rw [this]
  have h2 : pickL ops.toList (List.range ops.size) = ops.toList := by
    have := key [] ops.toList
    simpa [List.range_eq_range'] using this
  exact e_draw hM _ h1 h2 h3 h4 h5 h
theorem e_cond {c : Operand} {x y : Code} {b : Bool} (hb : s.env c = .v (.bool b)) (h1 : b = true → exec P L F (.code x :: k) s) (h2 : b = false → exec P L F (.code y :: k) s) : exec P L F (.code (.cond c x y) :: k) s := by
  simp only [exec] at *
  unfold codeS
  rw [hb]
  exact ifK_of h1 h2
theorem e_condT {c : Operand} {x y : Code} (hb : s.env c = .v (.bool true)) (h1 : exec P L F (.code x :: k) s) : exec P L F (.code (.cond c x y) :: k) s := e_cond hb (fun _ => h1) (by simp)
theorem e_condF {c : Operand} {x y : Code} (hb : s.env c = .v (.bool false)) (h1 : exec P L F (.code y :: k) s) : exec P L F (.code (.cond c x y) :: k) s := e_cond hb (by simp) (fun _ => h1)
theorem e_ret (h : F s) : exec P L F (.code .ret :: k) s := by simp only [exec]; unfold codeS; exact h
theorem e_skip (h : exec P L F k s) : exec P L F (.code .skip :: k) s := by simp only [exec]; unfold codeS; exact h
theorem unw_of {i : Nat} : ∀ {k k' : List It}, outOf i k = some k' → exec P L F k' s → unw P L F i k s
  | [], _, h, _ => by simp [outOf] at h
  | .blk id :: k, k', h, hk => by
    simp only [outOf, nb] at h
    simp only [unw]
    by_cases hi : i = id
    · simp [hi] at h ⊢; subst h; exact hk
    · simp [hi] at h ⊢; exact unw_of h hk
  | .ops _ _ :: k, k', h, hk => by simp only [outOf] at h; simp only [unw]; exact unw_of h hk
  | .opg _ _ :: k, k', h, hk => by simp only [outOf] at h; simp only [unw]; exact unw_of h hk
  | .code _ :: k, k', h, hk => by simp only [outOf] at h; simp only [unw]; exact unw_of h hk
  | .lp _ :: k, k', h, hk => by simp only [outOf] at h; simp only [unw]; exact unw_of h hk
theorem e_exit {i : Nat} {k' : List It} (hk : outOf i k = some k') (h : exec P L F k' s) : exec P L F (.code (.exit i) :: k) s := by simp only [exec]; unfold codeS; exact unw_of hk h
theorem e_blk {id : Nat} (h : exec P L F k s) : exec P L F (.blk id :: k) s := by simp only [exec]; exact h
theorem e_lp {Q : AS → Prop} (h : Q s) : exec P L F (.lp Q :: k) s := by simp only [exec]; exact h
theorem e_nil {all : List Oper} (h : exec P L F k s) : exec P L F (.ops all [] :: k) s := by simp only [exec]; unfold opsS; exact h
theorem e_op {all os : List Oper} {o : Oper} (hg : o.guard = none) (h : ∀ K : AS → Prop, (∀ s', exec P L F (.ops all os :: k) s' → K s') → opS P L o s K) : exec P L F (.ops all (o :: os) :: k) s := by
  simp only [exec] at *
  unfold opsS; rw [hg]
  exact h _ (fun _ h => h)
theorem e_guard {all os : List Oper} {o : Oper} {j d : Nat} {want b : Bool} (hg : o.guard = some (j, want)) (hd : dstOf all j = some d) (hb : lk s.tmps d = .v (.bool b))
    (h1 : b = want → exec P L F (.ops all ({ o with guard := none } :: os) :: k) s) (h2 : b = (!want) → exec P L F (.ops all os :: k) (s.put o.dst (.tup []))) : exec P L F (.ops all (o :: os) :: k) s := by
  simp only [exec] at *
  unfold opsS; rw [hg]
  simp only [hd, hb, gv]
  cases b <;> cases want <;> simp only [ifK, cond_true, cond_false, Bool.not_true, Bool.not_false]
  · have := h1 rfl; unfold opsS at this; exact this
  · exact h2 rfl
  · exact h2 rfl
  · have := h1 rfl; unfold opsS at this; exact this
theorem e_on {all os : List Oper} {o : Oper} {j d : Nat} {want : Bool} (hg : o.guard = some (j, want)) (hd : dstOf all j = some d) (hb : lk s.tmps d = .v (.bool want))
    (h1 : exec P L F (.ops all ({ o with guard := none } :: os) :: k) s) : exec P L F (.ops all (o :: os) :: k) s := e_guard hg hd hb (fun _ => h1) (by cases want <;> simp)
theorem e_off {all os : List Oper} {o : Oper} {j d : Nat} {want : Bool} (hg : o.guard = some (j, want)) (hd : dstOf all j = some d) (hb : lk s.tmps d = .v (.bool !want))
    (h2 : exec P L F (.ops all os :: k) (s.put o.dst (.tup []))) : exec P L F (.ops all (o :: os) :: k) s := e_guard hg hd hb (by cases want <;> simp) (fun _ => h2)
theorem g_nil {all : List Oper} (h : exec P L F k s) : exec P L F (.opg all [] :: k) s := by simp only [exec]; unfold opsG; exact h
theorem g_op {all os : List Oper} {o : Oper} (hg : o.guard = none) (h : ∀ K : AS → Prop, (∀ s', exec P L F (.opg all os :: k) s' → K s') → opS P L o s K) : exec P L F (.opg all (o :: os) :: k) s := by
  simp only [exec] at *
  unfold opsG; rw [hg]
  exact opG_of (h _ (fun _ h => h))
theorem g_opX {all os : List Oper} {o : Oper} (hg : o.guard = none) (h : ∀ K : AS → Prop, (∀ s', exec P L F (.opg all os :: k) s' → K s') → opX P L o s K) : exec P L F (.opg all (o :: os) :: k) s := by
  simp only [exec] at *
  unfold opsG; rw [hg]
  exact opG_x (h _ (fun _ h => h))
/-- Another look at the state. -/
theorem g_gh {all os : List Oper} {o : Oper} {s1 : AS} (hg : o.guard = none) (g : Gh s s1) (h : exec P L F (.opg all (o :: os) :: k) s1) : exec P L F (.opg all (o :: os) :: k) s := by
  simp only [exec] at *
  unfold opsG at *; rw [hg] at *
  exact opG_gh g h
theorem g_guard {all os : List Oper} {o : Oper} {j d : Nat} {want b : Bool} (hg : o.guard = some (j, want)) (hd : dstOf all j = some d) (hb : lk s.tmps d = .v (.bool b))
    (h1 : b = want → exec P L F (.opg all ({ o with guard := none } :: os) :: k) s) (h2 : b = (!want) → exec P L F (.opg all os :: k) (s.put o.dst (.tup []))) : exec P L F (.opg all (o :: os) :: k) s := by
  simp only [exec] at *
  unfold opsG; rw [hg]
  simp only [hd, hb, gv]
  cases b <;> cases want <;> simp only [ifK, cond_true, cond_false, Bool.not_true, Bool.not_false]
  · have := h1 rfl; unfold opsG at this; simpa only [opG, opX, opS] using this
  · exact h2 rfl
  · exact h2 rfl
  · have := h1 rfl; unfold opsG at this; simpa only [opG, opX, opS] using this
theorem g_on {all os : List Oper} {o : Oper} {j d : Nat} {want : Bool} (hg : o.guard = some (j, want)) (hd : dstOf all j = some d) (hb : lk s.tmps d = .v (.bool want))
    (h1 : exec P L F (.opg all ({ o with guard := none } :: os) :: k) s) : exec P L F (.opg all (o :: os) :: k) s := g_guard hg hd hb (fun _ => h1) (by cases want <;> simp)
theorem g_off {all os : List Oper} {o : Oper} {j d : Nat} {want : Bool} (hg : o.guard = some (j, want)) (hd : dstOf all j = some d) (hb : lk s.tmps d = .v (.bool !want))
    (h2 : exec P L F (.opg all os :: k) (s.put o.dst (.tup []))) : exec P L F (.opg all (o :: os) :: k) s := g_guard hg hd hb (by cases want <;> simp) (fun _ => h2)
theorem e_past {all os : List Oper} {o : Oper} {j d : Nat} {want : Bool} (hg : o.guard = some (j, want)) (hd : dstOf all j = some d) (hb : lk s.tmps d = .tup [])
    (h2 : exec P L F (.ops all os :: k) (s.put o.dst (.tup []))) : exec P L F (.ops all (o :: os) :: k) s := by
  simp only [exec] at *
  unfold opsS; rw [hg]
  simp only [hd, hb, gv, ifK]
  exact h2
theorem g_past {all os : List Oper} {o : Oper} {j d : Nat} {want : Bool} (hg : o.guard = some (j, want)) (hd : dstOf all j = some d) (hb : lk s.tmps d = .tup [])
    (h2 : exec P L F (.opg all os :: k) (s.put o.dst (.tup []))) : exec P L F (.opg all (o :: os) :: k) s := by
  simp only [exec] at *
  unfold opsG; rw [hg]
  simp only [hd, hb, gv, ifK]
  exact h2
/-- The round's end. -/
def Rnd {ι : Type} (p : ι → Prop) (S : ι → AS) (μ : ι → Nat) (i : ι) (s' : AS) : Prop := ∃ j, p j ∧ μ j < μ i ∧ Gh s' (S j)
theorem e_loop {c : Code} {ι : Type} (p : ι → Prop) (S : ι → AS) (μ : ι → Nat) (i : ι) (hi : p i) (hf : Gh s (S i))
    (h : ∀ i, p i → exec P L F (.code c :: .lp (Rnd p S μ i) :: k) (S i)) : exec P L F (.code (.loop c) :: k) s := by
  simp only [exec] at *
  unfold codeS
  refine loopK_of p S μ i hi hf (fun i hp => ?_)
  have := h i hp
  refine cast ?_ this
  congr 1
  funext e s'
  cases e with
  | normal => rfl
  | ret => rfl
  | exit j => simp only [unw]
end

theorem idxI_map {α : Type} {l : List α} {f : α → AV} {i : Nat} {K : AV → Prop} (h : i < l.length) (hK : K (f l[i])) : idxI (l.map f) (i : Int) K := by
  rw [idxI_iff]
  refine ⟨by omega, f l[i], ?_, hK⟩
  simp [h]
theorem idxI_map' {α : Type} {l : List α} {f : α → AV} {i : Int} {K : AV → Prop} (h0 : 0 ≤ i) (h : i.toNat < l.length) (hK : K (f l[i.toNat])) : idxI (l.map f) i K := by
  rw [idxI_iff]
  refine ⟨h0, f l[i.toNat], ?_, hK⟩
  simp [h]
theorem idxK_map {α : Type} {l : List α} {f : α → AV} {i : Nat} {K : AV → Prop} (h : i < l.length) (hK : K (f l[i])) : idxK (l.map f) i K := by
  rw [idxK_iff]
  exact ⟨f l[i], by simp [h], hK⟩
/-- A frame of n slots, of which these are known. -/
def fr (n : Nat) (l : List (Nat × AV)) : List AV := go (List.replicate n .bad) l
where go (f : List AV) : List (Nat × AV) → List AV
  | [] => f
  | (k, x) :: l => go (st f k x) l

theorem nlOk_none (b : Option Bool) : nlOk none b ↔ True := Iff.rfl
theorem gh_fits {s s' : AS} (h : Fits s s') : Gh s s' := .fits h (.refl _)
attribute [go_sem] fr fr.go
attribute [irreducible] exec unw
attribute [go_sem] opS rdS ifK idxK ltK idxI ltI_iff ldc eqK binK unK lenK indexK strK storeK newBox offK
theorem toNat_0 : Int.toNat 0 = 0 := rfl
theorem toNat_1 : Int.toNat 1 = 1 := rfl
theorem toNat_2 : Int.toNat 2 = 2 := rfl
theorem toNat_3 : Int.toNat 3 = 3 := rfl
theorem toNat_4 : Int.toNat 4 = 4 := rfl
theorem toNat_5 : Int.toNat 5 = 5 := rfl
theorem toNat_6 : Int.toNat 6 = 6 := rfl
theorem toNat_7 : Int.toNat 7 = 7 := rfl
theorem toNat_8 : Int.toNat 8 = 8 := rfl
theorem toNat_9 : Int.toNat 9 = 9 := rfl
theorem toNat_10 : Int.toNat 10 = 10 := rfl
theorem toNat_11 : Int.toNat 11 = 11 := rfl
theorem toNat_12 : Int.toNat 12 = 12 := rfl
attribute [go_sem] beq_self_eq_true toNat_0 toNat_1 toNat_2 toNat_3 toNat_4 toNat_5 toNat_6 toNat_7 toNat_8 toNat_9 toNat_10 toNat_11 toNat_12
attribute [go_sem] AS.env AS.put lk st getO setO delO dstOf plain okVal flatC flat cellsOf putC putC1 intCells TD.agg view view.viewL envL plainA plainC
attribute [go_sem] leA leL noRef noRefL noRefO leOb leObs leE
attribute [go_sem] bndK subK minK maxK fnK convK srcK srcV sideB side1 rowK makeK bsK partsK newRowK buildK fillK putL knownL nthF zeroOf zeroOk newV
attribute [go_sem] appK baseK apSrc newR killO AS.kil AS.map mapA mapA.mapL mapOb mapObs klR klO frP frR frO AS.frz rnR rnO rnP AS.ren AllFlat_nil AllFlat_cons AllFlat_map AllFlat_app AllFlat_bytes
attribute [go_sem] mpK subsK slK arrK ixK cvK isNilC nilB nilK bnK u8L
attribute [go_sem] opX bsA partsA abN mkV itC itT itR obOf addL instC instCs instV instT instR ids freshB notIn nodupB ownI ownC ownC.ownL ownL_map ownL_app instId
attribute [go_sem] retC retCs retV plC plIds retL retK Fin nlOk_none
attribute [go_sem] implies_true Option.isSome_some Option.isSome_none or_true true_or or_self false_or or_false
attribute [go_sem] decide_true cond_true cond_false Bool.not_true Bool.not_false List.all_cons List.all_nil Bool.and_self Bool.and_true Bool.true_and and_self and_true true_and List.replicate_succ List.replicate_zero List.take_succ_cons List.take_zero List.take_nil List.drop_zero List.drop_succ_cons List.drop_nil List.map_cons List.map_nil List.length_cons List.length_nil List.length_map List.headD_cons Nat.zero_add List.append_nil List.nil_append List.cons_append
end Go.Eng
/- Layouts. -/
namespace Go.Eng
open Go.RowKit
set_option linter.unusedSimpArgs false

theorem LOk_nil {P : Program} : LOk P [] := fun t ti h => by simp [lkT] at h
theorem ti_ok {P : Program} {k : Nat} {ti : TI} {i : TypeInfo} {z : Value} (h : P.types[k]? = some i) (h1 : i.size = ti.size) (h2 : i.bytes = ti.bytes) (h3 : i.zero = some z) (h4 : z.cells.toList = ti.zero) (h5 : ti.zero.length = ti.size) (h6 : ∀ v ∈ ti.zero, plain v = true)
    (h7 : match ti.d with | .int k' => P.underlying k = some (.int k') | .bool => P.underlying k = some .bool | .str => P.underlying k = some .string | .slice e => P.underlying k = some (.slice e) | .struct fs => ∃ a : Array Field, P.underlying k = some (.struct a) ∧ a.toList.map (fun f => (f.offset, f.type)) = fs | .arr n e => P.underlying k = some (.array n e) | .map kk e => P.underlying k = some (.map kk e) | .other => ∃ d, P.underlying k = some d ∧ d.isRow = false)
    (h8 : ti.eq = true → EqInts P k ti.size) : TI.ok P k ti := ⟨⟨i, by unfold Tables.info?; rw [if_pos (Array.getElem?_eq_some_iff.1 h).1]; exact h, h1, h2, z, h3, h4⟩, h5, h6, h7, h8⟩
theorem LOk_cons {P : Program} {k : Nat} {x : TI} {l : Lay} (h : TI.ok P k x) (hl : LOk P l) : LOk P ((k, x) :: l) := fun t ti ht => by
  unfold lkT at ht
  split at ht
  · rename_i hk
    cases ht
    have := eq_of_beq hk
    subst this; exact h
  · exact hl t ti ht

theorem EqInts.of2 {P : Program} {t u1 u2 : Nat} {n1 n2 g1 p1 q1 g2 p2 q2 : _} {b1 b2} (hg : P.eqGuardType P.depth t = false) (hs : P.stoodInHeld t = false)
    (hu : P.underlying t = some (.struct #[⟨n1, u1, 0, b1, g1, p1, q1⟩, ⟨n2, u2, 1, b2, g2, p2, q2⟩])) (h1 : (n1 ≠ "_") = True) (h2 : (n2 ≠ "_") = True)
    (k1 : P.underlying u1 = some (.int .i64)) (k2 : P.underlying u2 = some (.int .i64)) : EqInts P t 2 := by
  refine ⟨hg, fun w xs ys hx hy => ?_⟩
  have i1 : ∀ w, (isAgg u1).run P w = .ok false w := fun w => by simp [isAgg, run_underlying k1]
  have i2 : ∀ w, (isAgg u2).run P w = .ok false w := fun w => by simp [isAgg, run_underlying k2]
  match xs, ys, hx, hy with
  | [a, b], [c, d], _, _ =>
    rw [run_equalIn_struct w 9999 t _ _ (by unfold Program.fieldsOf; rw [hu]) hs]
    simp only [Program.fieldsOf, hu, Op.eqFields, h1, h2, if_true, part, Sem.run_bind, i1, i2, Result.andThen_ok, Bool.false_eq_true, if_false]
    by_cases e1 : a = c <;> by_cases e2 : b = d <;> simp [e1, e2, i1, i2, run_equalIn_int _ _ _ _ _ _ _ k1, run_equalIn_int _ _ _ _ _ _ _ k2]
theorem EqInts.of3 {P : Program} {t u1 u2 u3 : Nat} {n1 n2 n3 g1 p1 q1 g2 p2 q2 g3 p3 q3 : _} {b1 b2 b3} (hg : P.eqGuardType P.depth t = false) (hs : P.stoodInHeld t = false)
    (hu : P.underlying t = some (.struct #[⟨n1, u1, 0, b1, g1, p1, q1⟩, ⟨n2, u2, 1, b2, g2, p2, q2⟩, ⟨n3, u3, 2, b3, g3, p3, q3⟩])) (h1 : (n1 ≠ "_") = True) (h2 : (n2 ≠ "_") = True) (h3 : (n3 ≠ "_") = True)
    (k1 : P.underlying u1 = some (.int .i64)) (k2 : P.underlying u2 = some (.int .i64)) (k3 : P.underlying u3 = some (.int .i64)) : EqInts P t 3 := by
  refine ⟨hg, fun w xs ys hx hy => ?_⟩
  have i1 : ∀ w, (isAgg u1).run P w = .ok false w := fun w => by simp [isAgg, run_underlying k1]
  have i2 : ∀ w, (isAgg u2).run P w = .ok false w := fun w => by simp [isAgg, run_underlying k2]
  have i3 : ∀ w, (isAgg u3).run P w = .ok false w := fun w => by simp [isAgg, run_underlying k3]
  match xs, ys, hx, hy with
  | [a, b, e], [c, d, f], _, _ =>
    rw [run_equalIn_struct w 9999 t _ _ (by unfold Program.fieldsOf; rw [hu]) hs]
    simp only [Program.fieldsOf, hu, Op.eqFields, h1, h2, h3, if_true, part, Sem.run_bind, i1, i2, i3, Result.andThen_ok, Bool.false_eq_true, if_false]
    by_cases e1 : a = c <;> by_cases e2 : b = d <;> by_cases e3 : e = f <;> simp [e1, e2, e3, i1, i2, i3, run_equalIn_int _ _ _ _ _ _ _ k1, run_equalIn_int _ _ _ _ _ _ _ k2, run_equalIn_int _ _ _ _ _ _ _ k3]

end Go.Eng
/- Contracts of the library's functions, brought into the engine's form. -/
namespace Go.Eng
open Go.RowKit Go.Sort
set_option linter.unusedSimpArgs false
set_option linter.unusedVariables false

theorem rtl_plain {w : World} : ∀ {vs cargs : List Value}, RTL (E0 w) (vs.map .v) cargs → cargs = vs
  | [], [], _ => rfl
  | v :: vs, c :: cs, h => by
    simp only [List.map_cons, RTL] at h
    rw [h.1.v_inv.1, rtl_plain h.2]
  | [], _ :: _, h => by simp [RTL] at h
  | _ :: _, [], h => by simp [RTL] at h

def lab0 (w : World) (b : Nat) : List Nat := if b < w.heap.size then [0] else []
theorem rr_lab0 (w w' : World) : (∀ b, b < w.heap.size → lab0 w b = [0]) ∧ (∀ b, w.heap.size ≤ b → lab0 w b ≠ [] → b < w'.heap.size ∧ 2 ≤ (lab0 w b).length) :=
  ⟨fun b hb => by simp [lab0, hb], fun b hb hne => by simp [lab0, Nat.not_lt.2 hb] at hne⟩
theorem rr_plain {w w' : World} {v : Value} (h : plain v = true) : RR w w' (.v v) v := ⟨lab0 w, (rr_lab0 w w').1, (rr_lab0 w w').2, C0.v h⟩
theorem rrt_plain {w : World} {lab : Nat → List Nat} : ∀ {vs : List Value} {m : Nat}, (∀ v ∈ vs, plain v = true) → RRt w lab m (vs.map .v) vs
  | [], m, _ => by simp [RRt]
  | v :: vs, m, h => by simp only [List.map_cons, RRt]; exact ⟨C0.v (h v (by simp)), rrt_plain (fun v hv => h v (by simp [hv]))⟩
theorem rr_plains {w w' : World} {vs : List Value} (h : ∀ v ∈ vs, plain v = true) : RR w w' (.tup (vs.map .v)) (.tuple vs.toArray) := ⟨lab0 w, (rr_lab0 w w').1, (rr_lab0 w w').2, vs, rfl, rrt_plain h⟩

theorem lib_plain {P : Program} {f : FuncId} {vs : List Value} {r : Value} (hok : callOk P f = true) (hr : plain r = true) (h : ∀ w, GoodW P w → Calls P f vs.toArray w fun e w' => e = .returned r ∧ Below w.heap.size w w') : CallsTo P f (vs.map .v) (.v r) := by
  refine ⟨hok, fun w hg cargs ha => ?_⟩
  rw [rtl_plain ha]
  refine (h w hg).mono ?_
  rintro e w' ⟨rfl, hb⟩
  exact ⟨_, rfl, hb, rr_plain hr⟩
theorem lib_plains {P : Program} {f : FuncId} {vs rs : List Value} (hok : callOk P f = true) (hr : ∀ v ∈ rs, plain v = true) (h : ∀ w, GoodW P w → Calls P f vs.toArray w fun e w' => e = .returned (.tuple rs.toArray) ∧ Below w.heap.size w w') : CallsTo P f (vs.map .v) (.tup (rs.map .v)) := by
  refine ⟨hok, fun w hg cargs ha => ?_⟩
  rw [rtl_plain ha]
  refine (h w hg).mono ?_
  rintro e w' ⟨rfl, hb⟩
  exact ⟨_, rfl, hb, rr_plains hr⟩

theorem below_grow (w : World) (k : Nat) (os : Array Obj) : Below w.heap.size w (grow (w.drewN k) os) := by
  have h1 : (grow (w.drewN k) os).heap = w.heap ++ os := rfl
  refine ⟨rfl, rfl, rfl, by rw [h1]; simp, fun b hb => ?_⟩
  rw [h1, Array.getElem?_append_left hb]
theorem below_drewN (w : World) (k : Nat) : Below w.heap.size w (w.drewN k) :=
  ⟨rfl, rfl, rfl, Nat.le_refl _, fun b hb => rfl⟩

theorem GoodW.tab {P : Program} {w : World} (h : GoodW P w) (hg : (P.globalNamed "internal/strconv.uint64pow10").isSome = true) : Lib.TabIs P w "internal/strconv.uint64pow10" .u64 Lib.pow10Tab := by
  obtain ⟨wb, ⟨_, h1⟩, h2, h3⟩ := h
  have ht := h1 hg
  unfold Lib.TabIs World.var? at *
  cases hq : P.globalNamed "internal/strconv.uint64pow10" with
  | none => rw [hq] at hg; cases hg
  | some g =>
    rw [hq] at ht
    simp only [Option.bind_some] at ht ⊢
    have hlt : g < wb.heap.size := by
      rcases Nat.lt_or_ge g wb.heap.size with h | h
      · exact h
      · rw [Array.getElem?_eq_none h] at ht; cases ht
    rw [h3 g hlt]; exact ht
theorem GoodW.cell {P : Program} {w : World} (h : GoodW P w) {b o : Nat} {Φ : Value → Prop} (hc : ∀ wb : World, wb.ShapedOpen P → ∃ v, Φ v ∧ wb.cell? ⟨b, o, none⟩ = some v) : ∃ v, Φ v ∧ w.cell? ⟨b, o, none⟩ = some v := by
  obtain ⟨wb, ⟨h0, _⟩, h2, h3⟩ := h
  obtain ⟨v, h4, h5⟩ := hc wb h0
  refine ⟨v, h4, ?_⟩
  have hlt : b < wb.heap.size := by
    rcases Nat.lt_or_ge b wb.heap.size with h | h
    · exact h
    · simp [World.cell?, Array.getElem?_eq_none h] at h5
  rw [World.cell?_of_block (h3 b hlt)]; exact h5

/-- A list of strings that came in. -/
theorem strs_in {w : World} {own : Bool} {nl : Option Bool} {xs : List ByteArray} {c : Value} (h : RT (E0 w) (.sl 1 own nl (xs.map fun x => .v (.string x))) c) :
    (xs = [] ∧ c = .slice none 0 0) ∨ ∃ b o cap, c = .slice (some ⟨b, o, none⟩) xs.length cap ∧ xs.length ≤ cap ∧ b < w.heap.size ∧ ∀ (j : Nat) x, xs[j]? = some x → w.cell? ⟨b, o + j, none⟩ = some (.string x) := by
  simp only [RT] at h
  generalize hys : (xs.map fun x => AV.v (.string x)) = ys at h
  cases h with
  | nil => exact .inl ⟨by simpa using hys, rfl⟩
  | @sl _ _ _ _ _ _ b f n cap cf hnl hn hcap hroot hb hsz hc hr hown =>
    subst hys
    simp only [List.length_map] at hn
    subst hn
    refine .inr ⟨b, f, cap, rfl, hcap.resolve_left (by omega), hb, fun j x hx => ?_⟩
    have h1 : (xs.map fun x => AV.v (.string x))[j]? = some (.v (.string x)) := by simp [hx]
    have h2 := hc j _ 0 _ h1 rfl
    have h3 := hr j _ 0 _ h1 rfl
    have h4 : cf j 0 = .string x := by
      generalize cf j 0 = u at h3
      cases h3; rfl
    rw [h4] at h2
    simp only [Nat.mul_one, Nat.add_zero] at h2
    exact h2

/-- A new list of strings that is given back. -/
theorem rr_strs {w w' : World} {xs : List ByteArray} {e : TypeId} (h : w' = w.alloc (.cells (xs.map Value.string).toArray e)) :
    RR w w' (.sl 1 true (some false) (xs.map fun x => .v (.string x))) (.slice (some ⟨w.heap.size, 0, none⟩) xs.length xs.length) := by
  subst h
  have hnb : (w.alloc (.cells (xs.map Value.string).toArray e)).heap[w.heap.size]? = some (.cells (xs.map Value.string).toArray e (0, 0)) := heap_alloc_new w _
  refine ⟨fun b => if b < w.heap.size then [0] else if b = w.heap.size then [0, 0] else [], fun b hb => by simp [hb], fun b hb hne => ?_, ?_⟩
  · simp only [Nat.not_lt.2 hb, if_false] at hne ⊢
    by_cases h : b = w.heap.size
    · simp [h]
    · simp [h] at hne
  · have hlab : (fun b => if b < w.heap.size then [0] else if b = w.heap.size then [0, 0] else ([] : List Nat)) w.heap.size = [0, 0] := by simp
    refine C0.sl (fun i _ => ((xs.map Value.string)[i]?).getD undef) (by simp) (by simp) (.inr (Nat.le_refl _)) (by rintro ⟨k, hk⟩; rw [hlab] at hk; cases hk) (by simp) (fun i x hx => ?_) (fun i x j y hx hy => ?_) (fun i x j y hx hy => ?_) (fun _ _ => ⟨rfl, hlab, Nat.le_refl _, _, e, hnb, by simp⟩)
    · rw [List.getElem?_map] at hx
      cases hq : xs[i]? with
      | none => rw [hq] at hx; cases hx
      | some z => rw [hq] at hx; cases hx; rfl
    all_goals
      rw [List.getElem?_map] at hx
      cases hq : xs[i]? with
      | none => rw [hq] at hx; cases hx
      | some z =>
        rw [hq] at hx; cases hx
        cases j with
        | succ j => simp [cellsOf] at hy
        | zero =>
          simp only [cellsOf, List.getElem?_cons_zero, Option.some.injEq] at hy
          subst hy
          first
            | (simp only [World.cell?, hnb]; simp [hq])
            | (simp only [List.getElem?_map, hq, Option.map_some, Option.getD_some]; exact .v rfl)
end Go.Eng
