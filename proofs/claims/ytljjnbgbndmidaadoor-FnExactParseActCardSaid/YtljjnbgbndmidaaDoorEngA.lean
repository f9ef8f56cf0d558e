import Derived.Below
import Derived.Laws.Cells
import Derived.Laws.AppendOwn
import Derived.KernelRfl
import Derived.WalkKit
import Derived.Deep.MidRow
import Derived.Laws.StructEq
import Derived.Laws.Small
/-
An abstract machine over the model (part 1): values by content, what it means that a value of the model represents one.
-/
namespace Go.Eng
open Go.RowKit
set_option linter.unusedSimpArgs false

/-- Values by content: a slice is a list of its elements; 'row', 'osl', 'ptr' refer to an object of the state. -/
inductive AV where
  | v (x : Value)
  | agg (xs : List AV)
  | tup (xs : List AV)
  | sl (esz : Nat) (own : Bool) (nl : Option Bool) (xs : List AV)
  | row (o : Nat)
  | osl (o lo n : Nat)
  | ptr (o i c : Nat)
  | ip (cs : List AV) (c : Nat)
  | fn (f : FuncId) (caps : List AV)
  | mp (es : List (ByteArray × Value))
  | bad
  deriving Inhabited

def cellsOf : AV → List AV
  | .agg xs => xs
  | x => [x]

/-- A value of one cell that holds no address. -/
def plain : Value → Bool
  | .bool _ | .int _ _ | .string _ | .nilFunc | .map none | .slice none 0 0 => true
  | .func (.func _) first caps => first.isEmpty && caps.isEmpty
  | _ => false

theorem plain_one {x : Value} (h : plain x = true) : x.oneCell' = true := by
  cases x <;> simp_all [plain, Value.oneCell']

/-- The block b is the memory of a whole object: it may be written. -/
def Root (lab : Nat → List Nat) (b : Nat) : Prop := ∃ o, lab b = [o]

/-- The cell c of the world w reads as y. 'lab' tells which blocks are owned, and at which place; chk: y's own slices are owned by this place. -/
inductive C0 (w : World) (lab : Nat → List Nat) : Bool → List Nat → AV → Value → Prop
  | v {chk : Bool} {π : List Nat} {x : Value} (h : plain x = true) : C0 w lab chk π (.v x) x
  | nil {chk : Bool} {π : List Nat} {esz : Nat} {own : Bool} {nl : Option Bool} (h : nl ≠ some false) : C0 w lab chk π (.sl esz own nl []) (.slice none 0 0)
  | sl {chk : Bool} {π : List Nat} {esz : Nat} {own : Bool} {nl : Option Bool} {xs : List AV} {b f n cap : Nat} (cf : Nat → Nat → Value)
      (hnl : nl ≠ some true) (hn : xs.length = n) (hcap : esz = 0 ∨ n ≤ cap) (hroot : ¬ Root lab b) (hb : b < w.heap.size)
      (hsz : ∀ (i : Nat) (x : AV), xs[i]? = some x → (cellsOf x).length = esz)
      (hc : ∀ (i : Nat) (x : AV) (j : Nat) (y : AV), xs[i]? = some x → (cellsOf x)[j]? = some y → w.cell? ⟨b, f + i * esz + j, none⟩ = some (cf i j))
      (hr : ∀ (i : Nat) (x : AV) (j : Nat) (y : AV), xs[i]? = some x → (cellsOf x)[j]? = some y → C0 w lab (chk && own) (i :: j :: π) y (cf i j))
      (hown : chk = true → own = true → f = 0 ∧ lab b = π ∧ n ≤ cap ∧ ∃ arr e, w.heap[b]? = some (.cells arr e (0, 0)) ∧ arr.size = cap * esz)
      : C0 w lab chk π (.sl esz own nl xs) (.slice (some ⟨b, f, none⟩) n cap)

theorem C0.one {w : World} {lab : Nat → List Nat} {chk : Bool} {π : List Nat} {y : AV} {c : Value} (h : C0 w lab chk π y c) : c.oneCell' = true := by
  cases h with
  | v h => exact plain_one h
  | nil _ => rfl
  | sl => rfl

theorem C0.cells1 {w : World} {lab : Nat → List Nat} {chk : Bool} {π : List Nat} {y : AV} {c : Value} (h : C0 w lab chk π y c) : cellsOf y = [y] := by
  cases h <;> rfl

/-- What is read may be read in another world, with other marks. -/
theorem C0.move {w w' : World} {lab lab' : Nat → List Nat} {chk chk' : Bool} {π π' : List Nat} {y : AV} {c : Value} (h : C0 w lab chk π y c)
    (hsz : w.heap.size ≤ w'.heap.size)
    (hw : ∀ b, b < w.heap.size → ¬ Root lab b → w'.heap[b]? = w.heap[b]?)
    (hl : ∀ b, b < w.heap.size → ¬ Root lab b → ¬ Root lab' b)
    (hk : chk' = true → chk = true ∧ ∀ b τ, b < w.heap.size → lab b = τ ++ π → lab' b = τ ++ π') : C0 w' lab' chk' π' y c := by
  induction h generalizing chk' π' with
  | v h => exact .v h
  | nil h => exact .nil h
  | @sl chk π esz own nl xs b f n cap cf hnl hn hcap hroot hb hsz' hc hr hown ih =>
    refine .sl cf hnl hn hcap (hl b hb hroot) (by omega) hsz' (fun i x j y hx hy => ?_) (fun i x j y hx hy => ?_) (fun h1 h2 => ?_)
    · have := hc i x j y hx hy
      rw [World.cell?_of_block (hw b hb hroot)]
      exact this
    · refine ih i x j y hx hy (fun hk' => ?_)
      obtain ⟨h1, h2⟩ := Bool.and_eq_true_iff.1 hk'
      obtain ⟨h3, h4⟩ := hk h1
      refine ⟨by simp [h3, h2], fun b τ hb hτ => ?_⟩
      have := h4 b (τ ++ [i, j]) hb (by simpa using hτ)
      simpa using this
    · obtain ⟨h3, h4⟩ := hk h1
      obtain ⟨g1, g2, g3, arr, e, g4, g5⟩ := hown h3 h2
      have := h4 b [] hb (by simpa using g2)
      exact ⟨g1, by simpa using this, g3, arr, e, by rw [hw b hb hroot]; exact g4, g5⟩

/-- Read without its ownership. -/
theorem C0.lend {w : World} {lab : Nat → List Nat} {chk : Bool} {π π' : List Nat} {y : AV} {c : Value} (h : C0 w lab chk π y c) : C0 w lab false π' y c :=
  h.move (Nat.le_refl _) (fun _ _ _ => rfl) (fun _ _ h => h) (by simp)

theorem C0.world {w w' : World} {lab : Nat → List Nat} {chk : Bool} {π : List Nat} {y : AV} {c : Value} (h : C0 w lab chk π y c)
    (hsz : w.heap.size ≤ w'.heap.size) (hw : ∀ b, b < w.heap.size → ¬ Root lab b → w'.heap[b]? = w.heap[b]?) : C0 w' lab chk π y c :=
  h.move hsz hw (fun _ _ h => h) (fun h => ⟨h, fun _ _ _ h => h⟩)

/-- Objects: a box (one element) or a row (the memory of a slice). -/
structure Ob where
  esz : Nat
  box : Bool
  nl : Option Bool
  els : List AV

structure AS where
  tmps : List AV
  objs : List (Nat × Ob)

def lk : List AV → Nat → AV
  | [], _ => .bad
  | x :: _, 0 => x
  | _ :: l, n + 1 => lk l n
def st : List AV → Nat → AV → List AV
  | [], _, _ => []
  | _ :: l, 0, y => y :: l
  | x :: l, n + 1, y => x :: st l n y
def getO : List (Nat × Ob) → Nat → Option Ob
  | [], _ => none
  | (k, x) :: l, o => match Nat.beq k o with
    | true => some x
    | false => getO l o
def setO : List (Nat × Ob) → Nat → Ob → List (Nat × Ob)
  | [], o, y => [(o, y)]
  | (k, x) :: l, o, y => match Nat.beq k o with
    | true => (k, y) :: l
    | false => match Nat.ble o k with
      | true => (o, y) :: (k, x) :: l
      | false => (k, x) :: setO l o y
def delO : List (Nat × Ob) → Nat → List (Nat × Ob)
  | [], _ => []
  | (k, x) :: l, o => match Nat.beq k o with
    | true => delO l o
    | false => (k, x) :: delO l o

@[simp] theorem natbeq (a b : Nat) : Nat.beq a b = (a == b) := by
  by_cases h : a = b
  · subst h; simp
  · cases hb : Nat.beq a b with
    | false => simp [h]
    | true => exact absurd (Nat.eq_of_beq_eq_true hb) h
theorem nb (a b : Nat) : (a == b) = decide (a = b) := by
  by_cases h : a = b <;> simp [h]
theorem getO_setO (l : List (Nat × Ob)) (o o' : Nat) (y : Ob) : getO (setO l o y) o' = if o' = o then some y else getO l o' := by
  induction l with
  | nil =>
    by_cases h : o = o'
    · subst h; simp [setO, getO, nb]
    · simp [setO, getO, nb, h, Ne.symm h]
  | cons p l ih =>
    obtain ⟨k, x⟩ := p
    by_cases h : k = o
    · subst h
      by_cases h' : k = o'
      · subst h'; simp [setO, getO, nb]
      · simp [setO, getO, nb, h', Ne.symm h']
    · cases hb : Nat.ble o k with
      | true =>
        by_cases h' : o = o'
        · subst h'; simp [setO, getO, nb, h, hb]
        · simp [setO, getO, nb, h, hb, h', Ne.symm h']
      | false =>
        by_cases h' : k = o'
        · subst h'; simp [setO, getO, nb, h, hb]
        · simp [setO, getO, nb, h, h', hb, ih]
theorem setO_comm (l : List (Nat × Ob)) {o o' : Nat} (hne : o ≠ o') (y y' : Ob) : setO (setO l o y) o' y' = setO (setO l o' y') o y := by
  have tot : ∀ a b : Nat, a ≠ b → (Nat.ble a b = true ∧ Nat.ble b a = false) ∨ (Nat.ble a b = false ∧ Nat.ble b a = true) := by
    intro a b hab
    rcases Nat.lt_or_ge a b with h | h
    · exact .inl ⟨Nat.ble_eq_true_of_le (Nat.le_of_lt h), by cases hc : Nat.ble b a with | false => rfl | true => exact absurd (Nat.le_of_ble_eq_true hc) (by omega)⟩
    · exact .inr ⟨by cases hc : Nat.ble a b with | false => rfl | true => exact absurd (Nat.le_of_ble_eq_true hc) (by omega), Nat.ble_eq_true_of_le h⟩
  have trans : ∀ a b c : Nat, Nat.ble a b = true → Nat.ble b c = true → Nat.ble a c = true := fun a b c h1 h2 => Nat.ble_eq_true_of_le (Nat.le_trans (Nat.le_of_ble_eq_true h1) (Nat.le_of_ble_eq_true h2))
  induction l with
  | nil =>
    rcases tot o o' hne with ⟨h1, h2⟩ | ⟨h1, h2⟩ <;> simp [setO, nb, hne, Ne.symm hne, h1, h2]
  | cons p l ih =>
    obtain ⟨k, x⟩ := p
    by_cases h : k = o
    · subst h
      rcases tot k o' hne with ⟨h1, h2⟩ | ⟨h1, h2⟩ <;> simp [setO, nb, hne, Ne.symm hne, h1, h2]
    · by_cases h' : k = o'
      · subst h'
        rcases tot o k hne with ⟨h1, h2⟩ | ⟨h1, h2⟩ <;> simp [setO, nb, hne, Ne.symm hne, h1, h2]
      · rcases tot o o' hne with ⟨h1, h2⟩ | ⟨h1, h2⟩ <;> rcases tot o k (Ne.symm h) with ⟨h3, h4⟩ | ⟨h3, h4⟩ <;> rcases tot o' k (Ne.symm h') with ⟨h5, h6⟩ | ⟨h5, h6⟩ <;>
          simp [setO, nb, hne, Ne.symm hne, h, h', h1, h2, h3, h4, h5, h6, ih]
        · have := trans _ _ _ h1 h5; rw [h3] at this; cases this
        · have := trans _ _ _ h2 h3; rw [h5] at this; cases this
theorem getO_delO (l : List (Nat × Ob)) (o o' : Nat) : getO (delO l o) o' = if o' = o then none else getO l o' := by
  induction l with
  | nil => simp [delO, getO]
  | cons p l ih =>
    obtain ⟨k, x⟩ := p
    by_cases h : k = o
    · subst h
      by_cases h' : o' = k
      · subst h'; simp [delO, nb, ih]
      · simp [delO, getO, nb, ih, h', Ne.symm h']
    · by_cases h' : k = o'
      · subst h'; simp [delO, getO, nb, h]
      · simp [delO, getO, nb, h, h', ih]
theorem lk_st (l : List AV) (i j : Nat) (y : AV) : lk (st l i y) j = if j = i ∧ i < l.length then y else lk l j := by
  induction l generalizing i j with
  | nil => simp [st, lk]
  | cons x l ih =>
    cases i <;> cases j <;> simp [st, lk, ih]
theorem st_length (l : List AV) (i : Nat) (y : AV) : (st l i y).length = l.length := by
  induction l generalizing i with
  | nil => rfl
  | cons x l ih => cases i <;> simp [st, ih]
theorem st_eq_set (l : List AV) (i : Nat) (y : AV) : st l i y = l.set i y := by
  induction l generalizing i with
  | nil => rfl
  | cons x l ih => cases i <;> simp [st, ih]
theorem lk_eq (l : List AV) (i : Nat) : lk l i = l.getD i .bad := by
  induction l generalizing i with
  | nil => simp [lk]
  | cons x l ih => cases i <;> simp [lk, ih]

/-- References to object o become unknown. -/
def kill (o : Nat) : AV → AV
  | .row o' => bif (o' == o) then .bad else .row o'
  | .osl o' lo n => bif (o' == o) then .bad else .osl o' lo n
  | .ptr o' i c => bif (o' == o) then .bad else .ptr o' i c
  | .agg xs => .agg (killL o xs)
  | .tup xs => .tup (killL o xs)
  | .fn f caps => .fn f (killL o caps)
  | x => x
where killL (o : Nat) : List AV → List AV
  | [] => []
  | x :: l => kill o x :: killL o l
def killObs (o : Nat) : List (Nat × Ob) → List (Nat × Ob)
  | [] => []
  | (k, x) :: l => (k, bif x.box then { x with els := kill.killL o x.els } else x) :: killObs o l
def AS.kill (s : AS) (o : Nat) : AS := { tmps := kill.killL o s.tmps, objs := killObs o (delO s.objs o) }

end Go.Eng
/- The machine's state and what it says of the model's. -/
namespace Go.Eng
open Go.RowKit
set_option linter.unusedSimpArgs false
set_option linter.unusedVariables false

/-- What stands beside a state: where its objects lie, which blocks are owned. -/
structure Env where
  w : World
  lab : Nat → List Nat
  sg : Nat → Option Nat
  objs : List (Nat × Ob)

def Env.blk (E : Env) (b esz cap : Nat) : Prop := ∃ arr e, E.w.heap[b]? = some (.cells arr e (0, 0)) ∧ arr.size = cap * esz

/-- A reference to an object that is gone says nothing. -/
def Env.row (E : Env) (o : Nat) (c : Value) : Prop :=
  c.oneCell' = true ∧ ∀ ob, getO E.objs o = some ob → ob.box = false ∧
    ((E.sg o = none ∧ c = .slice none 0 0) ∨ ∃ b cap, E.sg o = some b ∧ E.blk b ob.esz cap ∧ c = .slice (some ⟨b, 0, none⟩) ob.els.length cap)

def Env.osl (E : Env) (o lo n : Nat) (c : Value) : Prop :=
  c.oneCell' = true ∧ ∀ ob, getO E.objs o = some ob → ob.box = false ∧ lo + n ≤ ob.els.length ∧
    ((E.sg o = none ∧ c = .slice none 0 0) ∨ ∃ b cap f cap', E.sg o = some b ∧ E.blk b ob.esz cap ∧ c = .slice (some ⟨b, f, none⟩) n cap' ∧
      ((f = lo * ob.esz ∧ cap' = cap - lo) ∨ (n = 0 ∧ cap' = 0 ∧ 0 < lo)))

def Env.ptr (E : Env) (o i c : Nat) (v : Value) : Prop :=
  v.oneCell' = true ∧ ∀ ob, getO E.objs o = some ob → ∃ b, E.sg o = some b ∧ v = .pointer (some ⟨b, i * ob.esz + c, none⟩)

def Env.ip (E : Env) (cs : List AV) (c : Nat) (v : Value) : Prop :=
  ∃ b f, v = .pointer (some ⟨b, f + c, none⟩) ∧ ¬ Root E.lab b ∧ b < E.w.heap.size ∧
    ∀ (j : Nat) (y : AV), cs[j]? = some y → ∃ u, E.w.cell? ⟨b, f + j, none⟩ = some u ∧ C0 E.w E.lab false [] y u

/-- A map with strings for keys, of plain values, which nobody changes. -/
def Env.mp (E : Env) (es : List (ByteArray × Value)) (v : Value) : Prop :=
  ∃ b ents n, v = .map (some b) ∧ E.w.heap[b]? = some (.map ents n) ∧ ents.toList.map (fun e => (e.key, e.val)) = es.map (fun e => (Value.string e.1, e.2)) ∧ ¬ Root E.lab b ∧ ∀ e ∈ es, plain e.2 = true

mutual
def RT (E : Env) : AV → Value → Prop
  | .bad, _ => True
  | .v x, c => C0 E.w E.lab false [] (.v x) c
  | .sl e o n xs, c => C0 E.w E.lab false [] (.sl e o n xs) c
  | .agg xs, c => ∃ cs : List Value, c = .agg cs.toArray ∧ RTL E xs cs ∧ ∀ u ∈ cs, u.oneCell' = true
  | .tup xs, c => ∃ cs : List Value, c = .tuple cs.toArray ∧ RTL E xs cs
  | .fn f caps, c => ∃ cs : List Value, c = .func (.func f) #[] cs.toArray ∧ RTL E caps cs
  | .row o, c => E.row o c
  | .osl o lo n, c => E.osl o lo n c
  | .ptr o i c', c => E.ptr o i c' c
  | .ip cs k, c => E.ip cs k c
  | .mp es, c => E.mp es c
def RTL (E : Env) : List AV → List Value → Prop
  | [], [] => True
  | x :: xs, c :: cs => RT E x c ∧ RTL E xs cs
  | [], _ :: _ => False
  | _ :: _, [] => False
end

theorem RTL.length {E : Env} : ∀ {xs : List AV} {cs : List Value}, RTL E xs cs → xs.length = cs.length
  | [], [], _ => rfl
  | _ :: xs, _ :: cs, h => by simp only [RTL] at h; simp [RTL.length h.2]
  | [], _ :: _, h => by simp [RTL] at h
  | _ :: _, [], h => by simp [RTL] at h

theorem RTL.get {E : Env} : ∀ {xs : List AV} {cs : List Value}, RTL E xs cs → ∀ (i : Nat) (x : AV), xs[i]? = some x → ∃ c, cs[i]? = some c ∧ RT E x c
  | [], [], _, i, x, h => by simp at h
  | a :: xs, c :: cs, h, 0, x, hx => by
    simp only [RTL] at h
    simp at hx; subst hx
    exact ⟨c, rfl, h.1⟩
  | a :: xs, c :: cs, h, i + 1, x, hx => by
    simp only [RTL] at h
    exact RTL.get h.2 i x (by simpa using hx)
  | [], _ :: _, h, _, _, _ => by simp [RTL] at h
  | _ :: _, [], h, _, _, _ => by simp [RTL] at h

theorem RTL.of {E : Env} : ∀ {xs : List AV} {cs : List Value}, xs.length = cs.length → (∀ (i : Nat) (x : AV) (c : Value), xs[i]? = some x → cs[i]? = some c → RT E x c) → RTL E xs cs
  | [], [], _, _ => by simp [RTL]
  | x :: xs, c :: cs, hl, h => by
    simp only [RTL]
    exact ⟨h 0 x c rfl rfl, RTL.of (by simpa using hl) (fun i x c hx hc => h (i + 1) x c (by simpa using hx) (by simpa using hc))⟩
  | [], _ :: _, hl, _ => by simp at hl
  | _ :: _, [], hl, _ => by simp at hl

theorem RTL.append {E : Env} {xs ys : List AV} {cs ds : List Value} (h : RTL E xs cs) (h' : RTL E ys ds) : RTL E (xs ++ ys) (cs ++ ds) := by
  refine RTL.of (by simp [h.length, h'.length]) (fun i x c hx hc => ?_)
  by_cases hi : i < xs.length
  · rw [List.getElem?_append_left hi] at hx
    rw [List.getElem?_append_left (by rw [← h.length]; exact hi)] at hc
    obtain ⟨c', hc', hr⟩ := h.get i x hx
    rw [hc] at hc'; cases hc'; exact hr
  · rw [List.getElem?_append_right (by omega)] at hx
    rw [List.getElem?_append_right (by rw [← h.length]; omega)] at hc
    obtain ⟨c', hc', hr⟩ := h'.get _ x hx
    rw [h.length, hc] at hc'; cases hc'; exact hr

theorem RTL.set {E : Env} : ∀ {xs : List AV} {cs : List Value} (i : Nat) {y : AV} {u : Value}, RTL E xs cs → RT E y u → RTL E (st xs i y) (cs.set i u)
  | [], [], _, _, _, h, _ => by simp [st, RTL]
  | x :: xs, c :: cs, 0, _, _, h, hu => by simp only [RTL] at h; simp [st, RTL, h.2, hu]
  | x :: xs, c :: cs, i + 1, _, _, h, hu => by
    simp only [RTL] at h
    simp only [st, List.set_cons_succ, RTL]
    exact ⟨h.1, RTL.set i h.2 hu⟩
  | [], _ :: _, _, _, _, h, _ => by simp [RTL] at h
  | _ :: _, [], _, _, _, h, _ => by simp [RTL] at h

theorem RTL.drop {E : Env} {xs : List AV} {cs : List Value} (h : RTL E xs cs) (n : Nat) : RTL E (xs.drop n) (cs.drop n) := by
  refine RTL.of (by simp [h.length]) (fun i x c hx hc => ?_)
  rw [List.getElem?_drop] at hx hc
  obtain ⟨c', hc', hr⟩ := h.get _ x hx
  rw [hc] at hc'; cases hc'; exact hr
theorem RTL.take {E : Env} {xs : List AV} {cs : List Value} (h : RTL E xs cs) (n : Nat) : RTL E (xs.take n) (cs.take n) := by
  refine RTL.of (by simp [h.length]) (fun i x c hx hc => ?_)
  have hi : i < n := by
    rcases Nat.lt_or_ge i n with h | h
    · exact h
    · simp [List.getElem?_take, Nat.not_lt.2 h] at hx
  rw [List.getElem?_take, if_pos hi] at hx hc
  obtain ⟨c', hc', hr⟩ := h.get _ x hx
  rw [hc] at hc'; cases hc'; exact hr

/-- How a value of a box's or a row's cell is kept. -/
def RC (E : Env) (box : Bool) (π : List Nat) (y : AV) (c : Value) : Prop :=
  bif box then RT E y c ∧ c.oneCell' = true else C0 E.w E.lab true π y c

def RO (E : Env) (o : Nat) (ob : Ob) : Prop :=
  (E.sg o = none ∧ ob.box = false ∧ ob.els = [] ∧ ob.nl ≠ some false) ∨
  ∃ b cap arr e, E.sg o = some b ∧ E.lab b = [o] ∧ ob.nl ≠ some true ∧ E.w.heap[b]? = some (.cells arr e (0, 0)) ∧ arr.size = cap * ob.esz ∧ ob.els.length ≤ cap ∧
    ∀ (i : Nat) (x : AV), ob.els[i]? = some x → (cellsOf x).length = ob.esz ∧
      ∀ (j : Nat) (y : AV), (cellsOf x)[j]? = some y → ∃ c, arr[i * ob.esz + j]? = some c ∧ RC E ob.box [i, j, o] y c

/-- A world's own part (Sh) may have turned, all else of old is as it was. -/
structure Kept (Sh : Nat → Prop) (w w' : World) : Prop where
  os : w'.os = w.os
  tape : w'.tape = w.tape
  output : w'.output = w.output
  size : w.heap.size ≤ w'.heap.size
  block : ∀ k, k < w.heap.size → ¬ Sh k → w'.heap[k]? = w.heap[k]?

theorem Kept.refl (Sh : Nat → Prop) (w : World) : Kept Sh w w := ⟨rfl, rfl, rfl, Nat.le_refl _, fun _ _ _ => rfl⟩
theorem Kept.of_below {w w' : World} {Sh : Nat → Prop} (h : Below w.heap.size w w') : Kept Sh w w' := ⟨h.os, h.tape, h.output, h.size, fun k hk _ => h.block k hk⟩
theorem Kept.below {w w' : World} (h : Kept (fun _ => False) w w') : Below w.heap.size w w' := ⟨h.os, h.tape, h.output, h.size, fun k hk => h.block k hk (fun h => h)⟩

structure Frm where
  Sh : Nat → Prop
  w0 : World

structure Ok (F : Frm) (s : AS) (a : Act) (E : Env) : Prop where
  objsEq : E.objs = s.objs
  defers : a.defers = []
  kept : Kept F.Sh F.w0 E.w
  tmps : RTL E s.tmps a.tmps.toList
  objs : ∀ o ob, getO s.objs o = some ob → RO E o ob
  labs : ∀ b, E.lab b ≠ [] → (F.w0.heap.size ≤ b ∨ F.Sh b) ∧ b < E.w.heap.size

/-- One environment follows another: what was read is read. N: objects that are new. -/
structure Env.Goes (N : Nat → Prop) (E E' : Env) : Prop where
  size : E.w.heap.size ≤ E'.w.heap.size
  world : ∀ b, b < E.w.heap.size → ¬ Root E.lab b → E'.w.heap[b]? = E.w.heap[b]?
  root : ∀ b, b < E.w.heap.size → ¬ Root E.lab b → ¬ Root E'.lab b
  /-- An object that is not new was there, lay where it lies, had as many elements of the same size, its block is as large. -/
  obj : ∀ o ob', getO E'.objs o = some ob' → N o ∨ ∃ ob, getO E.objs o = some ob ∧ ob'.box = ob.box ∧ ob'.esz = ob.esz ∧ ob'.els.length = ob.els.length ∧ E'.sg o = E.sg o ∧
    ∀ b cap, E.sg o = some b → E.blk b ob.esz cap → E'.blk b ob.esz cap

mutual
/-- No reference to object o. -/
def noRef (o : Nat) : AV → Bool
  | .row o' => !(Nat.beq o' o)
  | .osl o' _ _ => !(Nat.beq o' o)
  | .ptr o' _ _ => !(Nat.beq o' o)
  | .agg xs => noRefL o xs
  | .tup xs => noRefL o xs
  | .fn _ xs => noRefL o xs
  | _ => true
def noRefL (o : Nat) : List AV → Bool
  | [] => true
  | x :: xs => noRef o x && noRefL o xs
end
/-- No reference to a new object. -/
def Free (N : Nat → Prop) (x : AV) : Prop := ∀ o, N o → noRef o x = true
def FreeL (N : Nat → Prop) (x : List AV) : Prop := ∀ o, N o → noRefL o x = true
theorem Free.none (x : AV) : Free (fun _ => False) x := fun _ h => h.elim
theorem FreeL.none (x : List AV) : FreeL (fun _ => False) x := fun _ h => h.elim
theorem FreeL.head {N : Nat → Prop} {x : AV} {l : List AV} (h : FreeL N (x :: l)) : Free N x := fun o ho => by have := h o ho; simp only [noRefL, Bool.and_eq_true] at this; exact this.1
theorem FreeL.tail {N : Nat → Prop} {x : AV} {l : List AV} (h : FreeL N (x :: l)) : FreeL N l := fun o ho => by have := h o ho; simp only [noRefL, Bool.and_eq_true] at this; exact this.2
theorem FreeL.get {N : Nat → Prop} : ∀ {l : List AV}, FreeL N l → ∀ (i : Nat) (x : AV), l[i]? = some x → Free N x
  | [], _, i, x, hx => by simp at hx
  | y :: l, h, 0, x, hx => by simp at hx; subst hx; exact h.head
  | y :: l, h, i + 1, x, hx => FreeL.get h.tail i x (by simpa using hx)

theorem C0.goes {N : Nat → Prop} {E E' : Env} (h : E.Goes N E') {π : List Nat} {y : AV} {c : Value} (hc : C0 E.w E.lab false π y c) : C0 E'.w E'.lab false [] y c :=
  hc.move h.size h.world h.root (by simp)

mutual
theorem RT.goes {N : Nat → Prop} {E E' : Env} (h : E.Goes N E') : ∀ {y : AV} {c : Value}, Free N y → RT E y c → RT E' y c
  | .bad, _, _, _ => by simp [RT]
  | .v x, c, _, hc => by simp only [RT] at *; exact hc.goes h
  | .sl _ _ _ _, c, _, hc => by simp only [RT] at *; exact hc.goes h
  | .agg xs, c, hf, hc => by simp only [RT] at *; obtain ⟨cs, h1, h2, h3⟩ := hc; exact ⟨cs, h1, RTL.goes h (fun o ho => by have := hf o ho; simpa only [noRef] using this) h2, h3⟩
  | .tup xs, c, hf, hc => by simp only [RT] at *; obtain ⟨cs, h1, h2⟩ := hc; exact ⟨cs, h1, RTL.goes h (fun o ho => by have := hf o ho; simpa only [noRef] using this) h2⟩
  | .fn f xs, c, hf, hc => by simp only [RT] at *; obtain ⟨cs, h1, h2⟩ := hc; exact ⟨cs, h1, RTL.goes h (fun o ho => by have := hf o ho; simpa only [noRef] using this) h2⟩
  | .row o, c, hf, hc => by
    simp only [RT] at *
    obtain ⟨h1, h2⟩ := hc
    refine ⟨h1, fun ob' g1 => ?_⟩
    rcases h.obj o ob' g1 with hN | ⟨ob, g1', g2, g3, g4, g5, g6⟩
    · have := hf o hN; simp [noRef] at this
    · obtain ⟨k1, k2⟩ := h2 ob g1'
      refine ⟨by rw [g2, k1], ?_⟩
      rcases k2 with ⟨h3, h4⟩ | ⟨b, cap, h3, h4, h5⟩
      · exact .inl ⟨by rw [g5, h3], h4⟩
      · exact .inr ⟨b, cap, by rw [g5, h3], by rw [g3]; exact g6 b cap h3 h4, by rw [g4]; exact h5⟩
  | .osl o lo n, c, hf, hc => by
    simp only [RT] at *
    obtain ⟨h1, h2⟩ := hc
    refine ⟨h1, fun ob' g1 => ?_⟩
    rcases h.obj o ob' g1 with hN | ⟨ob, g1', g2, g3, g4, g5, g6⟩
    · have := hf o hN; simp [noRef] at this
    · obtain ⟨k1, k1', k2⟩ := h2 ob g1'
      refine ⟨by rw [g2, k1], by rw [g4]; exact k1', ?_⟩
      rcases k2 with ⟨h3, h4⟩ | ⟨b, cap, f, cap', h3, h4, h5, h6⟩
      · exact .inl ⟨by rw [g5, h3], h4⟩
      · exact .inr ⟨b, cap, f, cap', by rw [g5, h3], by rw [g3]; exact g6 b cap h3 h4, h5, by rw [g3]; exact h6⟩
  | .ptr o i k, c, hf, hc => by
    simp only [RT] at *
    obtain ⟨h1, h2⟩ := hc
    refine ⟨h1, fun ob' g1 => ?_⟩
    rcases h.obj o ob' g1 with hN | ⟨ob, g1', g2, g3, g4, g5, g6⟩
    · have := hf o hN; simp [noRef] at this
    · obtain ⟨b, k1, k2⟩ := h2 ob g1'
      exact ⟨b, by rw [g5, k1], by rw [g3]; exact k2⟩
  | .ip cs k, c, _, hc => by
    simp only [RT] at *
    obtain ⟨b, f, h1, h2, h3, h4⟩ := hc
    refine ⟨b, f, h1, h.root b h3 h2, Nat.lt_of_lt_of_le h3 h.size, fun j y hy => ?_⟩
    obtain ⟨u, g1, g2⟩ := h4 j y hy
    exact ⟨u, by rw [World.cell?_of_block (h.world b h3 h2)]; exact g1, g2.goes h⟩
  | .mp es, c, _, hc => by
    simp only [RT] at *
    obtain ⟨b, ents, n, h1, h2, h3, h4, h5⟩ := hc
    have hlt : b < E.w.heap.size := (Array.getElem?_eq_some_iff.1 h2).1
    exact ⟨b, ents, n, h1, by rw [h.world b hlt h4]; exact h2, h3, h.root b hlt h4, h5⟩
theorem RTL.goes {N : Nat → Prop} {E E' : Env} (h : E.Goes N E') : ∀ {xs : List AV} {cs : List Value}, FreeL N xs → RTL E xs cs → RTL E' xs cs
  | [], [], _, _ => by simp [RTL]
  | _ :: _, _ :: _, hf, hc => by simp only [RTL] at *; exact ⟨RT.goes h hf.head hc.1, RTL.goes h hf.tail hc.2⟩
  | [], _ :: _, _, hc => by simp [RTL] at hc
  | _ :: _, [], _, hc => by simp [RTL] at hc
end

theorem RT.v_inv {E : Env} {x c : Value} (h : RT E (.v x) c) : c = x ∧ plain x = true := by
  simp only [RT] at h
  cases h with
  | v h => exact ⟨rfl, h⟩

end Go.Eng
/- How a state turns: a value put, the world grown, an object made, an element set. -/
namespace Go.Eng
open Go.RowKit
set_option linter.unusedSimpArgs false
set_option linter.unusedVariables false

def AS.put (s : AS) (d : Option Nat) (x : AV) : AS := match d with
  | some t => { s with tmps := st s.tmps t x }
  | none => s

theorem Ok.put {F : Frm} {s : AS} {a : Act} {E : Env} (h : Ok F s a E) (d : Option Nat) {x : AV} {c : Value} (hx : RT E x c) : Ok F (s.put d x) (a.put d c) E := by
  cases d with
  | none => exact h
  | some t =>
    refine ⟨h.objsEq, h.defers, h.kept, ?_, h.objs, h.labs⟩
    simp only [AS.put, Act.put, Array.toList_setIfInBounds]
    exact h.tmps.set t hx

theorem Env.blk_of_heap {E E' : Env} {b : Nat} (h : E'.w.heap[b]? = E.w.heap[b]?) {esz cap : Nat} (hb : E.blk b esz cap) : E'.blk b esz cap := by
  obtain ⟨arr, e, h1, h2⟩ := hb
  exact ⟨arr, e, by rw [h]; exact h1, h2⟩

theorem RC.goes {N : Nat → Prop} {E E' : Env} (h : E.Goes N E') {box : Bool} {π : List Nat} {y : AV} {c : Value}
    (hl : ∀ b τ, b < E.w.heap.size → E.lab b = τ ++ π → E'.lab b = τ ++ π) (hf : box = true → Free N y) (hc : RC E box π y c) : RC E' box π y c := by
  cases box with
  | true => simp only [RC, cond_true] at *; exact ⟨hc.1.goes h (hf trivial), hc.2⟩
  | false => simp only [RC, cond_false] at *; exact hc.move h.size h.world h.root (fun _ => ⟨rfl, hl⟩)

theorem RO.goes {N : Nat → Prop} {E E' : Env} {o : Nat} {ob : Ob} (h : E.Goes N E') (hf : ob.box = true → ∀ x ∈ ob.els, FreeL N (cellsOf x)) (hsg : E'.sg o = E.sg o) (hb : ∀ b, E.sg o = some b → E'.w.heap[b]? = E.w.heap[b]?)
    (hlt : ∀ b, E.lab b ≠ [] → b < E.w.heap.size) (hl : ∀ b τ, b < E.w.heap.size → E.lab b = τ ++ [o] → E'.lab b = τ ++ [o]) (hr : RO E o ob) : RO E' o ob := by
  rcases hr with ⟨h1, h2⟩ | ⟨b, cap, arr, e, h1, h2, h3, h4, h5, h6, h7⟩
  · exact .inl ⟨by rw [hsg, h1], h2⟩
  · have hbs : b < E.w.heap.size := hlt b (by rw [h2]; simp)
    refine .inr ⟨b, cap, arr, e, by rw [hsg, h1], by simpa using hl b [] hbs (by simpa using h2), h3, by rw [hb b h1]; exact h4, h5, h6, fun i x hx => ?_⟩
    obtain ⟨g1, g2⟩ := h7 i x hx
    refine ⟨g1, fun j y hy => ?_⟩
    obtain ⟨c, g3, g4⟩ := g2 j y hy
    refine ⟨c, g3, g4.goes h (fun b τ hb hτ => ?_) (fun hb => (hf hb x (List.mem_of_getElem? hx)).get j y hy)⟩
    have := hl b (τ ++ [i, j]) hb (by simpa using hτ)
    simpa using this

/-- The world grows; nothing of old turns. -/
theorem Env.goes_grow {E : Env} {w' : World} (hb : Below E.w.heap.size E.w w') (hlt : ∀ b, E.lab b ≠ [] → b < E.w.heap.size) : E.Goes (fun _ => False) { E with w := w' } where
  size := hb.size
  world b h _ := hb.block b h
  root b _ h := h
  obj o ob h := .inr ⟨ob, h, rfl, rfl, rfl, rfl, fun b cap _ hk => by
    obtain ⟨arr, e, h1, h2⟩ := hk
    have : b < E.w.heap.size := by
      rcases Nat.lt_or_ge b E.w.heap.size with h | h
      · exact h
      · simp [Array.getElem?_eq_none h] at h1
    exact ⟨arr, e, by show w'.heap[b]? = _; rw [hb.block b this]; exact h1, h2⟩⟩

theorem Ok.grow {F : Frm} {s : AS} {a : Act} {E : Env} (h : Ok F s a E) {w' : World} (hb : Below E.w.heap.size E.w w') : Ok F s a { E with w := w' } := by
  have hlt : ∀ b, E.lab b ≠ [] → b < E.w.heap.size := fun b hb => (h.labs b hb).2
  have hg := Env.goes_grow hb hlt
  refine ⟨h.objsEq, h.defers, ?_, h.tmps.goes hg (FreeL.none _), fun o ob ho => ?_, fun b hb' => ⟨(h.labs b hb').1, Nat.lt_of_lt_of_le (h.labs b hb').2 hb.size⟩⟩
  · exact ⟨hb.os.trans h.kept.os, hb.tape.trans h.kept.tape, hb.output.trans h.kept.output, Nat.le_trans h.kept.size hb.size,
      fun k hk hs => (hb.block k (Nat.lt_of_lt_of_le hk h.kept.size)).trans (h.kept.block k hk hs)⟩
  · refine (h.objs o ob ho).goes hg (fun _ _ _ => FreeL.none _) rfl (fun b hb' => ?_) hlt (fun _ _ _ h => h)
    rcases h.objs o ob ho with ⟨h1, _⟩ | ⟨b', _, _, _, h1, h2, _⟩
    · rw [h1] at hb'; cases hb'
    · rw [h1] at hb'; cases hb'
      exact hb.block b (hlt b (by rw [h2]; simp))

/-- The environment behind a new block that is object o's. -/
def Env.new (E : Env) (o : Nat) (ob : Ob) (x : Obj) : Env where
  w := E.w.alloc x
  lab b := if b = E.w.heap.size then [o] else E.lab b
  sg o' := if o' = o then some E.w.heap.size else E.sg o'
  objs := setO E.objs o ob

theorem Env.goes_new {E : Env} {o : Nat} {ob : Ob} {x : Obj} : E.Goes (· = o) (E.new o ob x) where
  size := by simp [Env.new]
  world b h _ := Below.heap_alloc _ _ _ h
  root b h hr := by
    simp only [Env.new, Root] at *
    rw [if_neg (by omega)]
    exact hr
  obj o' ob' h := by
    by_cases hne : o' = o
    · exact .inl hne
    refine .inr ⟨ob', by simp only [Env.new] at h; rwa [getO_setO, if_neg hne] at h, rfl, rfl, rfl, by simp [Env.new, hne], fun b cap _ hk => ?_⟩
    obtain ⟨arr, e, h1, h2⟩ := hk
    have : b < E.w.heap.size := by
      rcases Nat.lt_or_ge b E.w.heap.size with h | h
      · exact h
      · simp [Array.getElem?_eq_none h] at h1
    exact ⟨arr, e, by show (E.w.alloc x).heap[b]? = _; rw [Below.heap_alloc _ _ _ this]; exact h1, h2⟩

/-- No reference to object o in the state. -/
def noRefO (o : Nat) : List (Nat × Ob) → Bool
  | [] => true
  | (_, ob) :: l => (!ob.box || ob.els.all fun x => noRefL o (cellsOf x)) && noRefO o l
theorem noRefO_get {o : Nat} : ∀ {l : List (Nat × Ob)}, noRefO o l = true → ∀ o' ob, getO l o' = some ob → ob.box = true → ∀ x ∈ ob.els, noRefL o (cellsOf x) = true
  | [], _, o', ob, h, _, _, _ => by simp [getO] at h
  | (k, y) :: l, hl, o', ob, h, hb, x, hx => by
    simp only [noRefO, Bool.and_eq_true, Bool.or_eq_true, Bool.not_eq_true'] at hl
    simp only [getO, natbeq, nb] at h
    by_cases hk : k = o'
    · simp [hk] at h; subst h
      rcases hl.1 with h1 | h1
      · rw [h1] at hb; cases hb
      · exact List.all_eq_true.1 h1 x hx
    · simp [hk] at h
      exact noRefO_get hl.2 o' ob h hb x hx

theorem Ok.new {F : Frm} {s : AS} {a : Act} {E : Env} (h : Ok F s a E) {o : Nat} (ho : getO s.objs o = none) (hr1 : noRefL o s.tmps = true) (hr2 : noRefO o s.objs = true) {ob : Ob} {arr : Array Value} {e cap : Nat}
    (hnl : ob.nl ≠ some true) (hsz : arr.size = cap * ob.esz) (hcap : ob.els.length ≤ cap)
    (hc : ∀ (i : Nat) (x : AV), ob.els[i]? = some x → (cellsOf x).length = ob.esz ∧
      ∀ (j : Nat) (y : AV), (cellsOf x)[j]? = some y → ∃ c, arr[i * ob.esz + j]? = some c ∧ RC (E.new o ob (.cells arr e)) ob.box [i, j, o] y c) :
    Ok F { s with objs := setO s.objs o ob } a (E.new o ob (.cells arr e)) := by
  have ho' : getO E.objs o = none := by rw [h.objsEq]; exact ho
  have hg : E.Goes (· = o) (E.new o ob (.cells arr e)) := Env.goes_new
  have hlt : ∀ b, E.lab b ≠ [] → b < E.w.heap.size := fun b hb => (h.labs b hb).2
  refine ⟨by simp [Env.new, h.objsEq], h.defers, ?_, h.tmps.goes hg (fun o' ho' => by subst ho'; exact hr1), fun o' ob' hob => ?_, fun b hb => ?_⟩
  · refine ⟨h.kept.os, h.kept.tape, h.kept.output, by have := h.kept.size; simp [Env.new]; omega, fun k hk hs => ?_⟩
    have := h.kept.size
    exact (Below.heap_alloc _ _ _ (by omega)).trans (h.kept.block k hk hs)
  · rw [getO_setO] at hob
    by_cases hoo : o' = o
    · subst hoo
      rw [if_pos rfl] at hob; cases hob
      refine .inr ⟨E.w.heap.size, cap, arr, e, by simp [Env.new], by simp [Env.new], hnl, ?_, hsz, hcap, hc⟩
      show (E.w.heap.push _)[E.w.heap.size]? = _
      simp
    · rw [if_neg hoo] at hob
      refine (h.objs o' ob' hob).goes hg (fun hbx x hx o₁ ho₁ => by subst ho₁; exact noRefO_get hr2 o' ob' hob hbx x hx) (by simp [Env.new, hoo]) (fun b hb' => ?_) hlt (fun b τ hb hτ => ?_)
      · rcases h.objs o' ob' hob with ⟨h1, _⟩ | ⟨b', _, _, _, h1, h2, _⟩
        · rw [h1] at hb'; cases hb'
        · rw [h1] at hb'; cases hb'
          exact Below.heap_alloc _ _ _ (hlt b (by rw [h2]; simp))
      · simp only [Env.new]; rw [if_neg (by omega)]; exact hτ
  · simp only [Env.new] at hb ⊢
    by_cases hbs : b = E.w.heap.size
    · subst hbs
      refine ⟨.inl h.kept.size, by show _ < (E.w.heap.push _).size; simp⟩
    · rw [if_neg hbs] at hb
      have := h.labs b hb
      exact ⟨this.1, by have := this.2; simp; omega⟩

/-- The environment behind a write into block b, which is (or becomes) object o's. -/
def Env.wr (E : Env) (w' : World) (o : Nat) (ob : Ob) (b : Nat) : Env where
  w := w'
  lab := E.lab
  sg o' := if o' = o then some b else E.sg o'
  objs := setO E.objs o ob

/-- w' is w but for block b. -/
structure Wrote (b : Nat) (w w' : World) : Prop where
  os : w'.os = w.os
  tape : w'.tape = w.tape
  output : w'.output = w.output
  size : w'.heap.size = w.heap.size
  block : ∀ k, k ≠ b → w'.heap[k]? = w.heap[k]?

theorem Env.goes_wr {E : Env} {w' : World} {o : Nat} {ob : Ob} {b : Nat} (hw : Wrote b E.w w') (hroot : E.lab b = [o]) {arr arr' : Array Value} {e : TypeId}
    (h1 : E.w.heap[b]? = some (.cells arr e (0, 0))) (h2 : w'.heap[b]? = some (.cells arr' e (0, 0))) (hsz : arr'.size = arr.size)
    (hold : ∃ ob', getO E.objs o = some ob' ∧ ob'.box = ob.box ∧ ob'.esz = ob.esz ∧ ob'.els.length = ob.els.length ∧ E.sg o = some b) :
    E.Goes (fun _ => False) (E.wr w' o ob b) := by
  have hblk : ∀ k esz cap, E.blk k esz cap → (E.wr w' o ob b).blk k esz cap := fun k esz cap hb => by
    by_cases hkb : k = b
    · subst hkb
      obtain ⟨arr₁, e₁, g1, g2⟩ := hb
      rw [h1] at g1; cases g1
      exact ⟨arr', e, h2, by rw [hsz, g2]⟩
    · exact Env.blk_of_heap (E := E) (E' := E.wr w' o ob b) (hw.block k hkb) hb
  exact {
    size := by simp [Env.wr, hw.size]
    world := fun k h hr => hw.block k (by rintro rfl; exact hr ⟨o, hroot⟩)
    root := fun k h hr => hr
    obj := fun o' ob' h => by
      simp only [Env.wr] at h
      rw [getO_setO] at h
      by_cases hoo : o' = o
      · subst hoo
        rw [if_pos rfl] at h; cases h
        obtain ⟨ob₁, g0, g1, g2, g3, g4⟩ := hold
        exact .inr ⟨ob₁, g0, g1.symm, g2.symm, g3.symm, by simp [Env.wr, g4], fun k cap hk hb => hblk _ _ _ hb⟩
      · rw [if_neg hoo] at h
        exact .inr ⟨ob', h, rfl, rfl, rfl, by simp [Env.wr, hoo], fun k cap hk hb => hblk _ _ _ hb⟩ }

theorem Ok.write {F : Frm} {s : AS} {a : Act} {E : Env} (h : Ok F s a E) {o b : Nat} {ob : Ob} {w' : World} (hw : Wrote b E.w w') (hroot : E.lab b = [o])
    {arr arr' : Array Value} {e : TypeId} {cap : Nat} (h1 : E.w.heap[b]? = some (.cells arr e (0, 0))) (h2 : w'.heap[b]? = some (.cells arr' e (0, 0))) (hsz : arr'.size = arr.size)
    (hold : ∃ ob', getO s.objs o = some ob' ∧ ob'.box = ob.box ∧ ob'.esz = ob.esz ∧ ob'.els.length = ob.els.length ∧ E.sg o = some b)
    (hnl : ob.nl ≠ some true) (hcsz : arr'.size = cap * ob.esz) (hcap : ob.els.length ≤ cap)
    (hc : ∀ (i : Nat) (x : AV), ob.els[i]? = some x → (cellsOf x).length = ob.esz ∧
      ∀ (j : Nat) (y : AV), (cellsOf x)[j]? = some y → ∃ c, arr'[i * ob.esz + j]? = some c ∧ RC (E.wr w' o ob b) ob.box [i, j, o] y c) :
    Ok F { s with objs := setO s.objs o ob } a (E.wr w' o ob b) := by
  have hg : E.Goes (fun _ => False) (E.wr w' o ob b) := Env.goes_wr hw hroot h1 h2 hsz (by rw [h.objsEq]; exact hold)
  have hlt : ∀ b, E.lab b ≠ [] → b < E.w.heap.size := fun b hb => (h.labs b hb).2
  have hlb := h.labs b (by rw [hroot]; simp)
  refine ⟨by simp [Env.wr, h.objsEq], h.defers, ?_, h.tmps.goes hg (FreeL.none _), fun o' ob' hob => ?_, fun k hk => ?_⟩
  · refine ⟨hw.os.trans h.kept.os, hw.tape.trans h.kept.tape, hw.output.trans h.kept.output, by show _ ≤ w'.heap.size; rw [hw.size]; exact h.kept.size, fun k hk hs => ?_⟩
    have hne : k ≠ b := by
      rintro rfl
      rcases hlb.1 with h3 | h3
      · omega
      · exact hs h3
    exact (hw.block k hne).trans (h.kept.block k hk hs)
  · rw [getO_setO] at hob
    by_cases hoo : o' = o
    · subst hoo
      rw [if_pos rfl] at hob; cases hob
      exact .inr ⟨b, cap, arr', e, by simp [Env.wr], hroot, hnl, h2, hcsz, hcap, hc⟩
    · rw [if_neg hoo] at hob
      refine (h.objs o' ob' hob).goes hg (fun _ _ _ => FreeL.none _) (by simp [Env.wr, hoo]) (fun k hk => ?_) hlt (fun _ _ _ h => h)
      rcases h.objs o' ob' hob with ⟨g1, _⟩ | ⟨b', _, _, _, g1, g2, _⟩
      · rw [g1] at hk; cases hk
      · rw [g1] at hk; cases hk
        refine hw.block _ ?_
        rintro rfl
        rw [hroot] at g2
        exact hoo (by simpa using g2.symm)
  · have := h.labs k hk
    exact ⟨this.1, by show k < w'.heap.size; rw [hw.size]; exact this.2⟩

end Go.Eng
/- A state may be forgotten in part ('Fits'): a value unknown, an object dropped, a nil slice taken for a row. -/
namespace Go.Eng
open Go.RowKit
set_option linter.unusedSimpArgs false
set_option linter.unusedVariables false
set_option linter.unusedSectionVars false

mutual
/-- y says no more than x. 'old': the objects before. -/
def leA (old : List (Nat × Ob)) : AV → AV → Prop
  | _, .bad => True
  | .agg xs, .agg ys => leL old xs ys
  | .tup _, .tup _ => False
  | .v (.slice none 0 0), .row o => getO old o = none
  | .row o, .row o' => o = o' ∧ (getO old o).isSome = true
  | .osl o lo n, .osl o' lo' n' => (o = o' ∧ lo = lo' ∧ n = n') ∧ (getO old o).isSome = true
  | .ptr o i c, .ptr o' i' c' => (o = o' ∧ i = i' ∧ c = c') ∧ (getO old o).isSome = true
  | .fn f xs, .fn g ys => f = g ∧ leL old xs ys
  | x, y => x = y
def leL (old : List (Nat × Ob)) : List AV → List AV → Prop
  | [], [] => True
  | x :: xs, y :: ys => leA old x y ∧ leL old xs ys
  | _, _ => False
end

def leE (old : List (Nat × Ob)) : List AV → List AV → Prop
  | [], [] => True
  | x :: xs, y :: ys => leL old (cellsOf x) (cellsOf y) ∧ leE old xs ys
  | _, _ => False
def leOb (old : List (Nat × Ob)) (ob ob' : Ob) : Prop :=
  ob'.box = ob.box ∧ ob'.esz = ob.esz ∧ (ob'.nl = none ∨ ob'.nl = ob.nl) ∧ (bif ob.box then leE old ob.els ob'.els else ob.els = ob'.els)
def leObs (old : List (Nat × Ob)) : List (Nat × Ob) → Prop
  | [] => True
  | (o, ob') :: l => (match getO old o with
    | some ob => leOb old ob ob'
    | none => ob'.box = false ∧ ob'.els = [] ∧ ob'.nl ≠ some false) ∧ leObs old l

structure Fits (s s' : AS) : Prop where
  tmps : leL s.objs s.tmps s'.tmps
  objs : leObs s.objs s'.objs

theorem leObs_get {old : List (Nat × Ob)} : ∀ {l : List (Nat × Ob)}, leObs old l → ∀ o ob', getO l o = some ob' →
    (∃ ob, getO old o = some ob ∧ leOb old ob ob') ∨ (getO old o = none ∧ ob'.box = false ∧ ob'.els = [] ∧ ob'.nl ≠ some false)
  | [], _, o, ob', h => by simp [getO] at h
  | (k, x) :: l, hl, o, ob', h => by
    simp only [leObs] at hl
    simp only [getO, natbeq, nb] at h
    by_cases hk : k = o
    · subst hk
      simp at h; subst h
      have := hl.1
      cases hg : getO old k with
      | some ob => rw [hg] at this; exact .inl ⟨ob, rfl, this⟩
      | none => rw [hg] at this; exact .inr ⟨rfl, this⟩
    · simp [hk] at h
      exact leObs_get hl.2 o ob' h

theorem leL_length {old : List (Nat × Ob)} : ∀ {xs ys : List AV}, leL old xs ys → xs.length = ys.length
  | [], [], _ => rfl
  | _ :: xs, _ :: ys, h => by simp only [leL] at h; simp [leL_length h.2]
  | [], _ :: _, h => by simp [leL] at h
  | _ :: _, [], h => by simp [leL] at h

theorem leE_length {old : List (Nat × Ob)} : ∀ {xs ys : List AV}, leE old xs ys → xs.length = ys.length
  | [], [], _ => rfl
  | _ :: xs, _ :: ys, h => by simp only [leE] at h; simp [leE_length h.2]
  | [], _ :: _, h => by simp [leE] at h
  | _ :: _, [], h => by simp [leE] at h
theorem leE_get {old : List (Nat × Ob)} : ∀ {xs ys : List AV}, leE old xs ys → ∀ (i : Nat) (y : AV), ys[i]? = some y →
    ∃ x, xs[i]? = some x ∧ leL old (cellsOf x) (cellsOf y)
  | [], [], _, i, y, h => by simp at h
  | x :: xs, y :: ys, h, 0, _, hy => by simp only [leE] at h; simp at hy; subst hy; exact ⟨x, rfl, h.1⟩
  | x :: xs, y :: ys, h, i + 1, _, hy => by simp only [leE] at h; exact leE_get h.2 i _ (by simpa using hy)
  | [], _ :: _, h, _, _, _ => by simp [leE] at h
  | _ :: _, [], h, _, _, _ => by simp [leE] at h

def Env.fit (E : Env) (new : List (Nat × Ob)) : Env := { E with objs := new, sg := fun o => if getO E.objs o = none then none else E.sg o }

theorem RT.agg_inv {E : Env} {xs : List AV} {c : Value} (h : RT E (.agg xs) c) : ∃ cs : List Value, c = .agg cs.toArray ∧ RTL E xs cs ∧ ∀ u ∈ cs, u.oneCell' = true := by simpa only [RT] using h

section
variable {E : Env} {new : List (Nat × Ob)} (hle : leObs E.objs new)
include hle

theorem fit_obj (o : Nat) (hs : (getO E.objs o).isSome = true) (ob' : Ob) (h' : getO new o = some ob') :
    ∃ ob, getO E.objs o = some ob ∧ ob'.box = ob.box ∧ ob'.esz = ob.esz ∧ ob'.els.length = ob.els.length := by
  rcases leObs_get hle o ob' h' with ⟨ob, g1, g2⟩ | ⟨g1, _⟩
  · refine ⟨ob, g1, g2.1, g2.2.1, ?_⟩
    have := g2.2.2.2
    cases hb : ob.box with
    | true => rw [hb] at this; simp only [cond_true] at this; exact (leE_length this).symm
    | false => rw [hb] at this; simp only [cond_false] at this; rw [this]
  · rw [g1] at hs; cases hs

theorem fit_nil (o : Nat) (h : getO E.objs o = none) (ob' : Ob) (h' : getO new o = some ob') : ob'.box = false ∧ ob'.els = [] ∧ ob'.nl ≠ some false := by
  rcases leObs_get hle o ob' h' with ⟨ob₁, g1, g2⟩ | ⟨_, g1⟩
  · rw [h] at g1; cases g1
  · exact g1

mutual
theorem RT.fit : ∀ {x y : AV} {c : Value}, RT E x c → leA E.objs x y → RT (E.fit new) y c
  | _, .bad, _, _, _ => by simp [RT]
  | x, .v u, c, h, hl => by
    have : x = .v u := by cases x <;> simp_all [leA]
    subst this
    simp only [RT] at *; exact h
  | x, .sl e o n l, c, h, hl => by
    have : x = .sl e o n l := by cases x <;> simp_all [leA]
    subst this
    simp only [RT] at *; exact h
  | .agg xs, .agg ys, c, h, hl => by
    simp only [leA] at hl
    simp only [RT] at *
    obtain ⟨cs, h1, h2, h3⟩ := h
    exact ⟨cs, h1, RTL.fit h2 hl, h3⟩
  | .v u, .agg ys, c, h, hl => by simp [leA] at hl
  | .sl _ _ _ _, .agg ys, c, h, hl => by simp [leA] at hl
  | .tup _, .agg ys, c, h, hl => by simp [leA] at hl
  | .row _, .agg ys, c, h, hl => by simp [leA] at hl
  | .osl _ _ _, .agg ys, c, h, hl => by simp [leA] at hl
  | .ptr _ _ _, .agg ys, c, h, hl => by simp [leA] at hl
  | .ip _ _, .agg ys, c, h, hl => by simp [leA] at hl
  | .mp _, .agg ys, c, h, hl => by simp [leA] at hl
  | .fn _ _, .agg ys, c, h, hl => by simp [leA] at hl
  | .bad, .agg ys, c, h, hl => by simp [leA] at hl
  | .agg _, .fn f ys, c, h, hl => by simp [leA] at hl
  | .v u, .fn f ys, c, h, hl => by simp [leA] at hl
  | .sl _ _ _ _, .fn f ys, c, h, hl => by simp [leA] at hl
  | .tup _, .fn f ys, c, h, hl => by simp [leA] at hl
  | .row _, .fn f ys, c, h, hl => by simp [leA] at hl
  | .osl _ _ _, .fn f ys, c, h, hl => by simp [leA] at hl
  | .ptr _ _ _, .fn f ys, c, h, hl => by simp [leA] at hl
  | .ip _ _, .fn f ys, c, h, hl => by simp [leA] at hl
  | .mp _, .fn f ys, c, h, hl => by simp [leA] at hl
  | .bad, .fn f ys, c, h, hl => by simp [leA] at hl
  | .fn f xs, .fn g ys, c, h, hl => by
    simp only [leA] at hl
    obtain ⟨rfl, hl⟩ := hl
    simp only [RT] at *
    obtain ⟨cs, h1, h2⟩ := h
    exact ⟨cs, h1, RTL.fit h2 hl⟩
  | x, .tup ys, c, h, hl => by cases x <;> simp [leA] at hl
  | x, .row o, c, h, hl => by
    have hx : (x = .row o ∧ (getO E.objs o).isSome = true) ∨ (x = .v (.slice none 0 0) ∧ getO E.objs o = none) := by
      cases x with
      | v u =>
        right
        unfold leA at hl
        split at hl <;> simp_all
      | row o' => left; simp only [leA] at hl; obtain ⟨rfl, h2⟩ := hl; exact ⟨rfl, h2⟩
      | _ => simp [leA] at hl
    rcases hx with ⟨rfl, hs⟩ | ⟨rfl, hn⟩
    · simp only [RT] at *
      obtain ⟨h1, h2⟩ := h
      refine ⟨h1, fun ob' g1 => ?_⟩
      obtain ⟨ob, g1', g2, g3, g4⟩ := fit_obj hle o hs ob' g1
      have hsg : (E.fit new).sg o = E.sg o := by simp [Env.fit, g1']
      obtain ⟨k1, k2⟩ := h2 ob g1'
      refine ⟨by rw [g2, k1], ?_⟩
      rcases k2 with ⟨h3, h4⟩ | ⟨b, cap, h3, h4, h5⟩
      · exact .inl ⟨by rw [hsg, h3], h4⟩
      · exact .inr ⟨b, cap, by rw [hsg, h3], by rw [g3]; exact h4, by rw [g4]; exact h5⟩
    · have := RT.v_inv h
      simp only [RT]
      refine ⟨by rw [this.1]; rfl, fun ob' g1 => ?_⟩
      obtain ⟨g2, g3, g4⟩ := fit_nil hle o hn ob' g1
      exact ⟨g2, .inl ⟨by simp [Env.fit, hn], this.1⟩⟩
  | x, .osl o lo n, c, h, hl => by
    have hx : x = .osl o lo n ∧ (getO E.objs o).isSome = true := by
      cases x with
      | osl o' lo' n' => simp only [leA] at hl; obtain ⟨⟨rfl, rfl, rfl⟩, h2⟩ := hl; exact ⟨rfl, h2⟩
      | _ => simp [leA] at hl
    obtain ⟨rfl, hs⟩ := hx
    simp only [RT] at *
    obtain ⟨h1, h2⟩ := h
    refine ⟨h1, fun ob' g1 => ?_⟩
    obtain ⟨ob, g1', g2, g3, g4⟩ := fit_obj hle o hs ob' g1
    have hsg : (E.fit new).sg o = E.sg o := by simp [Env.fit, g1']
    obtain ⟨k1, k1', k2⟩ := h2 ob g1'
    refine ⟨by rw [g2, k1], by rw [g4]; exact k1', ?_⟩
    rcases k2 with ⟨h3, h4⟩ | ⟨b, cap, f, cap', h3, h4, h5, h6⟩
    · exact .inl ⟨by rw [hsg, h3], h4⟩
    · exact .inr ⟨b, cap, f, cap', by rw [hsg, h3], by rw [g3]; exact h4, h5, by rw [g3]; exact h6⟩
  | x, .ptr o i k, c, h, hl => by
    have hx : x = .ptr o i k ∧ (getO E.objs o).isSome = true := by
      cases x with
      | ptr o' i' c' => simp only [leA] at hl; obtain ⟨⟨rfl, rfl, rfl⟩, h2⟩ := hl; exact ⟨rfl, h2⟩
      | _ => simp [leA] at hl
    obtain ⟨rfl, hs⟩ := hx
    simp only [RT] at *
    obtain ⟨h1, h2⟩ := h
    refine ⟨h1, fun ob' g1 => ?_⟩
    obtain ⟨ob, g1', g2, g3, g4⟩ := fit_obj hle o hs ob' g1
    obtain ⟨b, k1, k2⟩ := h2 ob g1'
    exact ⟨b, by simp [Env.fit, g1', k1], by rw [g3]; exact k2⟩
  | x, .ip cs k, c, h, hl => by
    have : x = .ip cs k := by cases x <;> simp_all [leA]
    subst this
    simp only [RT] at *
    exact h
  | x, .mp es, c, h, hl => by
    have : x = .mp es := by cases x <;> simp_all [leA]
    subst this
    simp only [RT] at *
    exact h
theorem RTL.fit : ∀ {xs ys : List AV} {cs : List Value}, RTL E xs cs → leL E.objs xs ys → RTL (E.fit new) ys cs
  | [], [], [], _, _ => by simp [RTL]
  | _ :: _, _ :: _, _ :: _, h, hl => by
    simp only [RTL, leL] at *
    exact ⟨RT.fit h.1 hl.1, RTL.fit h.2 hl.2⟩
  | [], _ :: _, _, _, hl => by simp [leL] at hl
  | _ :: _, [], _, _, hl => by simp [leL] at hl
  | [], _, _ :: _, h, _ => by simp [RTL] at h
  | _ :: _, _, [], h, _ => by simp [RTL] at h
end
end

theorem leL_get {old : List (Nat × Ob)} : ∀ {xs ys : List AV}, leL old xs ys → ∀ (i : Nat) (y : AV), ys[i]? = some y → ∃ x, xs[i]? = some x ∧ leA old x y
  | [], [], _, i, y, h => by simp at h
  | x :: xs, y :: ys, h, 0, _, hy => by simp only [leL] at h; simp at hy; subst hy; exact ⟨x, rfl, h.1⟩
  | x :: xs, y :: ys, h, i + 1, _, hy => by simp only [leL] at h; exact leL_get h.2 i _ (by simpa using hy)
  | [], _ :: _, h, _, _, _ => by simp [leL] at h
  | _ :: _, [], h, _, _, _ => by simp [leL] at h
theorem Ok.fits {F : Frm} {s s' : AS} {a : Act} {E : Env} (h : Ok F s a E) (hf : Fits s s') : Ok F s' a (E.fit s'.objs) := by
  have hle : leObs E.objs s'.objs := by rw [h.objsEq]; exact hf.objs
  refine ⟨rfl, h.defers, h.kept, RTL.fit hle h.tmps (by rw [h.objsEq]; exact hf.tmps), fun o ob' ho => ?_, h.labs⟩
  rcases leObs_get hle o ob' ho with ⟨ob, g1, g2, g3, g4, g5⟩ | ⟨g1, g2, g3, g4⟩
  · have hsg : (E.fit s'.objs).sg o = E.sg o := by simp [Env.fit, g1]
    rcases h.objs o ob (by rw [← h.objsEq]; exact g1) with ⟨h1, h2, h3, h4⟩ | ⟨b, cap, arr, e, h1, h2, h3, h4, h5, h6, h7⟩
    · rw [h2] at g5
      simp only [cond_false] at g5
      exact .inl ⟨by rw [hsg, h1], by rw [g2, h2], by rw [← g5, h3], by rcases g4 with g4 | g4 <;> rw [g4] <;> simp [h4]⟩
    · refine .inr ⟨b, cap, arr, e, by rw [hsg, h1], h2, by rcases g4 with g4 | g4 <;> rw [g4] <;> simp [h3], h4, by rw [g3]; exact h5, ?_, fun i x hx => ?_⟩
      · cases hb : ob.box with
        | true => rw [hb] at g5; simp only [cond_true] at g5; rw [← leE_length g5]; exact h6
        | false => rw [hb] at g5; simp only [cond_false] at g5; rw [← g5]; exact h6
      · cases hb : ob.box with
        | false =>
          rw [hb] at g5; simp only [cond_false] at g5
          rw [← g5] at hx
          obtain ⟨k1, k2⟩ := h7 i x hx
          refine ⟨by rw [g3]; exact k1, fun j y hy => ?_⟩
          obtain ⟨c, k3, k4⟩ := k2 j y hy
          refine ⟨c, by rw [g3]; exact k3, ?_⟩
          rw [g2, hb]; rw [hb] at k4
          simp only [RC, cond_false] at *
          exact k4
        | true =>
          rw [hb] at g5; simp only [cond_true] at g5
          obtain ⟨x₀, hx₀, hxl⟩ := leE_get g5 i x hx
          obtain ⟨k1, k2⟩ := h7 i x₀ hx₀
          refine ⟨by rw [g3, ← leL_length hxl]; exact k1, fun j y hy => ?_⟩
          obtain ⟨y₀, hy₀, hyl⟩ := leL_get hxl j y hy
          obtain ⟨c, k3, k4⟩ := k2 j y₀ hy₀
          refine ⟨c, by rw [g3]; exact k3, ?_⟩
          rw [g2, hb]; rw [hb] at k4
          simp only [RC, cond_true] at *
          exact ⟨RT.fit hle k4.1 hyl, k4.2⟩
  · exact .inl ⟨by simp [Env.fit, g1], g2, g3, g4⟩

end Go.Eng
/- A state's references turned: an object frozen (from now on a value), dropped, named anew. -/
namespace Go.Eng
open Go.RowKit
set_option linter.unusedSimpArgs false
set_option linter.unusedVariables false
set_option linter.unusedSectionVars false

/-- The references of a value, turned. -/
def mapA (fr : Nat → AV) (fo fp : Nat → Nat → Nat → AV) : AV → AV
  | .row o => fr o
  | .osl o lo n => fo o lo n
  | .ptr o i c => fp o i c
  | .agg xs => .agg (mapL xs)
  | .tup xs => .tup (mapL xs)
  | .fn f xs => .fn f (mapL xs)
  | x => x
where mapL : List AV → List AV
  | [] => []
  | x :: l => mapA fr fo fp x :: mapL l
def mapOb (fr : Nat → AV) (fo fp : Nat → Nat → Nat → AV) (ob : Ob) : Ob := match ob.box with
  | true => { ob with els := mapA.mapL fr fo fp ob.els }
  | false => ob
def mapObs (fr : Nat → AV) (fo fp : Nat → Nat → Nat → AV) : List (Nat × Ob) → List (Nat × Ob)
  | [] => []
  | (k, ob) :: l => (k, mapOb fr fo fp ob) :: mapObs fr fo fp l

section
variable {fr : Nat → AV} {fo fp : Nat → Nat → Nat → AV}
theorem mapL_map (l : List AV) : mapA.mapL fr fo fp l = l.map (mapA fr fo fp) := by
  induction l with
  | nil => rfl
  | cons x l ih => simp [mapA.mapL, ih]
theorem getO_mapObs (l : List (Nat × Ob)) (k : Nat) : getO (mapObs fr fo fp l) k = (getO l k).map (mapOb fr fo fp) := by
  induction l with
  | nil => rfl
  | cons p l ih =>
    obtain ⟨e, x⟩ := p
    simp only [mapObs, getO]
    cases Nat.beq e k <;> simp [ih]
theorem mapOb_same (ob : Ob) : (mapOb fr fo fp ob).box = ob.box ∧ (mapOb fr fo fp ob).esz = ob.esz ∧ (mapOb fr fo fp ob).els.length = ob.els.length ∧ (mapOb fr fo fp ob).nl = ob.nl := by
  unfold mapOb
  cases h : ob.box <;> simp [h, mapL_map]
end

/-- What is asked of the turned references. -/
structure MapOk (E E' : Env) (fr : Nat → AV) (fo fp : Nat → Nat → Nat → AV) : Prop where
  w : E'.w = E.w
  root : ∀ b, ¬ Root E.lab b → ¬ Root E'.lab b
  row : ∀ k c, E.row k c → RT E' (fr k) c
  osl : ∀ k lo n c, E.osl k lo n c → RT E' (fo k lo n) c
  ptr : ∀ k i j c, E.ptr k i j c → RT E' (fp k i j) c
  crow : ∀ k, cellsOf (fr k) = [fr k]
  cosl : ∀ k lo n, cellsOf (fo k lo n) = [fo k lo n]
  cptr : ∀ k i j, cellsOf (fp k i j) = [fp k i j]

section
variable {E E' : Env} {fr : Nat → AV} {fo fp : Nat → Nat → Nat → AV} (hm : MapOk E E' fr fo fp)
include hm
theorem MapOk.c0 {π : List Nat} {y : AV} {c : Value} (h : C0 E.w E.lab false π y c) : C0 E'.w E'.lab false [] y c := by
  rw [hm.w]; exact h.move (Nat.le_refl _) (fun _ _ _ => rfl) (fun b _ hr => hm.root b hr) (by simp)
theorem MapOk.cells (x : AV) : cellsOf (mapA fr fo fp x) = mapA.mapL fr fo fp (cellsOf x) := by
  cases x <;> simp only [mapA, cellsOf, mapA.mapL]
  · exact hm.crow _
  · exact hm.cosl _ _ _
  · exact hm.cptr _ _ _

mutual
theorem RT.map : ∀ {x : AV} {c : Value}, RT E x c → RT E' (mapA fr fo fp x) c
  | .bad, c, h => by simp [mapA, RT]
  | .v u, c, h => by simp only [mapA, RT] at *; exact hm.c0 h
  | .sl _ _ _ _, c, h => by simp only [mapA, RT] at *; exact hm.c0 h
  | .agg xs, c, h => by
    simp only [mapA, RT] at *
    obtain ⟨cs, h1, h2, h3⟩ := h
    exact ⟨cs, h1, RTL.map h2, h3⟩
  | .tup xs, c, h => by
    simp only [mapA, RT] at *
    obtain ⟨cs, h1, h2⟩ := h
    exact ⟨cs, h1, RTL.map h2⟩
  | .fn f xs, c, h => by
    simp only [mapA, RT] at *
    obtain ⟨cs, h1, h2⟩ := h
    exact ⟨cs, h1, RTL.map h2⟩
  | .row k, c, h => by simp only [mapA]; exact hm.row k c (by simpa only [RT] using h)
  | .osl k lo n, c, h => by simp only [mapA]; exact hm.osl k lo n c (by simpa only [RT] using h)
  | .ptr k i j, c, h => by simp only [mapA]; exact hm.ptr k i j c (by simpa only [RT] using h)
  | .ip cs k, c, h => by
    simp only [mapA, RT] at *
    obtain ⟨b, f, h1, h2, h3, h4⟩ := h
    refine ⟨b, f, h1, hm.root b h2, by rw [hm.w]; exact h3, fun j y hj => ?_⟩
    obtain ⟨u, k1, k2⟩ := h4 j y hj
    exact ⟨u, by rw [hm.w]; exact k1, hm.c0 k2⟩
  | .mp es, c, h => by
    simp only [mapA, RT] at *
    obtain ⟨b, ents, n, h1, h2, h3, h4, h5⟩ := h
    exact ⟨b, ents, n, h1, by rw [hm.w]; exact h2, h3, hm.root b h4, h5⟩
theorem RTL.map : ∀ {xs : List AV} {cs : List Value}, RTL E xs cs → RTL E' (mapA.mapL fr fo fp xs) cs
  | [], [], _ => by simp [mapA.mapL, RTL]
  | _ :: _, _ :: _, h => by simp only [RTL, mapA.mapL] at *; exact ⟨RT.map h.1, RTL.map h.2⟩
  | [], _ :: _, h => by simp [RTL] at h
  | _ :: _, [], h => by simp [RTL] at h
end
end

def AS.map (s : AS) (o : Nat) (fr : Nat → AV) (fo fp : Nat → Nat → Nat → AV) : AS := { tmps := mapA.mapL fr fo fp s.tmps, objs := mapObs fr fo fp (delO s.objs o) }

theorem RO.map {E E' : Env} {fr : Nat → AV} {fo fp : Nat → Nat → Nat → AV} (hm : MapOk E E' fr fo fp) {k : Nat} {ob : Ob} (hsg : E'.sg k = E.sg k) (hlab : ∀ b τ, E.lab b = τ ++ [k] → E'.lab b = τ ++ [k]) (hr : RO E k ob) : RO E' k (mapOb fr fo fp ob) := by
  obtain ⟨m1, m2, m3, m4⟩ := mapOb_same (fr := fr) (fo := fo) (fp := fp) ob
  rcases hr with ⟨h1, h2, h3, h4⟩ | ⟨b, cap, arr, e, h1, h2, h3, h4, h5, h6, h7⟩
  · refine .inl ⟨by rw [hsg]; exact h1, by rw [m1]; exact h2, ?_, by rw [m4]; exact h4⟩
    exact List.eq_nil_of_length_eq_zero (by rw [m3, h3]; rfl)
  · refine .inr ⟨b, cap, arr, e, by rw [hsg]; exact h1, by simpa using hlab b [] (by simpa using h2), by rw [m4]; exact h3, by rw [hm.w]; exact h4, by rw [m2]; exact h5, by rw [m3]; exact h6, fun i x hx => ?_⟩
    cases hbx : ob.box with
    | true =>
      have hx' : (mapA.mapL fr fo fp ob.els)[i]? = some x := by simpa [mapOb, hbx] using hx
      rw [mapL_map, List.getElem?_map] at hx'
      cases hq : ob.els[i]? with
      | none => rw [hq] at hx'; cases hx'
      | some y =>
        rw [hq] at hx'
        simp only [Option.map_some, Option.some.injEq] at hx'
        subst hx'
        obtain ⟨k1, k2⟩ := h7 i y hq
        rw [hm.cells]
        refine ⟨by rw [m2, ← k1]; simp [mapL_map], fun j z hz => ?_⟩
        rw [mapL_map, List.getElem?_map] at hz
        cases hq2 : (cellsOf y)[j]? with
        | none => rw [hq2] at hz; cases hz
        | some z' =>
          rw [hq2] at hz
          simp only [Option.map_some, Option.some.injEq] at hz
          subst hz
          obtain ⟨c, k3, k4⟩ := k2 j z' hq2
          refine ⟨c, by rw [m2]; exact k3, ?_⟩
          rw [hbx] at k4
          rw [m1, hbx]
          simp only [RC, cond_true] at k4 ⊢
          exact ⟨k4.1.map hm, k4.2⟩
    | false =>
      have hx' : ob.els[i]? = some x := by simpa [mapOb, hbx] using hx
      obtain ⟨k1, k2⟩ := h7 i x hx'
      refine ⟨by rw [m2]; exact k1, fun j z hz => ?_⟩
      obtain ⟨c, k3, k4⟩ := k2 j z hz
      refine ⟨c, by rw [m2]; exact k3, ?_⟩
      rw [hbx] at k4
      rw [m1, hbx]
      simp only [RC, cond_false] at k4 ⊢
      rw [hm.w]
      refine k4.move (Nat.le_refl _) (fun _ _ _ => rfl) (fun b _ hr => hm.root b hr) (fun _ => ⟨rfl, fun b τ _ hτ => ?_⟩)
      have := hlab b (τ ++ [i, j]) (by simpa using hτ)
      simpa using this

/-- Object o is taken out, the references are turned. -/
theorem Ok.map {F : Frm} {s : AS} {a : Act} {E E' : Env} (h : Ok F s a E) {o : Nat} {fr : Nat → AV} {fo fp : Nat → Nat → Nat → AV} (hm : MapOk E E' fr fo fp)
    (hobjs : E'.objs = mapObs fr fo fp (delO E.objs o)) (hsg : ∀ k, k ≠ o → E'.sg k = E.sg k)
    (hlab : ∀ b τ k, k ≠ o → E.lab b = τ ++ [k] → E'.lab b = τ ++ [k]) (hlabs : ∀ b, E'.lab b ≠ [] → E.lab b ≠ []) : Ok F (s.map o fr fo fp) a E' := by
  refine ⟨by rw [hobjs, h.objsEq]; rfl, h.defers, by rw [hm.w]; exact h.kept, h.tmps.map hm, fun k ob' hk => ?_, fun b hb => by rw [hm.w]; exact h.labs b (hlabs b hb)⟩
  have hk' : getO (mapObs fr fo fp (delO s.objs o)) k = some ob' := hk
  rw [getO_mapObs, getO_delO] at hk'
  by_cases hko : k = o
  · rw [if_pos hko] at hk'; cases hk'
  rw [if_neg hko] at hk'
  cases hq : getO s.objs k with
  | none => rw [hq] at hk'; cases hk'
  | some ob =>
    rw [hq] at hk'
    simp only [Option.map_some, Option.some.injEq] at hk'
    subst hk'
    exact RO.map hm (hsg k hko) (fun b τ hτ => hlab b τ k hko hτ) (h.objs k ob hq)

/-- Labels that end in o end in π instead. -/
def relab (o : Nat) (π p : List Nat) : List Nat := if p.getLast? = some o then p.dropLast ++ π else p
theorem relab_app (o : Nat) (π τ : List Nat) : relab o π (τ ++ [o]) = τ ++ π := by simp [relab]
theorem relab_other {o k : Nat} (h : k ≠ o) (π τ : List Nat) : relab o π (τ ++ [k]) = τ ++ [k] := by simp [relab, h]
theorem relab_cases (o : Nat) (π p : List Nat) : (∃ τ, p = τ ++ [o] ∧ relab o π p = τ ++ π) ∨ (relab o π p = p ∧ p.getLast? ≠ some o) := by
  by_cases h : p.getLast? = some o
  · left
    refine ⟨p.dropLast, ?_, by simp [relab, h]⟩
    have hne : p ≠ [] := by rintro rfl; simp at h
    have h2 : p.getLast hne = o := by rw [List.getLast?_eq_some_getLast hne] at h; simpa using h
    have := List.dropLast_concat_getLast hne
    rw [h2] at this
    exact this.symm
  · right; exact ⟨by simp [relab, h], h⟩
theorem relab_ne {o : Nat} {π p : List Nat} (h : relab o π p ≠ []) : p ≠ [] := by
  rintro rfl; exact h (by simp [relab])
theorem relab_root {o : Nat} {π p : List Nat} (hπ : 1 ≤ π.length) (h : ¬ ∃ k, p = [k]) : ¬ ∃ k, relab o π p = [k] := by
  rintro ⟨k, hk⟩
  rcases relab_cases o π p with ⟨τ, h1, h2⟩ | ⟨h1, _⟩
  · rw [h2] at hk
    have hl := congrArg List.length hk
    simp at hl
    have : τ = [] := List.eq_nil_of_length_eq_zero (by omega)
    subst this
    exact h ⟨o, by simpa using h1⟩
  · rw [h1] at hk; exact h ⟨k, hk⟩

/- Freezing. -/
def frR (o : Nat) (B : Ob) (k : Nat) : AV := match Nat.beq k o with
  | true => .sl B.esz false B.nl B.els
  | false => .row k
def frO (o : Nat) (B : Ob) (k lo n : Nat) : AV := match Nat.beq k o with
  | true => .sl B.esz false none ((B.els.drop lo).take n)
  | false => .osl k lo n
def frP (o : Nat) (k i c : Nat) : AV := match Nat.beq k o with
  | true => .bad
  | false => .ptr k i c
def AS.frz (s : AS) (o : Nat) (B : Ob) : AS := s.map o (frR o B) (frO o B) (frP o)

/-- The block of object o, and what it owns, goes to the place π. -/
def Env.frz (E : Env) (o : Nat) (B : Ob) (π : List Nat) : Env where
  w := E.w
  lab b := relab o π (E.lab b)
  sg := E.sg
  objs := mapObs (frR o B) (frO o B) (frP o) (delO E.objs o)

theorem slice_any {E : Env} {o : Nat} {ob : Ob} (hbox : ob.box = false) {lab' : Nat → List Nat} (hl : ∀ b, b < E.w.heap.size → ¬ Root E.lab b → ¬ Root lab' b) {b : Nat} (hb0 : ¬ Root lab' b) {arr : Array Value} {e : TypeId} (h4 : E.w.heap[b]? = some (.cells arr e (0, 0)))
    (h7 : ∀ (i : Nat) (x : AV), ob.els[i]? = some x → (cellsOf x).length = ob.esz ∧ ∀ (j : Nat) (y : AV), (cellsOf x)[j]? = some y → ∃ c, arr[i * ob.esz + j]? = some c ∧ RC E ob.box [i, j, o] y c)
    (lo n f cap' : Nat) (hn : lo + n ≤ ob.els.length) (hf : f = lo * ob.esz ∨ n = 0) (hcap : ob.esz = 0 ∨ n ≤ cap') (own : Bool) (nl : Option Bool) (hnl : nl ≠ some true) :
    C0 E.w lab' false [] (.sl ob.esz own nl ((ob.els.drop lo).take n)) (.slice (some ⟨b, f, none⟩) n cap') := by
  have hbs : b < E.w.heap.size := (Array.getElem?_eq_some_iff.1 h4).1
  have hget : ∀ (i : Nat) (x : AV), ((ob.els.drop lo).take n)[i]? = some x → i < n ∧ ob.els[lo + i]? = some x := fun i x hx => by
    have hi : i < n := by
      rcases Nat.lt_or_ge i n with h | h
      · exact h
      · simp [List.getElem?_take, Nat.not_lt.2 h] at hx
    rw [List.getElem?_take, if_pos hi, List.getElem?_drop] at hx
    exact ⟨hi, hx⟩
  refine .sl (fun i j => arr.getD ((lo + i) * ob.esz + j) undef) hnl (by simp; omega) hcap hb0 hbs (fun i x hx => (h7 _ x (hget i x hx).2).1) (fun i x j y hx hy => ?_) (fun i x j y hx hy => ?_) (by simp)
  · obtain ⟨hi, hx'⟩ := hget i x hx
    obtain ⟨c, k1, k2⟩ := (h7 _ x hx').2 j y hy
    have hf' : f = lo * ob.esz := by rcases hf with h | h; · exact h
                                     · omega
    rw [Array.getD_eq_getD_getElem?, k1, hf', ← Nat.add_mul]
    simp [World.cell?, h4, k1]
  · obtain ⟨hi, hx'⟩ := hget i x hx
    obtain ⟨c, k1, k2⟩ := (h7 _ x hx').2 j y hy
    rw [Array.getD_eq_getD_getElem?, k1]
    rw [hbox] at k2
    simp only [RC, cond_false] at k2
    simp only [Option.getD_some, Bool.false_and]
    exact k2.move (Nat.le_refl _) (fun _ _ _ => rfl) hl (by simp)

/-- A row's whole content at another place. -/
theorem slice_own {E : Env} {o : Nat} {ob : Ob} (hbox : ob.box = false) {w' : World} {lab' : Nat → List Nat} {π : List Nat} (hw : ∀ b, b < E.w.heap.size → w'.heap[b]? = E.w.heap[b]?) (hsz : E.w.heap.size ≤ w'.heap.size) (hl : ∀ b, b < E.w.heap.size → ¬ Root E.lab b → ¬ Root lab' b) {b : Nat}
    (hlb : lab' b = π) (hπ : 2 ≤ π.length) (hlo : ∀ b τ, b < E.w.heap.size → E.lab b = τ ++ [o] → lab' b = τ ++ π) {arr : Array Value} {e : TypeId} (h4 : E.w.heap[b]? = some (.cells arr e (0, 0)))
    (h7 : ∀ (i : Nat) (x : AV), ob.els[i]? = some x → (cellsOf x).length = ob.esz ∧ ∀ (j : Nat) (y : AV), (cellsOf x)[j]? = some y → ∃ c, arr[i * ob.esz + j]? = some c ∧ RC E ob.box [i, j, o] y c)
    (n cap : Nat) (hn : n ≤ ob.els.length) (hcap : ob.els.length ≤ cap) (hasz : arr.size = cap * ob.esz) (own : Bool) (nl : Option Bool) (hnl : nl ≠ some true) :
    C0 w' lab' true π (.sl ob.esz own nl (ob.els.take n)) (.slice (some ⟨b, 0, none⟩) n cap) := by
  have hbs : b < E.w.heap.size := (Array.getElem?_eq_some_iff.1 h4).1
  have hget : ∀ (i : Nat) (x : AV), (ob.els.take n)[i]? = some x → i < n ∧ ob.els[i]? = some x := fun i x hx => by
    have hi : i < n := by
      rcases Nat.lt_or_ge i n with h | h
      · exact h
      · simp [List.getElem?_take, Nat.not_lt.2 h] at hx
    rw [List.getElem?_take, if_pos hi] at hx
    exact ⟨hi, hx⟩
  refine .sl (fun i j => arr.getD (i * ob.esz + j) undef) hnl (by simp; omega) (.inr (by omega)) (by rintro ⟨k, hk⟩; rw [hlb] at hk; rw [hk] at hπ; simp at hπ) (by omega) (fun i x hx => (h7 _ x (hget i x hx).2).1) (fun i x j y hx hy => ?_) (fun i x j y hx hy => ?_) (fun _ _ => ⟨rfl, hlb, by omega, arr, e, by rw [hw b hbs]; exact h4, hasz⟩)
  · obtain ⟨hi, hx'⟩ := hget i x hx
    obtain ⟨c, k1, k2⟩ := (h7 _ x hx').2 j y hy
    rw [Array.getD_eq_getD_getElem?, k1]
    simp [World.cell?, hw b hbs, h4, k1]
  · obtain ⟨hi, hx'⟩ := hget i x hx
    obtain ⟨c, k1, k2⟩ := (h7 _ x hx').2 j y hy
    rw [Array.getD_eq_getD_getElem?, k1]
    rw [hbox] at k2
    simp only [RC, cond_false] at k2
    simp only [Option.getD_some]
    refine k2.move hsz (fun b hb _ => hw b hb) hl (fun _ => ⟨rfl, fun b τ hb hτ => ?_⟩)
    have := hlo b (τ ++ [i, j]) hb (by simpa using hτ)
    simpa using this

section
variable {E : Env} {o : Nat} {B : Ob} {π : List Nat} (hB : getO E.objs o = some B) (hbox : B.box = false) (hobj : ∀ k ob, getO E.objs k = some ob → RO E k ob) (hπ : 2 ≤ π.length)
include hB hbox hobj hπ

theorem frz_root (b : Nat) (h : ¬ Root E.lab b) : ¬ Root (E.frz o B π).lab b := relab_root (by omega) h
theorem frz_get (k : Nat) (ob' : Ob) (h : getO (E.frz o B π).objs k = some ob') : k ≠ o ∧ ∃ ob, getO E.objs k = some ob ∧ ob'.box = ob.box ∧ ob'.esz = ob.esz ∧ ob'.els.length = ob.els.length ∧ ob'.nl = ob.nl := by
  simp only [Env.frz, getO_mapObs, getO_delO] at h
  split at h
  · cases h
  · rename_i hk
    cases hq : getO E.objs k with
    | none => rw [hq] at h; cases h
    | some ob =>
      rw [hq] at h
      simp only [Option.map_some, Option.some.injEq] at h
      refine ⟨hk, ob, rfl, ?_⟩
      rw [← h]
      exact mapOb_same ob

/-- Where a row's value lies. -/
theorem row_at {c : Value} (h : E.row o c) : (E.sg o = none ∧ c = .slice none 0 0 ∧ B.els = [] ∧ B.nl ≠ some false) ∨
    ∃ b cap arr e, E.sg o = some b ∧ c = .slice (some ⟨b, 0, none⟩) B.els.length cap ∧ E.lab b = [o] ∧ B.nl ≠ some true ∧ E.w.heap[b]? = some (.cells arr e (0, 0)) ∧ arr.size = cap * B.esz ∧ (B.esz = 0 ∨ B.els.length ≤ cap) ∧
      (∀ (i : Nat) (x : AV), B.els[i]? = some x → (cellsOf x).length = B.esz ∧ ∀ (j : Nat) (y : AV), (cellsOf x)[j]? = some y → ∃ c, arr[i * B.esz + j]? = some c ∧ RC E B.box [i, j, o] y c) := by
  obtain ⟨h2, h3⟩ := h.2 B hB
  have hr := hobj o B hB
  rcases h3 with ⟨h3, h4⟩ | ⟨b, cap, h3, h4, h5⟩
  · rcases hr with ⟨k1, k2, k3, k4⟩ | ⟨b, _, _, _, k1, _⟩
    · exact .inl ⟨k1, h4, k3, k4⟩
    · rw [k1] at h3; cases h3
  · rcases hr with ⟨k1, _⟩ | ⟨b', cap', arr, e, k1, k2, k3, k4, k5, k6, k7⟩
    · rw [k1] at h3; cases h3
    · rw [k1] at h3; cases h3
      obtain ⟨arr', e', m1, m2⟩ := h4
      rw [k4] at m1; cases m1
      refine .inr ⟨b, cap, arr, e, k1, h5, k2, k3, k4, m2, ?_, k7⟩
      rcases Nat.eq_zero_or_pos B.esz with hz | hz
      · exact .inl hz
      · right
        rw [k5] at m2
        have := Nat.eq_of_mul_eq_mul_right hz m2
        omega

theorem row_frz {c : Value} (h : E.row o c) : C0 E.w (E.frz o B π).lab false [] (.sl B.esz false B.nl B.els) c := by
  rcases row_at hB hbox hobj hπ h with ⟨h1, h2, h3, h4⟩ | ⟨b, cap, arr, e, k1, k2, k3, k4, k5, k6, k7, k8⟩
  · rw [h2, h3]; exact .nil h4
  · have := slice_any (lab' := (E.frz o B π).lab) hbox (fun b _ hr => frz_root hB hbox hobj hπ b hr) (b := b) (by
      rintro ⟨k, hk⟩
      simp only [Env.frz, k3] at hk
      have := relab_app o π []
      rw [List.nil_append] at this
      rw [this, List.nil_append] at hk
      rw [hk] at hπ; simp at hπ) k5 k8 0 B.els.length 0 cap (by omega) (by simp) k7 false B.nl k4
    rw [k2]
    simpa using this
theorem osl_frz {lo n : Nat} {c : Value} (h : E.osl o lo n c) : C0 E.w (E.frz o B π).lab false [] (.sl B.esz false none ((B.els.drop lo).take n)) c := by
  obtain ⟨h2, h2', h3⟩ := h.2 B hB
  have hr := hobj o B hB
  rcases h3 with ⟨h3, h4⟩ | ⟨b, cap, f, cap', h3, h4, h5, h6⟩
  · rcases hr with ⟨k1, k2, k3, k4⟩ | ⟨b, _, _, _, k1, _⟩
    · rw [k3, h4]; simp; exact .nil (by simp)
    · rw [k1] at h3; cases h3
  · rcases hr with ⟨k1, _⟩ | ⟨b', cap₂, arr, e, k1, k2, k3, k4, k5, k6, k7⟩
    · rw [k1] at h3; cases h3
    · rw [k1] at h3; cases h3
      have hcp : B.esz = 0 ∨ n ≤ cap' := by
        rcases Nat.eq_zero_or_pos B.esz with hz | hz
        · exact .inl hz
        · right
          obtain ⟨arr', e', m1, m2⟩ := h4
          rw [k4] at m1; cases m1
          rw [k5] at m2
          have := Nat.eq_of_mul_eq_mul_right hz m2
          rcases h6 with ⟨_, h6⟩ | ⟨h6, _⟩ <;> omega
      rw [h5]
      refine slice_any (lab' := (E.frz o B π).lab) h2 (fun b _ hr => frz_root hB hbox hobj hπ b hr) ?_ k4 k7 lo n f cap' h2' (h6.imp (·.1) (·.1)) hcp false none (by simp)
      rintro ⟨k, hk⟩
      simp only [Env.frz, k2] at hk
      have := relab_app o π []
      rw [List.nil_append] at this
      rw [this, List.nil_append] at hk
      rw [hk] at hπ; simp at hπ

theorem frz_mapOk : MapOk E (E.frz o B π) (frR o B) (frO o B) (frP o) where
  w := rfl
  root := frz_root hB hbox hobj hπ
  row k c h := by
    simp only [frR, natbeq, nb]
    by_cases hk : k = o
    · subst hk
      simp only [decide_true, RT]
      exact row_frz hB hbox hobj hπ h
    · simp only [hk, decide_false, RT]
      refine ⟨h.1, fun ob' ho => ?_⟩
      obtain ⟨_, ob, g1, g2, g3, g4, _⟩ := frz_get hB hbox hobj hπ k ob' ho
      obtain ⟨h1, h2⟩ := h.2 ob g1
      refine ⟨by rw [g2]; exact h1, ?_⟩
      rw [g3, g4]; exact h2
  osl k lo n c h := by
    simp only [frO, natbeq, nb]
    by_cases hk : k = o
    · subst hk
      simp only [decide_true, RT]
      exact osl_frz hB hbox hobj hπ h
    · simp only [hk, decide_false, RT]
      refine ⟨h.1, fun ob' ho => ?_⟩
      obtain ⟨_, ob, g1, g2, g3, g4, _⟩ := frz_get hB hbox hobj hπ k ob' ho
      obtain ⟨h1, h1', h2⟩ := h.2 ob g1
      refine ⟨by rw [g2]; exact h1, by rw [g4]; exact h1', ?_⟩
      rw [g3]; exact h2
  ptr k i j c h := by
    simp only [frP, natbeq, nb]
    by_cases hk : k = o
    · subst hk
      simp only [decide_true, RT]
    · simp only [hk, decide_false, RT]
      refine ⟨h.1, fun ob' ho => ?_⟩
      obtain ⟨_, ob, g1, g2, g3, g4, _⟩ := frz_get hB hbox hobj hπ k ob' ho
      rw [g3]; exact h.2 ob g1
  crow k := by simp only [frR]; cases Nat.beq k o <;> rfl
  cosl k lo n := by simp only [frO]; cases Nat.beq k o <;> rfl
  cptr k i j := by simp only [frP]; cases Nat.beq k o <;> rfl

end

theorem Ok.frz {F : Frm} {s : AS} {a : Act} {E : Env} (h : Ok F s a E) {o : Nat} {B : Ob} (hB : getO s.objs o = some B) (hbox : B.box = false) {π : List Nat} (hπ : 2 ≤ π.length) : Ok F (s.frz o B) a (E.frz o B π) := by
  have hB' : getO E.objs o = some B := by rw [h.objsEq]; exact hB
  have hobj : ∀ k ob, getO E.objs k = some ob → RO E k ob := fun k ob hk => h.objs k ob (by rw [← h.objsEq]; exact hk)
  exact h.map (o := o) (frz_mapOk hB' hbox hobj hπ) rfl (fun _ _ => rfl) (fun b τ k hk hτ => by simp only [Env.frz]; rw [hτ, relab_other hk]) (fun b hb => relab_ne hb)

/- Dropping an object. -/
def klR (o k : Nat) : AV := match Nat.beq k o with
  | true => .bad
  | false => .row k
def klO (o k lo n : Nat) : AV := match Nat.beq k o with
  | true => .bad
  | false => .osl k lo n
def AS.kil (s : AS) (o : Nat) : AS := s.map o (klR o) (klO o) (frP o)
def Env.kil (E : Env) (o : Nat) : Env := { E with objs := mapObs (klR o) (klO o) (frP o) (delO E.objs o) }
theorem kil_get {E : Env} {o : Nat} (k : Nat) (ob' : Ob) (h : getO (E.kil o).objs k = some ob') : k ≠ o ∧ ∃ ob, getO E.objs k = some ob ∧ ob'.box = ob.box ∧ ob'.esz = ob.esz ∧ ob'.els.length = ob.els.length ∧ ob'.nl = ob.nl := by
  simp only [Env.kil, getO_mapObs, getO_delO] at h
  split at h
  · cases h
  · rename_i hk
    cases hq : getO E.objs k with
    | none => rw [hq] at h; cases h
    | some ob =>
      rw [hq] at h
      simp only [Option.map_some, Option.some.injEq] at h
      refine ⟨hk, ob, rfl, ?_⟩
      rw [← h]
      exact mapOb_same ob
theorem kil_mapOk {E : Env} {o : Nat} : MapOk E (E.kil o) (klR o) (klO o) (frP o) where
  w := rfl
  root _ h := h
  row k c h := by
    simp only [klR, natbeq, nb]
    by_cases hk : k = o
    · subst hk; simp only [decide_true, RT]
    · simp only [hk, decide_false, RT]
      refine ⟨h.1, fun ob' ho => ?_⟩
      obtain ⟨_, ob, g1, g2, g3, g4, _⟩ := kil_get k ob' ho
      obtain ⟨h1, h2⟩ := h.2 ob g1
      refine ⟨by rw [g2]; exact h1, ?_⟩
      rw [g3, g4]; exact h2
  osl k lo n c h := by
    simp only [klO, natbeq, nb]
    by_cases hk : k = o
    · subst hk; simp only [decide_true, RT]
    · simp only [hk, decide_false, RT]
      refine ⟨h.1, fun ob' ho => ?_⟩
      obtain ⟨_, ob, g1, g2, g3, g4, _⟩ := kil_get k ob' ho
      obtain ⟨h1, h1', h2⟩ := h.2 ob g1
      refine ⟨by rw [g2]; exact h1, by rw [g4]; exact h1', ?_⟩
      rw [g3]; exact h2
  ptr k i j c h := by
    simp only [frP, natbeq, nb]
    by_cases hk : k = o
    · subst hk; simp only [decide_true, RT]
    · simp only [hk, decide_false, RT]
      refine ⟨h.1, fun ob' ho => ?_⟩
      obtain ⟨_, ob, g1, g2, g3, g4, _⟩ := kil_get k ob' ho
      rw [g3]; exact h.2 ob g1
  crow k := by simp only [klR]; cases Nat.beq k o <;> rfl
  cosl k lo n := by simp only [klO]; cases Nat.beq k o <;> rfl
  cptr k i j := by simp only [frP]; cases Nat.beq k o <;> rfl
theorem Ok.kil {F : Frm} {s : AS} {a : Act} {E : Env} (h : Ok F s a E) (o : Nat) : Ok F (s.kil o) a (E.kil o) :=
  h.map (o := o) kil_mapOk rfl (fun _ _ => rfl) (fun _ _ _ _ h => h) (fun _ h => h)

/-- A new object, old memory turned where it is nobody's. -/
theorem Ok.turn {F : Frm} {s : AS} {a : Act} {E E' : Env} (h : Ok F s a E) {d : Nat} {ob' : Ob} (hobjs : E'.objs = setO E.objs d ob') (hfree : getO s.objs d = none) (nr1 : noRefL d s.tmps = true) (nr2 : noRefO d s.objs = true)
    (hk : Kept F.Sh F.w0 E'.w) (hsz : E.w.heap.size ≤ E'.w.heap.size)
    (hb : ∀ b, b < E.w.heap.size → (¬ Root E.lab b ∨ ∃ k, (getO s.objs k).isSome = true ∧ E.lab b = [k]) → E'.w.heap[b]? = E.w.heap[b]?)
    (hroot : ∀ b, b < E.w.heap.size → ¬ Root E.lab b → ¬ Root E'.lab b) (hsg : ∀ k, k ≠ d → E'.sg k = E.sg k)
    (hlab : ∀ b τ k, b < E.w.heap.size → (getO s.objs k).isSome = true → E.lab b = τ ++ [k] → E'.lab b = τ ++ [k])
    (hlabs : ∀ b, E'.lab b ≠ [] → (F.w0.heap.size ≤ b ∨ F.Sh b) ∧ b < E'.w.heap.size) (hro : RO E' d ob') : Ok F { s with objs := setO s.objs d ob' } a E' := by
  have hg : E.Goes (· = d) E' := by
    refine ⟨hsz, fun b hb' hr => hb b hb' (.inl hr), hroot, fun o ob hob => ?_⟩
    rw [hobjs, getO_setO] at hob
    by_cases ho : o = d
    · exact .inl ho
    rw [if_neg ho] at hob
    refine .inr ⟨ob, hob, rfl, rfl, rfl, hsg o ho, fun b cap hs hbk => ?_⟩
    have hob' : getO s.objs o = some ob := by rw [← h.objsEq]; exact hob
    obtain ⟨arr, e, h1, h2⟩ := hbk
    have hbs : b < E.w.heap.size := (Array.getElem?_eq_some_iff.1 h1).1
    rcases h.objs o ob hob' with ⟨g1, _⟩ | ⟨b', _, _, _, g1, g2, _⟩
    · rw [g1] at hs; cases hs
    · rw [g1] at hs; cases hs
      exact ⟨arr, e, by rw [hb b hbs (.inr ⟨o, by simp [hob'], g2⟩)]; exact h1, h2⟩
  refine ⟨by rw [hobjs, h.objsEq], h.defers, hk, h.tmps.goes hg (fun o ho => by subst ho; exact nr1), fun o ob hob₀ => ?_, hlabs⟩
  have hob : getO (setO s.objs d ob') o = some ob := hob₀
  clear hob₀
  rw [getO_setO] at hob
  by_cases ho : o = d
  · subst ho; rw [if_pos rfl] at hob; cases hob; exact hro
  · rw [if_neg ho] at hob
    refine (h.objs o ob hob).goes hg (fun hbx x hx o₁ ho₁ => by subst ho₁; exact noRefO_get nr2 o ob hob hbx x hx) (hsg o ho) (fun b hs => ?_) (fun b hb => (h.labs b hb).2) (fun b τ hb' hτ => hlab b τ o hb' (by simp [hob]) hτ)
    rcases h.objs o ob hob with ⟨g1, _⟩ | ⟨b', _, _, _, g1, g2, _⟩
    · rw [g1] at hs; cases hs
    · rw [g1] at hs; cases hs
      exact hb b ((h.labs b (by rw [g2]; simp)).2) (.inr ⟨o, by simp [hob], g2⟩)

/- A row's new name. -/
def rnR (o o' k : Nat) : AV := match Nat.beq k o with
  | true => .row o'
  | false => (match Nat.beq k o' with
    | true => .bad
    | false => .row k)
def rnO (o o' k lo n : Nat) : AV := match Nat.beq k o with
  | true => .osl o' lo n
  | false => (match Nat.beq k o' with
    | true => .bad
    | false => .osl k lo n)
def rnP (o o' k i c : Nat) : AV := match Nat.beq k o with
  | true => .ptr o' i c
  | false => (match Nat.beq k o' with
    | true => .bad
    | false => .ptr k i c)
def AS.ren (s : AS) (o o' : Nat) (B : Ob) : AS := { tmps := mapA.mapL (rnR o o') (rnO o o') (rnP o o') s.tmps, objs := setO (mapObs (rnR o o') (rnO o o') (rnP o o') (delO s.objs o)) o' B }
def Env.ren (E : Env) (o o' : Nat) (B : Ob) : Env where
  w := E.w
  lab b := relab o [o'] (E.lab b)
  sg k := if k = o' then E.sg o else E.sg k
  objs := setO (mapObs (rnR o o') (rnO o o') (rnP o o') (delO E.objs o)) o' B
theorem ren_get {E : Env} {o o' : Nat} {B : Ob} (k : Nat) (hk : k ≠ o') (ob' : Ob) (h : getO (E.ren o o' B).objs k = some ob') : k ≠ o ∧ ∃ ob, getO E.objs k = some ob ∧ ob'.box = ob.box ∧ ob'.esz = ob.esz ∧ ob'.els.length = ob.els.length ∧ ob'.nl = ob.nl := by
  simp only [Env.ren, getO_setO, hk, if_false, getO_mapObs, getO_delO] at h
  split at h
  · cases h
  · rename_i hk
    cases hq : getO E.objs k with
    | none => rw [hq] at h; cases h
    | some ob =>
      rw [hq] at h
      simp only [Option.map_some, Option.some.injEq] at h
      refine ⟨hk, ob, rfl, ?_⟩
      rw [← h]
      exact mapOb_same ob
theorem ren_mapOk {E : Env} {o o' : Nat} {B : Ob} (hB : getO E.objs o = some B) (hne : o' ≠ o) : MapOk E (E.ren o o' B) (rnR o o') (rnO o o') (rnP o o') where
  w := rfl
  root b hr := relab_root (by simp) hr
  row k c h := by
    simp only [rnR, natbeq, nb]
    by_cases hk : k = o
    · subst hk
      simp only [decide_true, RT]
      refine ⟨h.1, fun ob' ho => ?_⟩
      simp only [Env.ren, getO_setO, if_true] at ho
      cases ho
      have := h.2 B hB
      simpa [Env.ren, Env.blk] using this
    by_cases hk' : k = o'
    · simp only [hk, hk', decide_false, decide_true, RT]; simp [hne, RT]
    · simp only [hk, hk', decide_false, RT]
      refine ⟨h.1, fun ob' ho => ?_⟩
      obtain ⟨_, ob, g1, g2, g3, g4, _⟩ := ren_get k hk' ob' ho
      obtain ⟨h1, h2⟩ := h.2 ob g1
      refine ⟨by rw [g2]; exact h1, ?_⟩
      rw [g3, g4]
      simpa [Env.ren, hk', Env.blk] using h2
  osl k lo n c h := by
    simp only [rnO, natbeq, nb]
    by_cases hk : k = o
    · subst hk
      simp only [decide_true, RT]
      refine ⟨h.1, fun ob' ho => ?_⟩
      simp only [Env.ren, getO_setO, if_true] at ho
      cases ho
      have := h.2 B hB
      simpa [Env.ren, Env.blk] using this
    by_cases hk' : k = o'
    · simp only [hk, hk', decide_false, decide_true, RT]; simp [hne, RT]
    · simp only [hk, hk', decide_false, RT]
      refine ⟨h.1, fun ob' ho => ?_⟩
      obtain ⟨_, ob, g1, g2, g3, g4, _⟩ := ren_get k hk' ob' ho
      obtain ⟨h1, h1', h2⟩ := h.2 ob g1
      refine ⟨by rw [g2]; exact h1, by rw [g4]; exact h1', ?_⟩
      rw [g3]
      simpa [Env.ren, hk', Env.blk] using h2
  ptr k i j c h := by
    simp only [rnP, natbeq, nb]
    by_cases hk : k = o
    · subst hk
      simp only [decide_true, RT]
      refine ⟨h.1, fun ob' ho => ?_⟩
      simp only [Env.ren, getO_setO, if_true] at ho
      cases ho
      have := h.2 B hB
      simpa [Env.ren] using this
    by_cases hk' : k = o'
    · simp only [hk, hk', decide_false, decide_true, RT]; simp [hne, RT]
    · simp only [hk, hk', decide_false, RT]
      refine ⟨h.1, fun ob' ho => ?_⟩
      obtain ⟨_, ob, g1, g2, g3, g4, _⟩ := ren_get k hk' ob' ho
      rw [g3]
      have := h.2 ob g1
      simpa [Env.ren, hk'] using this
  crow k := by simp only [rnR]; cases Nat.beq k o <;> cases Nat.beq k o' <;> rfl
  cosl k lo n := by simp only [rnO]; cases Nat.beq k o <;> cases Nat.beq k o' <;> rfl
  cptr k i j := by simp only [rnP]; cases Nat.beq k o <;> cases Nat.beq k o' <;> rfl

theorem Ok.ren {F : Frm} {s : AS} {a : Act} {E : Env} (h : Ok F s a E) {o o' : Nat} {B : Ob} (hB : getO s.objs o = some B) (hbox : B.box = false) (hnone : getO s.objs o' = none) : Ok F (s.ren o o' B) a (E.ren o o' B) := by
  have hB' : getO E.objs o = some B := by rw [h.objsEq]; exact hB
  have hne : o' ≠ o := by rintro rfl; rw [hnone] at hB; cases hB
  have hm := ren_mapOk (E := E) hB' hne
  refine ⟨by simp only [Env.ren, AS.ren, h.objsEq], h.defers, h.kept, h.tmps.map hm, fun k ob' hk => ?_, fun b hb => h.labs b (relab_ne hb)⟩
  simp only [AS.ren, getO_setO] at hk
  by_cases hk' : k = o'
  · subst hk'
    rw [if_pos rfl] at hk; cases hk
    rcases h.objs o B hB with ⟨h1, h2⟩ | ⟨b, cap, arr, e, h1, h2, h3, h4, h5, h6, h7⟩
    · exact .inl ⟨by simp [Env.ren, h1], h2⟩
    · refine .inr ⟨b, cap, arr, e, by simp [Env.ren, h1], ?_, h3, h4, h5, h6, fun i x hx => ?_⟩
      · have := relab_app o [k] []
        simp only [List.nil_append] at this
        simp only [Env.ren]; rw [h2, this]
      · obtain ⟨k1, k2⟩ := h7 i x hx
        refine ⟨k1, fun j z hz => ?_⟩
        obtain ⟨c, k3, k4⟩ := k2 j z hz
        refine ⟨c, k3, ?_⟩
        rw [hbox] at k4 ⊢
        simp only [RC, cond_false] at k4 ⊢
        refine k4.move (Nat.le_refl _) (fun _ _ _ => rfl) (fun b _ hr => hm.root b hr) (fun _ => ⟨rfl, fun b τ _ hτ => ?_⟩)
        have := relab_app o [k] (τ ++ [i, j])
        simp only [Env.ren]; rw [hτ]
        simpa using this
  · rw [if_neg hk', getO_mapObs, getO_delO] at hk
    by_cases hko : k = o
    · rw [if_pos hko] at hk; cases hk
    rw [if_neg hko] at hk
    cases hq : getO s.objs k with
    | none => rw [hq] at hk; cases hk
    | some ob =>
      rw [hq] at hk
      simp only [Option.map_some, Option.some.injEq] at hk
      subst hk
      exact RO.map hm (by simp [Env.ren, hk']) (fun b τ hτ => by simp only [Env.ren]; rw [hτ, relab_other hko]) (h.objs k ob hq)

end Go.Eng
/- Types, and what the operations do to a state. -/
namespace Go.Eng
open Go.RowKit
set_option linter.unusedSimpArgs false
set_option linter.unusedVariables false

inductive TD where
  | int (k : IntKind) | bool | str | slice (e : Nat) | struct (fs : List (Nat × Nat)) | arr (n e : Nat) | map (k e : Nat) | other
  deriving Inhabited
structure TI where
  d : TD
  size : Nat
  bytes : Nat
  zero : List Value
  eq : Bool := false
abbrev Lay := List (Nat × TI)
def lkT : Lay → Nat → Option TI
  | [], _ => none
  | (k, x) :: l, t => match (k == t) with
    | true => some x
    | false => lkT l t
def TD.agg : TD → Bool
  | .struct _ | .arr _ _ => true
  | _ => false

/-- A struct whose fields are ints: '==' is field by field. -/
def EqInts (P : Program) (t n : Nat) : Prop :=
  P.eqGuardType P.depth t = false ∧ ∀ (w : World) (xs ys : List Int), xs.length = n → ys.length = n →
    (Op.equalIn 10000 t (.agg (xs.map (Value.int .i64)).toArray) (.agg (ys.map (Value.int .i64)).toArray)).run P w = .ok (decide (xs = ys)) w

structure TI.ok (P : Program) (t : Nat) (ti : TI) : Prop where
  info : ∃ i, P.info? t = some i ∧ i.size = ti.size ∧ i.bytes = ti.bytes ∧ ∃ z, i.zero = some z ∧ z.cells.toList = ti.zero
  zlen : ti.zero.length = ti.size
  plain : ∀ v ∈ ti.zero, plain v = true
  desc : match ti.d with
    | .int k => P.underlying t = some (.int k)
    | .bool => P.underlying t = some .bool
    | .str => P.underlying t = some .string
    | .slice e => P.underlying t = some (.slice e)
    | .struct fs => ∃ a : Array Field, P.underlying t = some (.struct a) ∧ a.toList.map (fun f => (f.offset, f.type)) = fs
    | .arr n e => P.underlying t = some (.array n e)
    | .map k e => P.underlying t = some (.map k e)
    | .other => ∃ d, P.underlying t = some d ∧ d.isRow = false
  eqs : ti.eq = true → EqInts P t ti.size

def LOk (P : Program) (L : Lay) : Prop := ∀ t ti, lkT L t = some ti → TI.ok P t ti

theorem TI.ok.row {P : Program} {t : Nat} {ti : TI} (h : ti.ok P t) (ha : ti.d.agg = true) : ∃ d, P.underlying t = some d ∧ d.isRow = true := by
  have := h.desc
  revert this ha
  cases ti.d <;> simp [TD.agg]
  · intro x h1 _; exact ⟨_, h1, rfl⟩
  · intro h1; exact ⟨_, h1, rfl⟩
theorem TI.ok.cell {P : Program} {t : Nat} {ti : TI} (h : ti.ok P t) (ha : ti.d.agg = false) : ∃ d, P.underlying t = some d ∧ d.isRow = false := by
  have := h.desc
  revert this ha
  cases ti.d <;> simp [TD.agg]
  all_goals intro h1; exact ⟨_, h1, rfl⟩

/-- One way or the other. -/
def ifK : Bool → (Unit → Prop) → (Unit → Prop) → Prop
  | true, k, _ => k ()
  | false, _, k => k ()
theorem ifK_of {b : Bool} {k k' : Unit → Prop} (h1 : b = true → k ()) (h2 : b = false → k' ()) : ifK b k k' := by
  cases b
  · exact h2 rfl
  · exact h1 rfl
/-- Element i of a list. -/
def idxK : List AV → Nat → (AV → Prop) → Prop
  | [], _, _ => False
  | x :: _, 0, K => K x
  | _ :: l, n + 1, K => idxK l n K
def ltK : List AV → Nat → Prop → Prop
  | [], _, _ => False
  | _ :: _, 0, K => K
  | _ :: l, n + 1, K => ltK l n K
theorem idxK_iff {l : List AV} {i : Nat} {K : AV → Prop} : idxK l i K ↔ ∃ x, l[i]? = some x ∧ K x := by
  induction l generalizing i with
  | nil => simp [idxK]
  | cons x l ih => cases i <;> simp [idxK, ih]
theorem ltK_iff {l : List AV} {i : Nat} {K : Prop} : ltK l i K ↔ i < l.length ∧ K := by
  induction l generalizing i with
  | nil => simp [ltK]
  | cons x l ih => cases i <;> simp [ltK, ih]
def idxI : List AV → Int → (AV → Prop) → Prop
  | l, .ofNat n, K => idxK l n K
  | _, .negSucc _, _ => False
def ltI : List AV → Int → (Nat → Prop) → Prop
  | l, .ofNat n, K => ltK l n (K n)
  | _, .negSucc _, _ => False
theorem idxI_iff {l : List AV} {n : Int} {K : AV → Prop} : idxI l n K ↔ 0 ≤ n ∧ ∃ x, l[n.toNat]? = some x ∧ K x := by
  cases n with
  | ofNat n => simp [idxI, idxK_iff]
  | negSucc n => simp [idxI]
theorem ltI_iff {l : List AV} {n : Int} {K : Nat → Prop} : ltI l n K ↔ 0 ≤ n ∧ n.toNat < l.length ∧ K n.toNat := by
  cases n with
  | ofNat n => simp [ltI, ltK_iff]
  | negSucc n => simp [ltI]

/-- A whole value (not unknown, no tuple). -/
def okVal : AV → Bool
  | .bad | .tup _ => false
  | _ => true
/-- No reference to an object in it, nothing owned. -/
def flatC : AV → Bool
  | .v _ => true
  | .sl _ own _ _ => !own
  | _ => false
def flat (x : AV) : Bool := (cellsOf x).all flatC

def ofV : Value → AV := .v
def AS.env (s : AS) : Operand → AV
  | .tmp t => lk s.tmps t
  | .const c => bif plain c then .v c else .bad
  | .func f => .fn f []
  | .global _ => .bad

def ldc (ti : TI) (cs : List AV) (K : AV → Prop) : Prop :=
  ifK ti.d.agg (fun _ => ifK ((cs.length == ti.size)) (fun _ => K (.agg cs)) (fun _ => False)) (fun _ => match cs with
    | [y] => K y
    | _ => False)
def putC1 (y : AV) : List AV → AV
  | [u] => u
  | _ => y
def putC (old : AV) (c : Nat) (vs : List AV) : AV := match old with
  | .agg cs => .agg (cs.take c ++ (vs ++ cs.drop (c + vs.length)))
  | y => putC1 y vs

def newBox (d : Option Nat) (x : AV) (esz : Nat) (s : AS) (K : AS → Prop) : Prop := match d with
  | some d => match getO s.objs d with
    | none => ifK (noRefL d s.tmps && (noRefO d s.objs && noRefL d (cellsOf x))) (fun _ => K { tmps := st s.tmps d (.ptr d 0 0), objs := setO s.objs d ⟨esz, true, none, [x]⟩ }) (fun _ => False)
    | some _ => False
  | none => False

/-- '==' of two values. -/
def intCells : List AV → Option (List Int)
  | [] => some []
  | .v (.int .i64 n) :: l => (intCells l).map (n :: ·)
  | _ => none
def eqK (L : Lay) (t : Nat) (x y : AV) (K : Bool → Prop) : Prop := match x, y with
  | .v (.int k a), .v (.int k' b) => ifK (decide (k = k')) (fun _ => K (decide (a = b))) (fun _ => False)
  | .v (.bool a), .v (.bool b) => match lkT L t with
    | some ⟨.bool, _, _, _, _⟩ => K (decide (a = b))
    | _ => False
  | .v (.string a), .v (.string b) => K (decide (a = b))
  | .agg xs, .agg ys => match lkT L t, intCells xs, intCells ys with
    | some ti, some a, some b => ifK (ti.eq && (xs.length == ti.size) && (ys.length == ti.size)) (fun _ => K (decide (a = b))) (fun _ => False)
    | _, _, _ => False
  | _, _ => False

def binK (L : Lay) (op : BinOp) (t : Nat) (x y : AV) (K : AV → Prop) : Prop := match op with
  | .eql => eqK L t x y fun b => K (.v (.bool b))
  | .neq => eqK L t x y fun b => K (.v (.bool (!b)))
  | .add => match x, y with
    | .v (.int k a), .v (.int k' b) => ifK (decide (k = k')) (fun _ => K (.v (.int k (k.wrap (a + b))))) (fun _ => False)
    | .v (.string a), .v (.string b) => a.size + b.size ≤ 140737488355328 ∧ K (.v (.string (a ++ b)))
    | _, _ => False
  | .sub => match x, y with
    | .v (.int k a), .v (.int k' b) => ifK (decide (k = k')) (fun _ => K (.v (.int k (k.wrap (a - b))))) (fun _ => False)
    | _, _ => False
  | .mul => match x, y with
    | .v (.int k a), .v (.int k' b) => ifK (decide (k = k')) (fun _ => K (.v (.int k (k.wrap (a * b))))) (fun _ => False)
    | _, _ => False
  | .quo => match x, y with
    | .v (.int k a), .v (.int k' b) => ifK (decide (k = k')) (fun _ => b ≠ 0 ∧ K (.v (.int k (k.wrap (a.tdiv b))))) (fun _ => False)
    | _, _ => False
  | .rem => match x, y with
    | .v (.int k a), .v (.int k' b) => ifK (decide (k = k')) (fun _ => b ≠ 0 ∧ K (.v (.int k (a.tmod b)))) (fun _ => False)
    | _, _ => False
  | .lss => match x, y with
    | .v (.int k a), .v (.int k' b) => ifK (decide (k = k')) (fun _ => K (.v (.bool (decide (a < b))))) (fun _ => False)
    | _, _ => False
  | .leq => match x, y with
    | .v (.int k a), .v (.int k' b) => ifK (decide (k = k')) (fun _ => K (.v (.bool (decide (a ≤ b))))) (fun _ => False)
    | _, _ => False
  | .gtr => match x, y with
    | .v (.int k a), .v (.int k' b) => ifK (decide (k = k')) (fun _ => K (.v (.bool (decide (b < a))))) (fun _ => False)
    | _, _ => False
  | .geq => match x, y with
    | .v (.int k a), .v (.int k' b) => ifK (decide (k = k')) (fun _ => K (.v (.bool (decide (b ≤ a))))) (fun _ => False)
    | _, _ => False
  | _ => False

/-- A view of a value without references: what a callee is given. -/
def view (g : Nat → Option Ob) : AV → AV
  | .row o => match g o with
    | some ob => .sl ob.esz true ob.nl ob.els
    | none => .bad
  | .osl o lo n => match g o with
    | some ob => .sl ob.esz true none ((ob.els.drop lo).take n)
    | none => .bad
  | .v (.slice none 0 0) => .v (.slice none 0 0)
  | .v x => .v x
  | .sl e o n xs => .sl e o n xs
  | .agg xs => .agg (viewL g xs)
  | _ => .bad
where viewL (g : Nat → Option Ob) : List AV → List AV
  | [] => []
  | x :: l => view g x :: viewL g l

end Go.Eng
/- The operations, one by one: what the machine's function says of them is what the model does. -/
namespace Go.Eng
open Go.RowKit
set_option linter.unusedSimpArgs false
set_option linter.unusedVariables false

def Sat (F : Frm) (K : AS → Prop) (a : Act) (w : World) : Prop := ∃ s E, E.w = w ∧ Ok F s a E ∧ K s

section
variable {P : Program} {o : Oper} {a : Act} {next : Act → World → Prop} {Q : Exit → Act → World → Prop} {w w' : World}
theorem wp_value {v : Value} (h : (execOp a.eval o).run P w = .ok (.value v) w') (hn : next (a.put o.dst v) w') : o.wp P a w next Q := by
  unfold Oper.wp; rw [h]; exact hn
theorem wp_skip' (h : (execOp a.eval o).run P w = .ok .skip w') (hn : next (a.put o.dst undef) w') : o.wp P a w next Q := by
  unfold Oper.wp; rw [h]; exact hn
end

theorem Ok.tmp {F : Frm} {s : AS} {a : Act} {E : Env} (h : Ok F s a E) (t : Nat) : RT E (lk s.tmps t) (a.tmps.getD t undef) := by
  rw [lk_eq]
  cases hx : s.tmps[t]? with
  | none => simp [List.getD, hx, RT]
  | some x =>
    obtain ⟨c, hc, hr⟩ := h.tmps.get t x hx
    have : a.tmps.getD t undef = c := by
      simp only [Array.getElem?_toList] at hc
      simp [Array.getD_eq_getD_getElem?, hc]
    rw [this]
    simpa [List.getD, hx] using hr

theorem Ok.env {F : Frm} {s : AS} {a : Act} {E : Env} (h : Ok F s a E) (x : Operand) : RT E (s.env x) (a.eval x) := by
  cases x with
  | tmp t => exact h.tmp t
  | const c =>
    simp only [AS.env, Act.eval]
    cases hp : plain c with
    | true => simp only [cond_true, RT]; exact .v hp
    | false => simp [RT]
  | global g => simp [AS.env, RT]
  | func f => simp only [AS.env, Act.eval, RT]; exact ⟨[], rfl, by simp [RTL]⟩

theorem RT.int_inv {E : Env} {k : IntKind} {n : Int} {c : Value} (h : RT E (.v (.int k n)) c) : c = .int k n := h.v_inv.1
theorem RT.bool_inv {E : Env} {b : Bool} {c : Value} (h : RT E (.v (.bool b)) c) : c = .bool b := h.v_inv.1
theorem RT.str_inv {E : Env} {s : ByteArray} {c : Value} (h : RT E (.v (.string s)) c) : c = .string s := h.v_inv.1
theorem RT.int {E : Env} (k : IntKind) (n : Int) : RT E (.v (.int k n)) (.int k n) := by simp only [RT]; exact .v rfl
theorem RT.bool {E : Env} (b : Bool) : RT E (.v (.bool b)) (.bool b) := by simp only [RT]; exact .v rfl
theorem RT.str {E : Env} (s : ByteArray) : RT E (.v (.string s)) (.string s) := by simp only [RT]; exact .v rfl

/-- The cells of a whole value. -/
theorem RT.cells {E : Env} {x : AV} {c : Value} (h : RT E x c) (hx : okVal x = true) : RTL E (cellsOf x) c.cells.toList ∧ ∀ u ∈ c.cells.toList, u.oneCell' = true := by
  have one : ∀ {x : AV} {c : Value}, RT E x c → cellsOf x = [x] → c.oneCell' = true → RTL E (cellsOf x) c.cells.toList ∧ ∀ u ∈ c.cells.toList, u.oneCell' = true := by
    intro x c h h1 h2
    have : c.cells.toList = [c] := by cases c <;> simp_all [Value.cells, Value.oneCell']
    rw [h1, this]
    exact ⟨by simp [RTL, h], by simp [h2]⟩
  cases x with
  | bad => simp [okVal] at hx
  | tup => simp [okVal] at hx
  | agg xs =>
    obtain ⟨cs, rfl, h2, h3⟩ := h.agg_inv
    simp only [cellsOf, Value.cells]
    exact ⟨h2, h3⟩
  | v u => exact one h rfl (by have := h.v_inv; rw [this.1]; exact plain_one this.2)
  | sl => exact one h rfl (by simp only [RT] at h; exact h.one)
  | row o => exact one h rfl (by simp only [RT] at h; exact h.1)
  | osl o lo n => exact one h rfl (by simp only [RT] at h; exact h.1)
  | ptr o i k => exact one h rfl (by simp only [RT] at h; exact h.1)
  | ip cs k => exact one h rfl (by simp only [RT] at h; obtain ⟨_, _, h, _⟩ := h; rw [h]; rfl)
  | fn f cs => exact one h rfl (by simp only [RT] at h; obtain ⟨_, h, _⟩ := h; rw [h]; rfl)
  | mp es => exact one h rfl (by simp only [RT] at h; obtain ⟨_, _, _, h, _⟩ := h; rw [h]; rfl)

theorem RT.okVal_of_cell {E : Env} {x : AV} {c : Value} (h : RT E x c) (hc : c.oneCell' = true) : x = .bad ∨ okVal x = true := by
  cases x <;> simp_all [okVal]
  simp only [RT] at h; obtain ⟨cs, rfl, _⟩ := h; simp [Value.oneCell'] at hc

/-- Loads: the cells are there. -/
theorem run_ld {P : Program} {L : Lay} (hL : LOk P L) {t : Nat} {ti : TI} (ht : lkT L t = some ti) {w : World} {b f : Nat} {cs : List Value} (hc : w.rangeAt b f cs) :
    (ti.d.agg = true → cs.length = ti.size → (Instr.loadAt t (.pointer (some ⟨b, f, none⟩))).run P w = .ok (.agg cs.toArray) w) ∧
    (ti.d.agg = false → ∀ c, cs = [c] → (Instr.loadAt t (.pointer (some ⟨b, f, none⟩))).run P w = .ok c w) := by
  have hti := hL t ti ht
  obtain ⟨i, hi, hs, _⟩ := hti.info
  refine ⟨fun ha hl => ?_, fun ha c hcc => ?_⟩
  · obtain ⟨d, hd, hr⟩ := hti.row ha
    exact run_loadAt_mid w b f t cs d hc hd hr (by simp [hi, hs, hl])
  · obtain ⟨d, hd, hr⟩ := hti.cell ha
    subst hcc
    have h0 := hc 0 c rfl
    simp only [Nat.add_zero] at h0
    have hagg : (isAgg t).run P w = .ok false w := by
      unfold isAgg
      rw [Sem.run_bind, run_underlying hd w]
      cases d <;> simp_all [TypeDesc.isRow]
    simp [Instr.loadAt, Instr.sureAddr, loadVar, hagg, h0]

theorem run_st {P : Program} {L : Lay} (hL : LOk P L) {t : Nat} {ti : TI} (ht : lkT L t = some ti) {w : World} {b f : Nat} {arr : Array Value} {e : TypeId}
    (hb : w.heap[b]? = some (.cells arr e (0, 0))) {c : Value} (hl : c.cells.toList.length = ti.size) (h1 : ∀ u ∈ c.cells.toList, u.oneCell' = true) (hf : f + ti.size ≤ arr.size) :
    (Instr.storeAt t (.pointer (some ⟨b, f, none⟩)) c).run P w = .ok () (w.setRow b (arr.toList.take f ++ c.cells.toList ++ arr.toList.drop (f + c.cells.toList.length)).toArray) := by
  obtain ⟨i, hi, hs, _⟩ := (hL t ti ht).info
  have := run_storeCells_at (P := P) b f e c.cells.toList 0 arr w hb (by rw [hl]; omega) h1
  simp only [Nat.add_zero] at this
  have hsz : c.cells.size = i.size := by rw [hs, ← hl]; simp
  simp [Instr.storeAt, Instr.sureAddr, storeVar, sizeOf, typeInfo, hi, hsz, this]

theorem wrote_setRow {w : World} {b : Nat} {arr : Array Value} {e : TypeId} (hb : w.heap[b]? = some (.cells arr e (0, 0))) (cs : Array Value) : Wrote b w (w.setRow b cs) :=
  ⟨rfl, rfl, rfl, by simp, fun k hk => setRow_other w b k cs hk⟩

end Go.Eng
/- Loads, stores, addresses. -/
namespace Go.Eng
open Go.RowKit
set_option linter.unusedSimpArgs false
set_option linter.unusedVariables false

theorem C0.rt {E : Env} {chk : Bool} {π : List Nat} {y : AV} {c : Value} (h : C0 E.w E.lab chk π y c) : RT E y c := by
  have hl : C0 E.w E.lab false [] y c := h.lend
  cases h with
  | v h => simp only [RT]; exact .v h
  | nil h => simp only [RT]; exact hl
  | sl => simp only [RT]; exact hl

theorem RC.rt {E : Env} {box : Bool} {π : List Nat} {y : AV} {c : Value} (h : RC E box π y c) : RT E y c ∧ c.oneCell' = true := by
  cases box with
  | true => simpa [RC] using h
  | false => simp only [RC, cond_false] at h; exact ⟨h.rt, h.one⟩

/-- An element of an object, in memory. -/
theorem RO.elem {E : Env} {o : Nat} {ob : Ob} (h : RO E o ob) {i : Nat} {x : AV} (hx : ob.els[i]? = some x) : ∃ b cs, E.sg o = some b ∧ E.lab b = [o] ∧ (cellsOf x).length = ob.esz ∧
    E.w.rangeAt b (i * ob.esz) cs ∧ RTL E (cellsOf x) cs ∧ ∀ u ∈ cs, u.oneCell' = true := by
  rcases h with ⟨_, _, h3, _⟩ | ⟨b, cap, arr, e, h1, h2, h3, h4, h5, h6, h7⟩
  · rw [h3] at hx; simp at hx
  · obtain ⟨g1, g2⟩ := h7 i x hx
    have hcell : ∀ j, j < (cellsOf x).length → ∃ c, arr[i * ob.esz + j]? = some c ∧ (∀ y, (cellsOf x)[j]? = some y → RT E y c) ∧ c.oneCell' = true := fun j hj => by
      obtain ⟨c, k1, k2⟩ := g2 j _ (List.getElem?_eq_getElem hj)
      refine ⟨c, k1, fun y hy => ?_, k2.rt.2⟩
      rw [List.getElem?_eq_getElem hj] at hy; cases hy
      exact k2.rt.1
    refine ⟨b, (List.range (cellsOf x).length).map fun j => arr.getD (i * ob.esz + j) undef, h1, h2, g1, fun j v hv => ?_, ?_, fun u hu => ?_⟩
    · simp only [List.getElem?_map] at hv
      rcases Nat.lt_or_ge j (cellsOf x).length with hj | hj
      · obtain ⟨c, k1, k2⟩ := hcell j hj
        simp [List.getElem?_range hj] at hv
        rw [k1] at hv
        simp only [Option.getD_some] at hv
        subst hv
        simp [World.cell?, h4, k1]
      · simp [Nat.not_lt.2 hj] at hv
    · refine RTL.of (by simp) (fun j y c hy hc => ?_)
      have hj : j < (cellsOf x).length := (List.getElem?_eq_some_iff.1 hy).1
      obtain ⟨c', k1, k2, _⟩ := hcell j hj
      simp [List.getElem?_range hj] at hc
      rw [k1] at hc
      simp only [Option.getD_some] at hc
      subst hc
      exact k2 y hy
    · obtain ⟨j, hj, rfl⟩ := List.mem_map.1 hu
      obtain ⟨c, k1, _, k3⟩ := hcell j (by simpa using hj)
      rw [Array.getD_eq_getD_getElem?, k1]
      exact k3

theorem rangeAt_sub {w : World} {b f : Nat} {cs : List Value} (h : w.rangeAt b f cs) (c n : Nat) : w.rangeAt b (f + c) ((cs.drop c).take n) := fun j v hv => by
  have hj : j < n := by
    rcases Nat.lt_or_ge j n with h | h
    · exact h
    · simp [List.getElem?_take, Nat.not_lt.2 h] at hv
  rw [List.getElem?_take, if_pos hj, List.getElem?_drop] at hv
  have := h (c + j) v hv
  rwa [show f + (c + j) = f + c + j by omega] at this

section
variable {P : Program} {L : Lay} (hL : LOk P L) {F : Frm} {s : AS} {a : Act} {E : Env} (h : Ok F s a E) {o : Oper} {next : Act → World → Prop} {Q : Exit → Act → World → Prop} {K : AS → Prop}
  (hn : ∀ a' w', Sat F K a' w' → next a' w')
include h hn

theorem sound_put {x : AV} {v : Value} (hr : (execOp a.eval o).run P E.w = .ok (.value v) E.w) (hx : RT E x v) (hK : K (s.put o.dst x)) : o.wp P a E.w next Q :=
  wp_value hr (hn _ _ ⟨_, E, rfl, h.put o.dst hx, hK⟩)

include hL
theorem sound_ldc {t : Nat} {x : Operand} (ho : o.op = .load t x) {ti : TI} (ht : lkT L t = some ti) {b f : Nat} (hx : a.eval x = .pointer (some ⟨b, f, none⟩))
    {ys : List AV} {cs : List Value} (hc : E.w.rangeAt b f cs) (hr : RTL E ys cs) (h1 : ∀ u ∈ cs, u.oneCell' = true)
    (hk : ldc ti ys fun y => K (s.put o.dst y)) : o.wp P a E.w next Q := by
  obtain ⟨l1, l2⟩ := run_ld hL ht hc
  have hex : ∀ v, (Instr.loadAt t (.pointer (some ⟨b, f, none⟩))).run P E.w = .ok v E.w → (execOp a.eval o).run P E.w = .ok (.value v) E.w := fun v hv => by
    unfold execOp
    simp only [ho, hx, Sem.run_bind, hv, Result.andThen_ok, Sem.run_pure]
  unfold ldc at hk
  cases ha : ti.d.agg with
  | true =>
    rw [ha] at hk
    simp only [ifK] at hk
    cases hl : (ys.length == ti.size) with
    | false => rw [hl] at hk; exact hk.elim
    | true =>
      rw [hl] at hk
      simp only [ifK] at hk
      have hl' := eq_of_beq hl
      refine sound_put h hn (hex _ (l1 ha (by rw [← hr.length, hl']))) (x := .agg ys) ?_ hk
      simp only [RT]
      exact ⟨cs, rfl, hr, h1⟩
  | false =>
    rw [ha] at hk
    simp only [ifK] at hk
    match ys, cs, hr, hk with
    | [y], [c], hr, hk =>
      simp only [RTL] at hr
      exact sound_put h hn (hex _ (l2 ha c rfl)) hr.1 hk
    | [y], [], hr, _ => simp [RTL] at hr
    | [y], _ :: _ :: _, hr, _ => simp [RTL] at hr

theorem sound_load {t : Nat} {x : Operand} (ho : o.op = .load t x)
    (hk : match s.env x, lkT L t with
      | .ptr ob i c, some ti => (match getO s.objs ob with
        | some B => idxK B.els i fun x => ldc ti (((cellsOf x).drop c).take ti.size) fun y => K (s.put o.dst y)
        | none => False)
      | .ip cs c, some ti => ldc ti ((cs.drop c).take ti.size) fun y => K (s.put o.dst y)
      | _, _ => False) : o.wp P a E.w next Q := by
  have he := h.env x
  split at hk
  · rename_i ob i c ti hx ht
    rw [hx] at he
    split at hk
    · rename_i B hB
      obtain ⟨x', hx', hk⟩ := idxK_iff.1 hk
      simp only [RT] at he
      obtain ⟨b, g2, g3⟩ := he.2 B (by rw [h.objsEq]; exact hB)
      obtain ⟨b', cs, k1, k2, k3, k4, k5, k6⟩ := (h.objs ob B hB).elem hx'
      rw [g2] at k1; cases k1
      exact sound_ldc hL h hn ho ht g3 (rangeAt_sub k4 c ti.size) ((k5.drop c).take ti.size) (fun u hu => k6 u (List.mem_of_mem_drop (List.mem_of_mem_take hu))) hk
    · exact hk.elim
  · rename_i cs c ti hx ht
    rw [hx] at he
    simp only [RT] at he
    obtain ⟨b, f, g1, g2, g3, g4⟩ := he
    -- the cells behind an immutable pointer
    have hcs : ∃ vs : List Value, E.w.rangeAt b f vs ∧ RTL E cs vs ∧ ∀ u ∈ vs, u.oneCell' = true := by
      clear hk hx g1
      induction cs generalizing f with
      | nil => exact ⟨[], fun j v hv => by simp at hv, by simp [RTL], by simp⟩
      | cons y cs ih =>
        obtain ⟨u, k1, k2⟩ := g4 0 y rfl
        obtain ⟨vs, m1, m2, m3⟩ := ih (f + 1) (fun j y hy => by
          have := g4 (j + 1) y (by simpa using hy)
          rwa [show f + (j + 1) = f + 1 + j by omega] at this)
        refine ⟨u :: vs, fun j v hv => ?_, by simp only [RTL]; exact ⟨k2.rt, m2⟩, fun v hv => ?_⟩
        · cases j with
          | zero => simp at hv; subst hv; exact k1
          | succ j => have := m1 j v (by simpa using hv); rwa [show f + 1 + j = f + (j + 1) by omega] at this
        · rcases List.mem_cons.1 hv with rfl | hv
          · exact k2.one
          · exact m3 v hv
    obtain ⟨vs, m1, m2, m3⟩ := hcs
    exact sound_ldc hL h hn ho ht g1 (rangeAt_sub m1 c ti.size) ((m2.drop c).take ti.size) (fun u hu => m3 u (List.mem_of_mem_drop (List.mem_of_mem_take hu))) hk
  · exact hk.elim

def offK (L : Lay) (t f : Nat) (K : Nat → Prop) : Prop := match lkT L t with
  | some ⟨.struct fs, _, _, _, _⟩ => (match fs[f]? with
    | some (off, ft) => (match lkT L ft with
      | some fi => ifK ((fi.size == 0)) (fun _ => False) (fun _ => K off)
      | none => False)
    | none => False)
  | _ => False

theorem sound_field {t f : Nat} {x : Operand} (ho : o.op = .fieldAddr t x f)
    (hk : match s.env x with
      | .ptr ob i c => (match getO s.objs ob with
        | some _ => offK L t f fun off => K (s.put o.dst (.ptr ob i (c + off)))
        | none => False)
      | .ip cs c => offK L t f fun off => K (s.put o.dst (.ip cs (c + off)))
      | _ => False) : o.wp P a E.w next Q := by
  have he := h.env x
  have key : ∀ (b fo : Nat) (K' : Nat → Prop), a.eval x = .pointer (some ⟨b, fo, none⟩) → offK L t f K' →
      ∃ off, K' off ∧ (execOp a.eval o).run P E.w = .ok (.value (.pointer (some ⟨b, fo + off, none⟩))) E.w := by
    intro b fo K' hx hk
    unfold offK at hk
    split at hk
    · rename_i fs sz by_ ze eq ht
      split at hk
      · rename_i off ft hf
        split at hk
        · rename_i fi hfi
          cases hz : (fi.size == 0) with
          | true => rw [hz] at hk; exact hk.elim
          | false =>
            rw [hz] at hk
            refine ⟨off, hk, ?_⟩
            have hti := (hL t _ ht).desc
            simp only at hti
            obtain ⟨arr, ha, hm⟩ := hti
            obtain ⟨i, hi, hs, _⟩ := (hL ft fi hfi).info
            have hne : fi.size ≠ 0 := by rw [nb] at hz; simpa using hz
            have hfa : ∃ fd, arr[f]? = some fd ∧ fd.offset = off ∧ fd.type = ft := by
              rw [← hm] at hf
              simp only [List.getElem?_map, Array.getElem?_toList, Option.map_eq_some_iff] at hf
              obtain ⟨fd, h1, h2⟩ := hf
              exact ⟨fd, h1, by simpa using congrArg Prod.fst h2, by simpa using congrArg Prod.snd h2⟩
            obtain ⟨fd, h1, h2, h3⟩ := hfa
            unfold execOp
            simp only [ho, hx, Instr.fieldAt, Sem.run_bind, run_underlying ha, Result.andThen_ok, h1, Instr.sureAddr, Sem.run_pure, fieldPlace, h3, sizeOf, typeInfo, run_program, hi, hs, hne, if_false, h2, Addr.add_mid]
        · exact hk.elim
      · exact hk.elim
    · exact hk.elim
  split at hk
  · rename_i ob i c hx
    rw [hx] at he
    simp only [RT] at he
    obtain ⟨B, hB, hk⟩ : ∃ B, getO s.objs ob = some B ∧ offK L t f fun off => K (s.put o.dst (.ptr ob i (c + off))) := by
      split at hk
      · exact ⟨_, ‹_›, hk⟩
      · exact hk.elim
    obtain ⟨b, g2, g3⟩ := he.2 B (by rw [h.objsEq]; exact hB)
    obtain ⟨off, k1, k2⟩ := key b _ _ g3 hk
    refine sound_put h hn k2 ?_ k1
    simp only [RT]
    refine ⟨rfl, fun B' hB' => ?_⟩
    rw [h.objsEq, hB] at hB'; cases hB'
    exact ⟨b, g2, by rw [Nat.add_assoc]⟩
  · rename_i cs c hx
    rw [hx] at he
    simp only [RT] at he
    obtain ⟨b, fo, g1, g2⟩ := he
    obtain ⟨off, k1, k2⟩ := key b _ _ g1 hk
    refine sound_put h hn k2 ?_ k1
    simp only [RT]
    exact ⟨b, fo, by rw [Nat.add_assoc], g2⟩
  · exact hk.elim
end

end Go.Eng
/- Stores; new boxes. -/
namespace Go.Eng
open Go.RowKit
set_option linter.unusedSimpArgs false
set_option linter.unusedVariables false

theorem C0.flat {w : World} {lab : Nat → List Nat} {chk : Bool} {π π' : List Nat} {y : AV} {c : Value} (h : C0 w lab chk π y c) (hf : flatC y = true) : C0 w lab true π' y c := by
  cases h with
  | v h => exact .v h
  | nil h => exact .nil h
  | @sl _ _ esz own nl xs b f n cap cf hnl hn hcap hroot hb hsz hc hr hown =>
    simp only [flatC, Bool.not_eq_true'] at hf
    subst hf
    refine .sl cf hnl hn hcap hroot hb hsz hc (fun i x j y hx hy => ?_) (by simp)
    have := hr i x j y hx hy
    simp only [Bool.and_false] at *
    exact this.lend

theorem RT.flat {E : Env} {y : AV} {c : Value} (h : RT E y c) (hf : flatC y = true) (π : List Nat) : C0 E.w E.lab true π y c := by
  cases y <;> simp_all [flatC]
  · simp only [RT] at h; exact h.flat (by simp [flatC])
  · simp only [RT] at h; exact h.flat (by simp_all [flatC])

theorem splice_get (l vs : List Value) (f k : Nat) (h : f + vs.length ≤ l.length) : (l.take f ++ vs ++ l.drop (f + vs.length))[k]? = if f ≤ k ∧ k < f + vs.length then vs[k - f]? else l[k]? := by
  rcases Nat.lt_or_ge k f with h1 | h1
  · rw [if_neg (by omega), List.append_assoc, List.getElem?_append_left (by simp; omega), List.getElem?_take, if_pos h1]
  · rcases Nat.lt_or_ge k (f + vs.length) with h2 | h2
    · rw [if_pos ⟨h1, h2⟩, List.getElem?_append_left (by simp; omega), List.getElem?_append_right (by simp; omega)]
      congr 1; simp; omega
    · rw [if_neg (by omega), List.getElem?_append_right (by simp; omega), List.getElem?_drop]
      congr 1; simp; omega

theorem splice_length (l vs : List Value) (f : Nat) (h : f + vs.length ≤ l.length) : (l.take f ++ vs ++ l.drop (f + vs.length)).length = l.length := by
  simp; omega

def storeK (L : Lay) (s : AS) (t : Nat) (a v : AV) (K : AS → Prop) : Prop := match a, lkT L t with
  | .ptr ob i c, some ti => (match getO s.objs ob with
    | some B => ifK (okVal v && (((cellsOf v).length == ti.size) && (B.box || flat v)))
        (fun _ => ifK ((c == 0) && (ti.size == B.esz)) (fun _ => ltK B.els i (K { s with objs := setO s.objs ob { B with els := st B.els i v } }))
         (fun _ => idxK B.els i fun old => ifK (Nat.ble (c + ti.size) (cellsOf old).length) (fun _ => K { s with objs := setO s.objs ob { B with els := st B.els i (putC old c (cellsOf v)) } }) (fun _ => False)))
        (fun _ => False)
    | none => False)
  | _, _ => False

theorem st_get (l : List AV) (i j : Nat) (y : AV) : (st l i y)[j]? = if j = i then (if i < l.length then some y else none) else l[j]? := by
  rw [st_eq_set, List.getElem?_set]
  by_cases h : i = j
  · subst h; simp
  · simp [h, Ne.symm h]

theorem RT.cell_self {E : Env} {y : AV} {c : Value} (h : RT E y c) (hc : c.oneCell' = true) : cellsOf y = [y] := by
  cases y <;> first | rfl | skip
  simp only [RT] at h
  obtain ⟨cs, rfl, _⟩ := h
  simp [Value.oneCell'] at hc

theorem cellsOf_putC {E : Env} {old : AV} {c : Nat} {vs : List AV} {us : List Value} (hv : RTL E vs us) (h1 : ∀ u ∈ us, u.oneCell' = true) (h : c + vs.length ≤ (cellsOf old).length) :
    cellsOf (putC old c vs) = (cellsOf old).take c ++ (vs ++ (cellsOf old).drop (c + vs.length)) := by
  have key : ∀ old : AV, cellsOf old = [old] → c + vs.length ≤ 1 → putC old c vs = putC1 old vs →
      cellsOf (putC old c vs) = [old].take c ++ (vs ++ [old].drop (c + vs.length)) := by
    intro old h0 hle hp
    rw [hp]
    match vs, us, hv, hle with
    | [], _, _, hle =>
      simp only [putC1, h0, List.nil_append, List.length_nil, Nat.add_zero]
      exact (List.take_append_drop c [old]).symm
    | [u], [w], hv, hle =>
      simp only [RTL] at hv
      have : c = 0 := by simp at hle; omega
      subst this
      simp [putC1, hv.1.cell_self (h1 w (by simp))]
    | [u], [], hv, _ => simp [RTL] at hv
    | [u], _ :: _ :: _, hv, _ => simp [RTL] at hv
    | u :: u' :: r, _, _, hle => simp at hle; omega
  cases old with
  | agg cs => simp [putC, cellsOf]
  | _ => exact key _ rfl (by simpa [cellsOf] using h) rfl

section
variable {P : Program} {L : Lay} (hL : LOk P L) {F : Frm} {s : AS} {a : Act} {E : Env} (h : Ok F s a E) {o : Oper} {next : Act → World → Prop} {Q : Exit → Act → World → Prop} {K : AS → Prop}
  (hn : ∀ a' w', Sat F K a' w' → next a' w')
include hL h hn

/-- The cells vs are written at place (i, c) of object ob. -/
theorem sound_write {t : Nat} {x y : Operand} (ho : o.op = .store t x y) {ti : TI} (ht : lkT L t = some ti) {ob : Nat} {B : Ob} (hB : getO s.objs ob = some B) {i c : Nat}
    (hx : RT E (.ptr ob i c) (a.eval x)) {v : AV} (hv : RT E v (a.eval y)) (hok : okVal v = true) (hsz : (cellsOf v).length = ti.size) (hflat : B.box = true ∨ flat v = true)
    {old new : AV} (hold : B.els[i]? = some old) (hfit : c + ti.size ≤ (cellsOf old).length)
    (hnew : cellsOf new = (cellsOf old).take c ++ (cellsOf v ++ (cellsOf old).drop (c + (cellsOf v).length)))
    (hK : K { s with objs := setO s.objs ob { B with els := st B.els i new } }) (hdst : o.dst = none) : o.wp P a E.w next Q := by
  obtain ⟨hr, h1⟩ := hv.cells hok
  simp only [RT] at hx
  obtain ⟨b, g2, g3⟩ := hx.2 B (by rw [h.objsEq]; exact hB)
  rcases h.objs ob B hB with ⟨k1, _⟩ | ⟨b', cap, arr, e, k1, k2, k3, k4, k5, k6, k7⟩
  · rw [k1] at g2; cases g2
  rw [k1] at g2; cases g2
  have hlen : (a.eval y).cells.toList.length = ti.size := by rw [← hr.length, hsz]
  have hi : i < B.els.length := (List.getElem?_eq_some_iff.1 hold).1
  have hos := (k7 i old hold).1
  have hfit' : i * B.esz + c + ti.size ≤ arr.size := by
    rw [k5]
    have h2 : (i + 1) * B.esz ≤ cap * B.esz := Nat.mul_le_mul_right _ (by omega)
    rw [Nat.add_mul, Nat.one_mul] at h2
    omega
  have hrun := run_st hL ht k4 hlen h1 hfit'
  have hex : (execOp a.eval o).run P E.w = .ok .skip (E.w.setRow b (arr.toList.take (i * B.esz + c) ++ (a.eval y).cells.toList ++ arr.toList.drop (i * B.esz + c + (a.eval y).cells.toList.length)).toArray) := by
    unfold execOp
    simp only [ho, g3, Sem.run_bind, hrun, Result.andThen_ok, Sem.run_pure]
  refine wp_skip' hex (hn _ _ ?_)
  have hput : a.put o.dst undef = a := by rw [hdst]; rfl
  rw [hput]
  generalize hvs : (a.eval y).cells.toList = vs at *
  have hal : i * B.esz + c + vs.length ≤ arr.toList.length := by rw [hlen]; simpa using hfit'
  refine ⟨_, _, rfl, h.write (ob := { B with els := st B.els i new }) (wrote_setRow k4 _) k2 k4 (setRow_heap _ _ _ _ _ _ k4) ?_ ⟨B, hB, rfl, rfl, (st_length _ _ _).symm, k1⟩ k3 (cap := cap) ?_ ?_ (fun i' x' hx' => ?_), hK⟩
  · rw [List.size_toArray, splice_length _ _ _ hal]; simp
  · rw [List.size_toArray, splice_length _ _ _ hal]; simpa using k5
  · simpa [st_length] using k6
  · have hgoes : E.Goes (fun _ => False) (E.wr (E.w.setRow b (arr.toList.take (i * B.esz + c) ++ vs ++ arr.toList.drop (i * B.esz + c + vs.length)).toArray) ob { B with els := st B.els i new } b) :=
      Env.goes_wr (wrote_setRow k4 _) k2 k4 (setRow_heap _ _ _ _ _ _ k4) (by rw [List.size_toArray, splice_length _ _ _ hal]; simp)
        ⟨B, by rw [h.objsEq]; exact hB, rfl, rfl, (st_length _ _ _).symm, k1⟩
    rw [st_get] at hx'
    by_cases hii : i' = i
    · subst hii
      rw [if_pos rfl, if_pos hi] at hx'; cases hx'
      refine ⟨by rw [hnew]; simp; omega, fun j y' hy' => ?_⟩
      rw [hnew] at hy'
      simp only [List.getElem?_toArray]
      rw [splice_get _ _ _ _ hal]
      by_cases hj : c ≤ j ∧ j < c + vs.length
      · rw [if_pos (by omega)]
        have hlv : (cellsOf v).length = vs.length := by rw [hsz, hlen]
        rw [List.getElem?_append_right (by simp; omega), List.getElem?_append_left (by simp; omega)] at hy'
        have hle : ((cellsOf old).take c).length = c := by simp; omega
        rw [hle] at hy'
        obtain ⟨u, hu, hur⟩ := hr.get _ _ hy'
        refine ⟨u, by rw [show i' * B.esz + j - (i' * B.esz + c) = j - c by omega]; exact hu, ?_⟩
        have hmem : u ∈ vs := List.mem_of_getElem? hu
        have key : ∀ bx : Bool, (bx = true ∨ flat v = true) → RC (E.wr (E.w.setRow b (arr.toList.take (i' * B.esz + c) ++ vs ++ arr.toList.drop (i' * B.esz + c + vs.length)).toArray) ob { B with els := st B.els i' new } b) bx [i', j, ob] y' u := fun bx hbx => by
          cases bx with
          | true => simp only [RC, cond_true]; exact ⟨hur.goes hgoes (Free.none _), h1 u hmem⟩
          | false =>
            simp only [RC, cond_false]
            have hf : flat v = true := by simpa using hbx
            have hfc : flatC y' = true := by
              unfold flat at hf
              exact List.all_eq_true.1 hf y' (List.mem_of_getElem? hy')
            exact (hur.goes hgoes (Free.none _)).flat hfc _
        exact key _ hflat
      · rw [if_neg (by omega)]
        have hyo : (cellsOf old)[j]? = some y' := by
          have hlv : (cellsOf v).length = vs.length := by rw [hsz, hlen]
          have hle : ((cellsOf old).take c).length = c := by simp; omega
          rcases Nat.lt_or_ge j c with hjc | hjc
          · rw [List.getElem?_append_left (by omega), List.getElem?_take, if_pos hjc] at hy'; exact hy'
          · rw [List.getElem?_append_right (by omega), List.getElem?_append_right (by omega), List.getElem?_drop] at hy'
            rwa [show c + (cellsOf v).length + (j - ((cellsOf old).take c).length - (cellsOf v).length) = j by omega] at hy'
        obtain ⟨u, hu, hur⟩ := (k7 i' old hold).2 j y' hyo
        exact ⟨u, by simpa using hu, hur.goes hgoes (fun _ _ _ h => h) (fun _ => Free.none _)⟩
    · rw [if_neg hii] at hx'
      refine ⟨(k7 i' x' hx').1, fun j y' hy' => ?_⟩
      obtain ⟨u, hu, hur⟩ := (k7 i' x' hx').2 j y' hy'
      refine ⟨u, ?_, hur.goes hgoes (fun _ _ _ h => h) (fun _ => Free.none _)⟩
      simp only [List.getElem?_toArray]
      have hj : j < B.esz := by rw [← (k7 i' x' hx').1]; exact (List.getElem?_eq_some_iff.1 hy').1
      rw [splice_get _ _ _ _ hal, if_neg ?_]
      · simpa using hu
      · rintro ⟨m1, m2⟩
        rcases Nat.lt_or_gt_of_ne hii with hlt | hlt
        · have : (i' + 1) * B.esz ≤ i * B.esz := Nat.mul_le_mul_right _ hlt
          rw [Nat.add_mul, Nat.one_mul] at this
          show False
          have m1' : i * B.esz + c ≤ i' * B.esz + j := m1
          omega
        · have : (i + 1) * B.esz ≤ i' * B.esz := Nat.mul_le_mul_right _ hlt
          rw [Nat.add_mul, Nat.one_mul] at this
          have m2' : i' * B.esz + j < i * B.esz + c + vs.length := m2
          omega

theorem sound_store {t : Nat} {x y : Operand} (ho : o.op = .store t x y) (hdst : o.dst = none) (hk : storeK L s t (s.env x) (s.env y) K) : o.wp P a E.w next Q := by
  unfold storeK at hk
  split at hk
  · rename_i ob i c ti hx ht
    split at hk
    · rename_i B hB
      cases hc : okVal (s.env y) && (((cellsOf (s.env y)).length == ti.size) && (B.box || flat (s.env y))) with
      | false => rw [hc] at hk; exact hk.elim
      | true =>
        rw [hc] at hk
        simp only [ifK] at hk
        simp only [Bool.and_eq_true, Bool.or_eq_true] at hc
        obtain ⟨c1, c2, c3⟩ := hc
        have c2' := eq_of_beq c2
        have hxr := h.env x
        rw [hx] at hxr
        cases hw : (c == 0) && (ti.size == B.esz) with
        | true =>
          rw [hw] at hk
          simp only [ifK] at hk
          simp only [Bool.and_eq_true] at hw
          obtain ⟨w1, w2⟩ := hw
          have w1' := eq_of_beq w1
          have w2' := eq_of_beq w2
          subst w1'
          obtain ⟨hi, hk⟩ := ltK_iff.1 hk
          have hold := List.getElem?_eq_getElem hi
          have hes : (cellsOf B.els[i]).length = B.esz := by
            rcases h.objs ob B hB with ⟨_, _, k3, _⟩ | ⟨_, _, _, _, _, _, _, _, _, _, k7⟩
            · rw [k3] at hi; simp at hi
            · exact (k7 i _ hold).1
          refine sound_write hL h hn ho ht hB hxr (h.env y) c1 c2' c3 hold (by rw [hes, w2']; omega) ?_ hk hdst
          simp only [List.take_zero, List.nil_append, Nat.zero_add]
          rw [List.drop_eq_nil_of_le (by rw [hes, c2', w2']; exact Nat.le_refl _), List.append_nil]
        | false =>
          rw [hw] at hk
          simp only [ifK] at hk
          obtain ⟨old, hold, hk⟩ := idxK_iff.1 hk
          cases hle : Nat.ble (c + ti.size) (cellsOf old).length with
          | false => rw [hle] at hk; exact hk.elim
          | true =>
            rw [hle] at hk
            simp only [ifK] at hk
            have hle' := Nat.le_of_ble_eq_true hle
            obtain ⟨hr, h1⟩ := (h.env y).cells c1
            exact sound_write hL h hn ho ht hB hxr (h.env y) c1 c2' c3 hold hle' (cellsOf_putC hr h1 (by rw [c2']; exact hle')) hk hdst
    · exact hk.elim
  · exact hk.elim
end

end Go.Eng
/- New boxes, element addresses, operators. -/
namespace Go.Eng
open Go.RowKit
set_option linter.unusedSimpArgs false
set_option linter.unusedVariables false

def indexK (L : Lay) (g : Nat → Option Ob) (t : Nat) (x i : AV) (K : AV → Prop) : Prop := match x, i, lkT L t with
  | .sl esz _ _ xs, .v (.int _ n), some ⟨.slice e, _, _, _, _⟩ => (match lkT L e with
    | some ei => ifK ((ei.size == esz)) (fun _ => idxI xs n fun y => K (.ip (cellsOf y) 0)) (fun _ => False)
    | none => False)
  | .row ob, .v (.int _ n), some ⟨.slice e, _, _, _, _⟩ => (match g ob, lkT L e with
    | some B, some ei => ifK ((ei.size == B.esz)) (fun _ => ltI B.els n fun k => K (.ptr ob k 0)) (fun _ => False)
    | _, _ => False)
  | .osl ob lo m, .v (.int _ n), some ⟨.slice e, _, _, _, _⟩ => (match g ob, lkT L e with
    | some B, some ei => ifK ((ei.size == B.esz)) (fun _ => 0 ≤ n ∧ n < m ∧ K (.ptr ob (lo + n.toNat) 0)) (fun _ => False)
    | _, _ => False)
  | _, _, _ => False

/-- A byte of a string. -/
def strI (b : ByteArray) (n : Int) (K : AV → Prop) : Prop := ∃ h : n.toNat < b.size, 0 ≤ n ∧ K (.v (.int .u8 b[n.toNat].toNat))
def strK (L : Lay) (t : Nat) (x i : AV) (K : AV → Prop) : Prop := match x, i, lkT L t with
  | .v (.string b), .v (.int _ n), some ⟨.str, _, _, _, _⟩ => strI b n K
  | _, _, _ => False

def lenK (L : Lay) (g : Nat → Option Ob) (t : Nat) (x : AV) (K : AV → Prop) : Prop := match x, lkT L t with
  | .sl _ _ _ xs, some ⟨.slice _, _, _, _, _⟩ => K (.v (.int .i64 xs.length))
  | .row o, some ⟨.slice _, _, _, _, _⟩ => (match g o with
    | some B => K (.v (.int .i64 B.els.length))
    | none => False)
  | .osl o _ n, some ⟨.slice _, _, _, _, _⟩ => (match g o with
    | some _ => K (.v (.int .i64 n))
    | none => False)
  | .v (.slice none 0 0), some ⟨.slice _, _, _, _, _⟩ => K (.v (.int .i64 0))
  | .v (.string b), some ⟨.str, _, _, _, _⟩ => K (.v (.int .i64 b.size))
  | _, _ => False

def mn (a b : Int) : Int := if a > b then b else a
def mx (a b : Int) : Int := if b > a then b else a

section
variable {P : Program} {L : Lay} (hL : LOk P L) {F : Frm} {s : AS} {a : Act} {E : Env} (h : Ok F s a E) {o : Oper} {next : Act → World → Prop} {Q : Exit → Act → World → Prop} {K : AS → Prop}
  (hn : ∀ a' w', Sat F K a' w' → next a' w')
include h hn

theorem sound_newBox {x : AV} {c : Value} {esz : Nat} (e : TypeId) (hx : RT E x c) (hok : okVal x = true) (hl : (cellsOf x).length = esz)
    (hr : (execOp a.eval o).run P E.w = .ok (.value (.pointer (some ⟨E.w.heap.size, 0, none⟩))) (E.w.alloc (.cells c.cells e)))
    (hk : newBox o.dst x esz s K) : o.wp P a E.w next Q := by
  unfold newBox at hk
  split at hk
  · rename_i d hd
    split at hk
    · rename_i hg
      cases hnr : noRefL d s.tmps && (noRefO d s.objs && noRefL d (cellsOf x)) with
      | false => rw [hnr] at hk; exact hk.elim
      | true =>
      rw [hnr] at hk
      simp only [Bool.and_eq_true] at hnr
      obtain ⟨nr1, nr2, nr3⟩ := hnr
      obtain ⟨hc, h1⟩ := hx.cells hok
      have hgoes : E.Goes (· = d) (E.new d ⟨esz, true, none, [x]⟩ (.cells c.cells e)) := Env.goes_new
      have hlc : c.cells.size = esz := by rw [← hl, hc.length]; simp
      have hnew := h.new hg nr1 nr2 (ob := ⟨esz, true, none, [x]⟩) (arr := c.cells) (e := e) (cap := 1) (by simp) (by simp [hlc]) (by simp) (fun i y hy => by
        have hi : i = 0 := by
          have := (List.getElem?_eq_some_iff.1 hy).1
          simp at this; exact this
        subst hi
        simp at hy; subst hy
        refine ⟨hl, fun j z hz => ?_⟩
        obtain ⟨u, hu, hur⟩ := hc.get j z hz
        refine ⟨u, by simpa using hu, ?_⟩
        simp only [RC, cond_true]
        exact ⟨hur.goes hgoes (FreeL.get (N := (· = d)) (fun o ho => by subst ho; exact nr3) j z hz), h1 u (List.mem_of_getElem? hu)⟩)
      refine wp_value hr (hn _ _ ⟨_, _, rfl, hnew.put o.dst (x := .ptr d 0 0) (c := .pointer (some ⟨E.w.heap.size, 0, none⟩)) ?_, ?_⟩)
      · simp only [RT, Env.ptr]
        refine ⟨rfl, fun ob' ho' => ?_⟩
        simp only [Env.new] at ho'
        rw [getO_setO, if_pos rfl] at ho'; cases ho'
        exact ⟨E.w.heap.size, by simp [Env.new], by simp⟩
      · rw [hd]; exact hk
    · exact hk.elim
  · exact hk.elim

theorem sound_box {t : Nat} {x : Operand} (ho : o.op = .box t x) {esz : Nat} (hok : okVal (s.env x) = true) (hl : (cellsOf (s.env x)).length = esz)
    (hk : newBox o.dst (s.env x) esz s K) : o.wp P a E.w next Q := by
  refine sound_newBox h hn t (h.env x) hok hl ?_ hk
  unfold execOp
  simp only [ho, Instr.box, newVar, newRow, Sem.run_bind, run_newObj, Result.andThen_ok, Sem.run_pure]
  rfl

include hL
theorem sound_alloc {t : Nat} (ho : o.op = .alloc t) {ti : TI} (ht : lkT L t = some ti)
    (hk : newBox o.dst (bif ti.d.agg then .agg (ti.zero.map .v) else (ti.zero.map .v).headD .bad) ti.size s K) (hz : ti.d.agg = true ∨ ti.zero.length = 1) : o.wp P a E.w next Q := by
  have hti := hL t ti ht
  obtain ⟨i, hi, hs, hb, z, hz1, hz2⟩ := hti.info
  have hrun : (execOp a.eval o).run P E.w = .ok (.value (.pointer (some ⟨E.w.heap.size, 0, none⟩))) (E.w.alloc (.cells z.cells t)) := by
    unfold execOp
    simp only [ho, Instr.alloc, zeroValue, typeInfo, Sem.run_bind, run_program, Result.andThen_ok, hi, Sem.run_pure, hz1, newVar, newRow, run_newObj]
    rfl
  have hrl : RTL E (ti.zero.map AV.v) z.cells.toList := by
    rw [hz2]
    refine RTL.of (by simp) (fun j x c hx hc => ?_)
    simp only [List.getElem?_map, hc, Option.map_some, Option.some.injEq] at hx
    subst hx
    simp only [RT]
    exact .v (hti.plain c (List.mem_of_getElem? hc))
  cases ha : ti.d.agg with
  | true =>
    rw [ha] at hk
    simp only [cond_true] at hk
    refine sound_newBox h hn t (c := .agg z.cells) ?_ rfl (by simp [cellsOf, hti.zlen]) hrun hk
    simp only [RT]
    exact ⟨z.cells.toList, by simp, hrl, fun u hu => plain_one (hti.plain u (by rw [← hz2]; exact hu))⟩
  | false =>
    rw [ha] at hk hz
    simp only [cond_false] at hk
    have hz' : ti.zero.length = 1 := by simpa using hz
    match hze : ti.zero, hz' with
    | [u], _ =>
      rw [hze] at hk hrl hz2
      simp only [List.map_cons, List.map_nil, List.headD_cons] at hk
      have hu : plain u = true := hti.plain u (by rw [hze]; simp)
      refine sound_newBox h hn t (c := u) (by simp only [RT]; exact .v hu) rfl ?_ ?_ hk
      · simp [cellsOf, ← hti.zlen, hze]
      · rw [hrun]
        have : z.cells = u.cells := by
          apply Array.toList_inj.1
          rw [hz2]
          have := plain_one hu
          cases u <;> simp_all [Value.cells, Value.oneCell']
        rw [this]

theorem sound_index {t : Nat} {x i : Operand} (ho : o.op = .indexAddr t x i) (hk : indexK L (getO s.objs) t (s.env x) (s.env i) fun y => K (s.put o.dst y)) : o.wp P a E.w next Q := by
  have hx := h.env x
  have hi := h.env i
  have key : ∀ (e : Nat) (ei : TI) (b f n cap : Nat) (k : IntKind) (m : Int), P.underlying t = some (.slice e) → lkT L e = some ei → a.eval x = .slice (some ⟨b, f, none⟩) n cap → a.eval i = .int k m → 0 ≤ m → m.toNat < n →
      (execOp a.eval o).run P E.w = .ok (.value (.pointer (some ⟨b, f + m.toNat * ei.size, none⟩))) E.w := by
    intro e ei b f n cap k m hu he hx hi h0 hlt
    obtain ⟨inf, g1, g2, _⟩ := (hL e ei he).info
    have hlt' : m < (n : Int) := by omega
    unfold execOp
    simp [ho, hx, hi, Instr.indexAt, asIntOf, run_underlying hu, h0, hlt', sizeOf, typeInfo, g1, g2, Addr.add_mid]
  unfold indexK at hk
  split at hk
  · rename_i esz own nl xs k n e sz by_ ze eq hx' hi' ht
    rw [hx'] at hx
    rw [hi'] at hi
    have hu : P.underlying t = some (.slice e) := (hL t _ ht).desc
    split at hk
    · rename_i ei he
      cases hs : (ei.size == esz) with
      | false => rw [hs] at hk; exact hk.elim
      | true =>
        rw [hs] at hk
        simp only [ifK] at hk
        have hs' := eq_of_beq hs
        obtain ⟨h0, y, hy, hk⟩ := idxI_iff.1 hk
        have hiv := hi.int_inv
        simp only [RT] at hx
        generalize hv : a.eval x = v at hx
        cases hx with
        | nil => simp at hy
        | @sl _ _ _ _ _ _ b f n' cap cf hnl hlen hcap hroot hb hsz hc hr hown =>
          refine sound_put h hn (key e ei b f n' cap k n hu he hv hiv h0 (by rw [← hlen]; exact (List.getElem?_eq_some_iff.1 hy).1)) ?_ hk
          simp only [RT, Env.ip]
          refine ⟨b, f + n.toNat * ei.size, by simp, hroot, hb, fun j z hz => ?_⟩
          exact ⟨_, by rw [hs']; exact hc _ _ _ _ hy hz, (hr _ _ _ _ hy hz).lend⟩
    · exact hk.elim
  · rename_i ob k n e sz by_ ze eq hx' hi' ht
    rw [hx'] at hx
    rw [hi'] at hi
    have hu : P.underlying t = some (.slice e) := (hL t _ ht).desc
    split at hk
    · rename_i B ei hB he
      cases hs : (ei.size == B.esz) with
      | false => rw [hs] at hk; exact hk.elim
      | true =>
        rw [hs] at hk
        simp only [ifK] at hk
        have hs' := eq_of_beq hs
        obtain ⟨h0, hlt, hk⟩ := ltI_iff.1 hk
        have hiv := hi.int_inv
        simp only [RT] at hx
        obtain ⟨g2, g3⟩ := hx.2 B (by rw [h.objsEq]; exact hB)
        rcases g3 with ⟨g3, _⟩ | ⟨b, cap, g3, g4, g5⟩
        · rcases h.objs ob B hB with ⟨_, _, k3, _⟩ | ⟨_, _, _, _, k1, _⟩
          · rw [k3] at hlt; simp at hlt
          · rw [k1] at g3; cases g3
        · refine sound_put h hn (key e ei b 0 _ cap k n hu he g5 hiv h0 hlt) ?_ hk
          simp only [RT, Env.ptr]
          refine ⟨rfl, fun B' hB' => ?_⟩
          rw [h.objsEq, hB] at hB'; cases hB'
          exact ⟨b, g3, by rw [hs']; simp⟩
    · exact hk.elim
  · rename_i ob lo m k n e sz by_ ze eq hx' hi' ht
    rw [hx'] at hx
    rw [hi'] at hi
    have hu : P.underlying t = some (.slice e) := (hL t _ ht).desc
    split at hk
    · rename_i B ei hB he
      cases hs : (ei.size == B.esz) with
      | false => rw [hs] at hk; exact hk.elim
      | true =>
        rw [hs] at hk
        simp only [ifK] at hk
        have hs' := eq_of_beq hs
        obtain ⟨h0, hlt, hk⟩ := hk
        have hiv := hi.int_inv
        simp only [RT] at hx
        obtain ⟨g2, g2', g3⟩ := hx.2 B (by rw [h.objsEq]; exact hB)
        rcases g3 with ⟨g3, _⟩ | ⟨b, cap, f, cap', g3, g4, g5, g6⟩
        · rcases h.objs ob B hB with ⟨_, _, k3, _⟩ | ⟨_, _, _, _, k1, _⟩
          · rw [k3] at g2'; simp at g2'; omega
          · rw [k1] at g3; cases g3
        · refine sound_put h hn (key e ei b f _ cap' k n hu he g5 hiv h0 (by omega)) ?_ hk
          simp only [RT, Env.ptr]
          refine ⟨rfl, fun B' hB' => ?_⟩
          rw [h.objsEq, hB] at hB'; cases hB'
          refine ⟨b, g3, ?_⟩
          rcases g6 with ⟨g6, _⟩ | ⟨g6, _⟩
          · rw [g6, hs', Nat.add_mul]; simp
          · omega
    · exact hk.elim
  · exact hk.elim

theorem sound_str {t : Nat} {x i : Operand} (ho : o.op = .index t x i) (hk : strK L t (s.env x) (s.env i) fun y => K (s.put o.dst y)) : o.wp P a E.w next Q := by
  have hx := h.env x
  have hi := h.env i
  unfold strK at hk
  split at hk
  · rename_i b k n sz by_ ze eq hx' hi' ht
    rw [hx'] at hx
    rw [hi'] at hi
    obtain ⟨hlt, h0, hk⟩ := hk
    have hu : P.underlying t = some .string := (hL t _ ht).desc
    refine sound_put h hn (v := .int .u8 b[n.toNat].toNat) ?_ (RT.int _ _) hk
    have hb : b[n.toNat]? = some b[n.toNat] := getElem?_pos b n.toNat hlt
    unfold execOp
    simp [ho, hx.str_inv, hi.int_inv, Instr.index, asIntOf, run_underlying hu, h0, hb]
  · exact hk.elim

theorem sound_len {c : Call} {x : Operand} {t : Nat} (ho : o.op = .call c) (hc : c.callee = .builtin .len) (ha : c.args = #[x]) (hat : c.argTypes = #[t])
    (hk : lenK L (getO s.objs) t (s.env x) fun y => K (s.put o.dst y)) : o.wp P a E.w next Q := by
  have hx := h.env x
  have ex : ∀ v, (Builtin.len_ #[t] o.type #[a.eval x]).run P E.w = .ok v E.w → (execOp a.eval o).run P E.w = .ok (.value v) E.w := fun v hv => by
    unfold execOp
    simp [ho, resolve, hc, invoke, builtin, ha, hat, hv]
  unfold lenK at hk
  split at hk
  · rename_i esz own nl xs e sz by_ ze eq hx' ht
    rw [hx'] at hx
    have hu : P.underlying t = some (.slice e) := (hL t _ ht).desc
    simp only [RT] at hx
    generalize hv : a.eval x = v at hx ex
    cases hx with
    | nil => exact sound_put h hn (ex (.int .i64 0) (by simp [Builtin.len_, run_underlying hu, goInt])) (RT.int _ _) hk
    | @sl _ _ _ _ _ _ b f n' cap cf hnl hlen =>
      subst hlen
      exact sound_put h hn (ex (.int .i64 xs.length) (by simp [Builtin.len_, run_underlying hu, goInt])) (RT.int _ _) hk
  · rename_i ob e sz by_ ze eq hx' ht
    rw [hx'] at hx
    have hu : P.underlying t = some (.slice e) := (hL t _ ht).desc
    split at hk
    · rename_i B hB
      simp only [RT] at hx
      obtain ⟨g2, g3⟩ := hx.2 B (by rw [h.objsEq]; exact hB)
      rcases g3 with ⟨g3, g4⟩ | ⟨b, cap, g3, g4, g5⟩
      · have h0 : B.els.length = 0 := by
          rcases h.objs ob B hB with ⟨_, _, k3, _⟩ | ⟨_, _, _, _, k1, _⟩
          · simp [k3]
          · rw [k1] at g3; cases g3
        rw [h0] at hk
        exact sound_put h hn (ex (.int .i64 0) (by simp [g4, Builtin.len_, run_underlying hu, goInt])) (RT.int _ _) hk
      · exact sound_put h hn (ex (.int .i64 B.els.length) (by simp [g5, Builtin.len_, run_underlying hu, goInt])) (RT.int _ _) hk
    · exact hk.elim
  · rename_i ob lo n e sz by_ ze eq hx' ht
    rw [hx'] at hx
    have hu : P.underlying t = some (.slice e) := (hL t _ ht).desc
    simp only [RT] at hx
    obtain ⟨B, hB, hk⟩ : ∃ B, getO s.objs ob = some B ∧ K (s.put o.dst (.v (.int .i64 n))) := by
      split at hk
      · exact ⟨_, ‹_›, hk⟩
      · exact hk.elim
    obtain ⟨g2, g2', g3⟩ := hx.2 B (by rw [h.objsEq]; exact hB)
    rcases g3 with ⟨g3, g4⟩ | ⟨b, cap, f, cap', g3, g4, g5, _⟩
    · have h0 : n = 0 := by
        rcases h.objs ob B hB with ⟨_, _, k3, _⟩ | ⟨_, _, _, _, k1, _⟩
        · rw [k3] at g2'; simp at g2'; omega
        · rw [k1] at g3; cases g3
      rw [h0] at hk
      exact sound_put h hn (ex (.int .i64 0) (by simp [g4, Builtin.len_, run_underlying hu, goInt])) (RT.int _ _) hk
    · exact sound_put h hn (ex (.int .i64 n) (by simp [g5, Builtin.len_, run_underlying hu, goInt])) (RT.int _ _) hk
  · rename_i e sz by_ ze eq hx' ht
    rw [hx'] at hx
    have hu : P.underlying t = some (.slice e) := (hL t _ ht).desc
    exact sound_put h hn (ex (.int .i64 0) (by simp [hx.v_inv.1, Builtin.len_, run_underlying hu, goInt])) (RT.int _ _) hk
  · rename_i b sz by_ ze eq hx' ht
    rw [hx'] at hx
    have hu : P.underlying t = some .string := (hL t _ ht).desc
    exact sound_put h hn (ex (.int .i64 b.size) (by simp [hx.str_inv, Builtin.len_, run_underlying hu, goInt])) (RT.int _ _) hk
  · exact hk.elim
end

end Go.Eng
