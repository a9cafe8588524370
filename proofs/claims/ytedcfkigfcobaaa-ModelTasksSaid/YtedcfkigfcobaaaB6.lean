/-
  A part of the proof that the statement on the tasks of a machine returns true for every input: no condition is asked beyond those of the theorems below.
-/
import Derived.Test.YtedcfkigfcobaaaB5
set_option linter.unusedVariables false
set_option linter.unusedSimpArgs false
set_option linter.unusedSectionVars false
/- Contracts: the queue. -/
section
namespace Go.Proofs.Ytedcfkigfcobaaa
open Go Go.Proofs
attribute [local irreducible] Bc O AL BS MS MM ST AP CV Cl
structure QI where
  task : Int
  front : Bool
  due : Int
def encQI (q : QI) : List Value := [.int .i64 q.task, .bool q.front, .int .i64 q.due]
theorem encQI_len (q : QI) : (encQI q).length = 3 := rfl
theorem encQI_one (q : QI) : (encQI q).all one = true := rfl
structure QS where
  b : Nat
  v : Value
  l : List QI
abbrev QS.parts (q : QS) : List Atom := [bk q.b 99 [q.v], sl 133 3 q.v q.l.length (q.l.flatMap encQI)]
def queueA (q : QS) : Atom := sep q.parts
def IsFirst (l : List QI) (i : Nat) : Prop := ∃ x, l[i]? = some x ∧ (∀ (j : Nat) y, l[j]? = some y → j < i → x.front = true ∨ (y.front = false ∧ x.due < y.due)) ∧ (∀ (j : Nat) y, l[j]? = some y → i < j → y.front = false ∧ (x.front = true ∨ x.due ≤ y.due))
theorem IsFirst.same {l : List QI} {i j : Nat} (hi : IsFirst l i) (hj : IsFirst l j) : i = j := by
  obtain ⟨x, hx, hx1, hx2⟩ := hi
  obtain ⟨y, hy, hy1, hy2⟩ := hj
  rcases Nat.lt_trichotomy i j with h | h | h
  · have a := hx2 j y hy h
    rcases hy1 i x hx h with b | b
    · rw [a.1] at b; cases b
    · rcases a.2 with c | c
      · rw [b.1] at c; cases c
      · omega
  · exact h
  · have a := hy2 i x hx h
    rcases hx1 j y hy h with b | b
    · rw [a.1] at b; cases b
    · rcases a.2 with c | c
      · rw [b.1] at c; cases c
      · omega
def DueAt (l : List QI) (now : Int) : Option (Nat × QI) → Prop
  | none => l = [] ∨ ∃ i x, IsFirst l i ∧ l[i]? = some x ∧ x.front = false ∧ now < x.due
  | some (i, x) => IsFirst l i ∧ l[i]? = some x ∧ (x.front = true ∨ x.due ≤ now)
theorem DueAt.same {l : List QI} {now : Int} : ∀ {a b : Option (Nat × QI)}, DueAt l now a → DueAt l now b → a = b
  | none, none, _, _ => rfl
  | some (i, x), some (j, y), ha, hb => by
    have e := ha.1.same hb.1
    subst e
    have := ha.2.1.symm.trans hb.2.1
    cases this; rfl
  | none, some (j, y), ha, hb => by
    rcases ha with rfl | ⟨i, x, h1, h2, h3, h4⟩
    · have := hb.2.1; simp at this
    · have e := h1.same hb.1
      subst e
      have := h2.symm.trans hb.2.1
      cases this
      rcases hb.2.2 with c | c
      · rw [h3] at c; cases c
      · omega
  | some (j, y), none, hb, ha => by
    rcases ha with rfl | ⟨i, x, h1, h2, h3, h4⟩
    · have := hb.2.1; simp at this
    · have e := h1.same hb.1
      subst e
      have := h2.symm.trans hb.2.1
      cases this
      rcases hb.2.2 with c | c
      · rw [h3] at c; cases c
      · omega
def dueV : Option (Nat × QI) → Value
  | none => .tuple #[.agg #[.int .i64 0, .bool false, .int .i64 0], .bool false]
  | some (_, x) => .tuple #[.agg (encQI x).toArray, .bool true]
def OfAt (l : List QI) (t i : Int) : Prop := (i = -1 ∧ ∀ (j : Nat) x, l[j]? = some x → x.task ≠ t) ∨ (∃ n : Nat, i = n ∧ (∃ x, l[n]? = some x ∧ x.task = t) ∧ ∀ (j : Nat) x, l[j]? = some x → j < n → x.task ≠ t)
theorem flat_take {α : Type} {enc : α → List Value} {sz : Nat} (hsz : ∀ x, (enc x).length = sz) : ∀ (xs : List α) (i : Nat), (xs.flatMap enc).take (i * sz) = (xs.take i).flatMap enc
  | [], i => by simp
  | x :: xs, 0 => by simp
  | x :: xs, i + 1 => by
    rw [List.flatMap_cons, List.take_succ_cons, List.flatMap_cons, show (i + 1) * sz = (enc x).length + i * sz from by rw [hsz, Nat.add_mul]; omega, List.take_length_add_append, flat_take hsz xs i]
theorem flat_dropn {α : Type} {enc : α → List Value} {sz : Nat} (hsz : ∀ x, (enc x).length = sz) : ∀ (xs : List α) (i : Nat), (xs.flatMap enc).drop (i * sz) = (xs.drop i).flatMap enc
  | [], i => by simp
  | x :: xs, 0 => by simp
  | x :: xs, i + 1 => by
    rw [List.flatMap_cons, List.drop_succ_cons, show (i + 1) * sz = (enc x).length + i * sz from by rw [hsz, Nat.add_mul]; omega, List.drop_length_add_append, flat_dropn hsz xs i]
theorem slc_to {sz b n cap i : Nat} (h : i ≤ cap) : slc sz (.slice (some ⟨b, 0, none⟩) n cap) none (some (.int .i64 i)) = some (.slice (some ⟨b, 0, none⟩) i cap) := by
  simp only [slc]
  rw [if_pos ⟨by omega, by omega, by omega⟩]
  have : (if (cap : Int) = 0 then some (⟨b, 0, none⟩ : Addr) else (some (⟨b, 0, none⟩ : Addr)).map (·.add ((0 : Int).toNat * sz))) = some ⟨b, 0, none⟩ := by
    split
    · rfl
    · simp [Addr.add]
  rw [this]; simp
theorem slc_from {sz b n cap i : Nat} (h : i ≤ n) (hc : n ≤ cap) : slc sz (.slice (some ⟨b, 0, none⟩) n cap) (some (.int .i64 i)) none = some (.slice (some ⟨b, if cap = i then 0 else i * sz, none⟩) (n - i) (cap - i)) := by
  simp only [slc]
  rw [if_pos ⟨by omega, by omega, by omega⟩]
  have : (if (cap : Int) = i then some (⟨b, 0, none⟩ : Addr) else (some (⟨b, 0, none⟩ : Addr)).map (·.add ((i : Int).toNat * sz))) = some ⟨b, if cap = i then 0 else i * sz, none⟩ := by
    by_cases hci : cap = i
    · rw [if_pos (by omega), if_pos hci]
    · rw [if_neg (by omega), if_neg hci]; simp [Addr.add]; exact fun h => h.symm
  rw [this]
  congr 2 <;> omega
section
variable {B : Base} {w : World} {L : List Atom}
theorem k65 {q : QS} (hw : Own B w L) (i : Nat) (hi : L[i]? = some (queueA q)) (hq : q.l.length < 2 ^ 40) (t : Int) : Cl Try.prog 65 [pp q.b, .int .i64 t] w fun v w' => (∃ n : Int, v = .int .i64 n ∧ OfAt q.l t n) ∧ w' = w := by
  have hw1 := hw.opn i hi
  refine s65 ?_
  unfold c65
  refine ⟨fun t' w' => ∃ n : Nat, t' = .int .i64 n ∧ n ≤ q.l.length ∧ (∀ (j : Nat) x, q.l[j]? = some x → j < n → x.task ≠ t) ∧ w' = w, fun t _ => match t with | .int _ i => (q.l.length - i).toNat | _ => 0, ⟨0, rfl, by omega, fun j x _ h => by omega, rfl⟩, ?_⟩
  rintro t5 _ ⟨n, rfl, hn, hno, rfl⟩
  (repeat with_reducible first | refine qq ?_ | refine qr ?_ | refine qs ?_ | refine hw1.l 0 ?_)
  refine O.mk (hw1.slLen 1 rfl) ?_
  (repeat with_reducible first | refine qq ?_ | refine qr ?_ | refine qs ?_)
  refine Bc_dec (fun hlt => ?_) (fun hge => ?_)
  · obtain ⟨x, hx⟩ := list_get (l := q.l) (j := n) (by omega)
    obtain ⟨b', hix, hrd, _⟩ := hw1.el 1 rfl encQI_len hx
    (repeat with_reducible first | refine qq ?_ | refine qr ?_ | refine qs ?_ | refine hw1.l 0 ?_)
    refine O.mk (hix _ _ (by omega) rfl) ?_
    (repeat with_reducible first | refine qq ?_ | refine qr ?_ | refine qs ?_)
    refine O.mk (hrd 0 _ rfl) ?_
    (repeat with_reducible first | refine qq ?_ | refine qr ?_ | refine qs ?_)
    refine Bc_dec (fun heq => ⟨⟨_, rfl, .inr ⟨n, rfl, ⟨x, hx, heq⟩, hno⟩⟩, rfl⟩) (fun hne => ?_)
    (repeat with_reducible first | refine qq ?_ | refine qr ?_ | refine qs ?_)
    refine ⟨⟨n + 1, rfl, by omega, fun j y hy hj => ?_, rfl⟩, by simp only; omega⟩
    by_cases hjn : j = n
    · subst hjn; rw [hx] at hy; cases hy; exact hne
    · exact hno j y hy (by omega)
  · exact ⟨⟨_, rfl, .inl ⟨rfl, fun j x hx => hno j x hx (by have := list_lt hx; omega)⟩⟩, rfl⟩
theorem tsz133 : tsz Try.prog 133 = some 3 := by kernel_rfl
def FirstTo (l : List QI) (n : Nat) (i : Int) : Prop := (i = -1 ∧ n = 0) ∨ ∃ (k : Nat) (x : QI), i = k ∧ k < n ∧ l[k]? = some x ∧ (∀ (j : Nat) y, l[j]? = some y → j < k → x.front = true ∨ (y.front = false ∧ x.due < y.due)) ∧ (∀ (j : Nat) y, l[j]? = some y → k < j → j < n → y.front = false ∧ (x.front = true ∨ x.due ≤ y.due))
theorem FirstTo.new {l : List QI} {n k : Nat} {x y : QI} (hx : l[k]? = some x) (h : FirstTo l n k) (hy : l[n]? = some y) (hn : y.front = true ∨ (x.front = false ∧ y.due < x.due)) : FirstTo l (n + 1) n := by
  rcases h with ⟨h, _⟩ | ⟨k', x', h1, h2, h3, h4, h5⟩
  · omega
  · have : k' = k := by omega
    subst this
    rw [hx] at h3; cases h3
    refine .inr ⟨n, y, rfl, by omega, hy, fun j z hz hj => ?_, fun j z hz hj hj' => by omega⟩
    rcases hn with hn | ⟨hn1, hn2⟩
    · exact .inl hn
    · right
      rcases Nat.lt_trichotomy j k' with hjk | hjk | hjk
      · rcases h4 j z hz hjk with c | c
        · rw [hn1] at c; cases c
        · exact ⟨c.1, by omega⟩
      · subst hjk; rw [hx] at hz; cases hz; exact ⟨hn1, hn2⟩
      · have c := h5 j z hz hjk hj
        refine ⟨c.1, ?_⟩
        rcases c.2 with c | c
        · rw [hn1] at c; cases c
        · omega
theorem FirstTo.old {l : List QI} {n k : Nat} {x y : QI} (hx : l[k]? = some x) (h : FirstTo l n k) (hy : l[n]? = some y) (hn : y.front = false ∧ (x.front = true ∨ x.due ≤ y.due)) : FirstTo l (n + 1) k := by
  rcases h with ⟨h, _⟩ | ⟨k', x', h1, h2, h3, h4, h5⟩
  · omega
  · have : k' = k := by omega
    subst this
    rw [hx] at h3; cases h3
    refine .inr ⟨k', x, rfl, by omega, hx, h4, fun j z hz hj hj' => ?_⟩
    by_cases hjn : j = n
    · subst hjn; rw [hy] at hz; cases hz; exact hn
    · exact h5 j z hz hj (by omega)
theorem FirstTo.all {l : List QI} {i : Int} (h : FirstTo l l.length i) : (i = -1 ∧ l = []) ∨ ∃ k : Nat, i = k ∧ IsFirst l k := by
  rcases h with ⟨h, h'⟩ | ⟨k, x, h1, h2, h3, h4, h5⟩
  · exact .inl ⟨h, List.eq_nil_of_length_eq_zero h'⟩
  · exact .inr ⟨k, h1, x, h3, h4, fun j y hy hj => h5 j y hy hj (list_lt hy)⟩
set_option maxHeartbeats 1000000 in
theorem k66 {q : QS} (hw : Own B w L) (i : Nat) (hi : L[i]? = some (queueA q)) (hq : q.l.length < 2 ^ 40) : Cl Try.prog 66 [pp q.b] w fun v w' => (∃ n : Int, v = .int .i64 n ∧ ((n = -1 ∧ q.l = []) ∨ ∃ k : Nat, n = k ∧ IsFirst q.l k)) ∧ Own B w' L := by
  have hsh : ∀ w', Own B w' (q.parts ++ L.eraseIdx i) → Own B w' L := fun w' h => by
    have := Own.shut hi h
    rwa [show sep q.parts = queueA q from rfl, set_same hi] at this
  have hw1 := hw.opn i hi
  clear hw
  refine s66 ?_
  unfold c66
  obtain ⟨R, hR⟩ : ∃ R : Value → World → Prop, R = fun v w' => (∃ n : Int, v = .int .i64 n ∧ ((n = -1 ∧ q.l = []) ∨ ∃ k : Nat, n = k ∧ IsFirst q.l k)) ∧ Own B w' L := ⟨_, rfl⟩
  rw [← hR]
  obtain ⟨I0, hI⟩ : ∃ I : Value → Value → World → Prop, I = fun t t' w' => ∃ (f : Int) (n : Nat), t = .int .i64 f ∧ t' = .int .i64 n ∧ n ≤ q.l.length ∧ FirstTo q.l n f ∧ Own B w' (q.parts ++ L.eraseIdx i) := ⟨_, rfl⟩
  obtain ⟨m0, hm⟩ : ∃ m : Value → Value → World → Nat, m = fun _ t _ => match t with | .int _ i => (q.l.length - i).toNat | _ => 0 := ⟨_, rfl⟩
  refine ⟨I0, m0, by rw [hI]; exact ⟨-1, 0, rfl, rfl, by omega, .inl ⟨rfl, rfl⟩, hw1⟩, ?_⟩
  clear hw1
  intro t3 t4 wh0 h0
  rw [hI] at h0
  obtain ⟨f, n, rfl, rfl, hn, hf, hw1⟩ := h0
  (repeat with_reducible first | refine qq ?_ | refine qr ?_ | refine qs ?_ | refine hw1.l 0 ?_)
  refine O.mk (hw1.slLen 1 rfl) ?_
  (repeat with_reducible first | refine qq ?_ | refine qr ?_ | refine qs ?_)
  refine Bc_dec (fun hlt => ?_) (fun hge => ?_)
  · obtain ⟨y, hy⟩ := list_get (l := q.l) (j := n) (by omega)
    obtain ⟨b', hix, hrd, hrdN⟩ := hw1.el 1 rfl encQI_len hy
    (repeat with_reducible first | refine qq ?_ | refine qr ?_ | refine qs ?_ | refine hw1.l 0 ?_)
    refine O.mk (hix _ _ (by omega) rfl) ?_
    refine O.mk hrdN ?_
    refine hw1.al fun b1 w2 hb1 hw2 => ?_
    clear hw1 hrd hrdN
    refine hw2.st_bk (x := .agg (encQI y).toArray) 0 rfl tsz133 rfl (Nat.le_refl 3) fun w3 hw3 => ?_
    replace hw3 : Own B w3 (bk b1 133 (encQI y) :: (q.parts ++ L.eraseIdx i)) := hw3
    clear hw2
    have J : ∀ (f' : Int) w', FirstTo q.l (n + 1) f' → Own B w' (q.parts ++ L.eraseIdx i) → j66_0 R (.int .i64 n) I0 m0 (.int .i64 f) wh0 (.int .i64 f') w' := by
      intro f' w' hf' hw'
      unfold j66_0
      (repeat with_reducible first | refine qq ?_ | refine qr ?_ | refine qs ?_)
      rw [hI, hm]
      exact ⟨⟨f', n + 1, rfl, rfl, by omega, hf', hw'⟩, by simp only; omega⟩
    (repeat with_reducible first | refine qq ?_ | refine qr ?_ | refine qs ?_)
    refine Bc_dec (fun h0 => ?_) (fun h0 => ?_)
    · refine J _ _ ?_ hw3.tail
      rcases hf with ⟨h, h'⟩ | ⟨k, x, h1, h2, _⟩
      · subst h'
        exact .inr ⟨0, y, rfl, by omega, hy, fun j z _ h => by omega, fun j z _ h h' => by omega⟩
      · omega
    · obtain ⟨k, x, rfl, hk, hx⟩ : ∃ (k : Nat) (x : QI), f = k ∧ k < n ∧ q.l[k]? = some x := by
        rcases hf with ⟨h, h'⟩ | ⟨k, x, h1, h2, h3, _⟩
        · omega
        · exact ⟨k, x, h1, h2, h3⟩
      obtain ⟨b2, hix, hrd, hrdN⟩ := hw3.el 2 rfl encQI_len hx
      (repeat with_reducible first | refine qq ?_ | refine qr ?_ | refine qs ?_ | refine hw3.l 1 ?_)
      refine O.mk (hix _ _ (by omega) rfl) ?_
      refine O.mk hrdN ?_
      refine hw3.al fun b3 w4 hb3 hw4 => ?_
      clear hw3 hrd hrdN
      refine hw4.st_bk (x := .agg (encQI x).toArray) 0 rfl tsz133 rfl (Nat.le_refl 3) fun w5 hw5 => ?_
      replace hw5 : Own B w5 (bk b3 133 (encQI x) :: bk b1 133 (encQI y) :: (q.parts ++ L.eraseIdx i)) := hw5
      clear hw4
      have J1 : ∀ c : Bool, (c = true ↔ (y.front = true ∨ (x.front = false ∧ y.due < x.due))) → j66_1 R (.int .i64 n) I0 m0 (.int .i64 k) wh0 (.bool c) w5 := by
        intro c hc
        unfold j66_1
        refine Bc_b (fun h => J _ _ (hf.new hx hy (hc.1 h)) hw5.tail.tail) (fun h => J _ _ (hf.old hx hy ?_) hw5.tail.tail)
        have hno : ¬ (y.front = true ∨ (x.front = false ∧ y.due < x.due)) := fun h' => by rw [hc.2 h'] at h; cases h
        refine ⟨by cases hh : y.front with | false => rfl | true => exact absurd (.inl hh) hno, ?_⟩
        cases hh : x.front with
        | true => exact .inl rfl
        | false => exact .inr (Int.not_lt.1 fun h' => hno (.inr ⟨hh, h'⟩))
      (repeat with_reducible first | refine qq ?_ | refine qr ?_ | refine qs ?_ | refine hw5.l 0 ?_ | refine hw5.l 1 ?_)
      refine Bc_b (fun h => J1 true (by simp [h])) (fun h => ?_)
      (repeat with_reducible first | refine qq ?_ | refine qr ?_ | refine qs ?_ | refine hw5.l 0 ?_ | refine hw5.l 1 ?_)
      refine Bc_b (fun h' => ?_) (fun h' => J1 false (by simp [h]; intro h2; simp [h2] at h'))
      (repeat with_reducible first | refine qq ?_ | refine qr ?_ | refine qs ?_ | refine hw5.l 0 ?_ | refine hw5.l 1 ?_)
      refine J1 _ ?_
      simp only [decide_eq_true_eq, h, Bool.false_eq_true, false_or]
      simp at h'
      simp [h']
  · rw [hR]
    refine ⟨⟨f, rfl, ?_⟩, hsh _ hw1⟩
    have : n = q.l.length := by omega
    subst this
    exact hf.all
end
end Go.Proofs.Ytedcfkigfcobaaa
end
/- Contracts: the queue's items come and go. -/
section
namespace Go.Proofs.Ytedcfkigfcobaaa
open Go Go.Proofs
attribute [local irreducible] Bc O AL BS MS MM ST AP CV Cl
theorem fill133 : (fillW Try.prog 133 []).map Value.agg = some (.agg #[.int .i64 0, .bool false, .int .i64 0]) := by kernel_rfl
theorem tsz97 : tsz Try.prog 97 = some 1 := by kernel_rfl
section
variable {B : Base} {w : World} {L : List Atom}
theorem sh_queue {q : QS} {i : Nat} (hi : L[i]? = some (queueA q)) {w' : World} (h : Own B w' (q.parts ++ L.eraseIdx i)) : Own B w' L := by
  have := Own.shut hi h
  rwa [show sep q.parts = queueA q from rfl, set_same hi] at this
theorem k39 {q : QS} (hw : Own B w L) (i : Nat) (hi : L[i]? = some (queueA q)) (hq : q.l.length < 2 ^ 40) (now : Int) : Cl Try.prog 39 [pp q.b, .int .i64 now] w fun v w' => (∃ r, v = dueV r ∧ DueAt q.l now r) ∧ Own B w' L := by
  refine s39 ?_
  unfold c39
  obtain ⟨R, hR⟩ : ∃ R : Value → World → Prop, R = fun v w' => (∃ r, v = dueV r ∧ DueAt q.l now r) ∧ Own B w' L := ⟨_, rfl⟩
  rw [← hR]
  refine hw.al fun b1 w1 hb1 hw1 => ?_
  clear hw
  have hi1 : (bk b1 133 #[.int .i64 0, .bool false, .int .i64 0].toList :: L)[i + 1]? = some (queueA q) := by rw [List.getElem?_cons_succ]; exact hi
  refine (k66 hw1 (i + 1) hi1 hq).use ?_
  clear hw1
  rintro _ w2 ⟨⟨n, rfl, hn⟩, hw1⟩
  have J : ∀ c : Bool, (if c then DueAt q.l now none else ∃ k x, n = (k : Nat) ∧ DueAt q.l now (some (k, x))) → j39_0 R (pp b1) (pp q.b) (.int .i64 n) (.bool c) w2 := by
    intro c hc
    unfold j39_0
    refine Bc_b (fun h => ?_) (fun h => ?_)
    · subst h
      refine O.mk fill133 ?_
      refine hw1.st_bk (x := .agg #[.int .i64 0, .bool false, .int .i64 0]) 0 rfl tsz133 rfl (Nat.le_refl 3) fun w3 hw3 => ?_
      refine O.mk (v := .agg #[.int .i64 0, .bool false, .int .i64 0]) (hw3.rdN_bk 0 rfl (Nat.le_refl 3)) ?_
      rw [hR]
      exact ⟨⟨none, rfl, hc⟩, hw3.tail⟩
    · subst h
      obtain ⟨k, x, rfl, hd⟩ := hc
      have hw2 := hw1.opn (i + 1) hi1
      rw [List.eraseIdx_cons_succ] at hw2
      obtain ⟨b2, hix, hrd, hrdN⟩ := hw2.el 1 rfl encQI_len hd.2.1
      (repeat with_reducible first | refine qq ?_ | refine qr ?_ | refine qs ?_ | refine hw2.l 0 ?_)
      refine O.mk (hix _ _ (by omega) rfl) ?_
      refine O.mk hrdN ?_
      refine hw1.st_bk (x := .agg (encQI x).toArray) 0 rfl tsz133 rfl (Nat.le_refl 3) fun w3 hw3 => ?_
      refine O.mk (v := .agg (encQI x).toArray) (hw3.rdN_bk 0 rfl (Nat.le_refl 3)) ?_
      rw [hR]
      exact ⟨⟨some (k, x), rfl, hd⟩, hw3.tail⟩
  (repeat with_reducible first | refine qq ?_ | refine qr ?_ | refine qs ?_)
  refine Bc_dec (fun h => J true ?_) (fun h => ?_)
  · rcases hn with ⟨_, h'⟩ | ⟨k, h', _⟩
    · exact .inl h'
    · omega
  · obtain ⟨k, rfl, hf⟩ : ∃ k : Nat, n = k ∧ IsFirst q.l k := by
      rcases hn with ⟨h', _⟩ | h'
      · omega
      · exact h'
    have hf' := hf
    obtain ⟨x, hx, _⟩ := hf
    have hw2 := hw1.opn (i + 1) hi1
    rw [List.eraseIdx_cons_succ] at hw2
    obtain ⟨b2, hix, hrd, hrdN⟩ := hw2.el 1 rfl encQI_len hx
    (repeat with_reducible first | refine qq ?_ | refine qr ?_ | refine qs ?_ | refine hw2.l 0 ?_)
    refine O.mk (hix _ _ (by omega) rfl) ?_
    (repeat with_reducible first | refine qq ?_ | refine qr ?_ | refine qs ?_)
    refine O.mk (hrd 1 _ rfl) ?_
    (repeat with_reducible first | refine qq ?_ | refine qr ?_ | refine qs ?_)
    refine Bc_b (fun h => ?_) (fun h => J false ⟨k, x, rfl, hf', hx, .inl (by simpa using h)⟩)
    (repeat with_reducible first | refine qq ?_ | refine qr ?_ | refine qs ?_ | refine hw2.l 0 ?_)
    refine O.mk (hix _ _ (by omega) rfl) ?_
    (repeat with_reducible first | refine qq ?_ | refine qr ?_ | refine qs ?_)
    refine O.mk (hrd 2 _ rfl) ?_
    (repeat with_reducible first | refine qq ?_ | refine qr ?_ | refine qs ?_)
    refine J _ ?_
    by_cases hd : now < x.due
    · simp only [hd, decide_true, if_true]
      exact .inr ⟨k, x, hf', hx, by simpa using h, hd⟩
    · simp only [hd, decide_false]
      exact ⟨k, x, rfl, hf', hx, .inr (by omega)⟩
/-- what a queue is behind a drop -/
def DropTo (l : List QI) (t : Int) (l' : List QI) : Prop := (l' = l ∧ ∀ (j : Nat) x, l[j]? = some x → x.task ≠ t) ∨ ∃ n : Nat, (∃ x, l[n]? = some x ∧ x.task = t) ∧ (∀ (j : Nat) x, l[j]? = some x → j < n → x.task ≠ t) ∧ l' = l.eraseIdx n
set_option maxHeartbeats 1000000 in
theorem k68 {q : QS} (hw : Own B w L) (i : Nat) (hi : L[i]? = some (queueA q)) (hq : q.l.length < 2 ^ 40) (t : Int) : Cl Try.prog 68 [pp q.b, .int .i64 t] w fun v w' => (∃ c, v = .bool c) ∧ ∃ q', q'.b = q.b ∧ DropTo q.l t q'.l ∧ Own B w' (L.set i (queueA q')) := by
  obtain ⟨R, hR⟩ : ∃ R : Value → World → Prop, R = fun v w' => (∃ c, v = .bool c) ∧ ∃ q', q'.b = q.b ∧ DropTo q.l t q'.l ∧ Own B w' (L.set i (queueA q')) := ⟨_, rfl⟩
  rw [← hR]
  have hput : ∀ w' (q' : QS), q'.b = q.b → DropTo q.l t q'.l → Own B w' (q'.parts ++ L.eraseIdx i) → R (.bool true) w' := fun w' q' hb hd hw' => by
    rw [hR]; exact ⟨⟨true, rfl⟩, q', hb, hd, Own.shut (A := q'.parts) hi hw'⟩
  have hsame : (∀ (j : Nat) x, q.l[j]? = some x → x.task ≠ t) → R (.bool false) w := fun h => by
    rw [hR]; exact ⟨⟨false, rfl⟩, q, rfl, .inl ⟨rfl, h⟩, by rw [set_same hi]; exact hw⟩
  refine s68 ?_
  unfold c68
  refine (k65 hw i hi hq t).use ?_
  rintro _ _ ⟨⟨n, rfl, hn⟩, rfl⟩
  (repeat with_reducible first | refine qq ?_ | refine qr ?_ | refine qs ?_)
  refine Bc_dec (fun h => ?_) (fun h => ?_)
  · rcases hn with ⟨_, h'⟩ | ⟨k, h', _⟩
    · exact hsame h'
    · omega
  · obtain ⟨k, rfl, hx, hno⟩ : ∃ k : Nat, n = k ∧ (∃ x, q.l[k]? = some x ∧ x.task = t) ∧ ∀ (j : Nat) x, q.l[j]? = some x → j < k → x.task ≠ t := by
      rcases hn with ⟨h', _⟩ | h'
      · omega
      · exact h'
    clear hsame hR
    have hdrop : DropTo q.l t (q.l.eraseIdx k) := .inr ⟨k, hx, hno, rfl⟩
    obtain ⟨x, hx, _⟩ := hx
    have hk := list_lt hx
    have hw1 := hw.opn i hi
    clear hw
    obtain ⟨b, v, l⟩ := q
    simp only at *
    refine hw1.dr fun w2 hw2 => ?_
    clear hw1
    replace hw2 : Own B w2 (bk b 99 [v] :: sl 133 3 v l.length (l.flatMap encQI) :: L.eraseIdx i) := hw2
    obtain ⟨b', cap, rfl⟩ := hw2.slShape 1 rfl (by omega)
    have hcap : l.length ≤ cap := by
      rcases hw2.slGet (i := 1) rfl with ⟨h', _⟩ | ⟨_, _, _, h', hc, _⟩
      · cases h'
      · cases h'; exact hc
    (repeat with_reducible first | refine qq ?_ | refine qr ?_ | refine qs ?_ | refine hw2.l 0 ?_)
    refine O.mk (slc_to (by omega)) ?_
    (repeat with_reducible first | refine qq ?_ | refine qr ?_ | refine qs ?_)
    have hone : ∀ l : List QI, (l.flatMap encQI).all one = true := flat_one encQI_one
    have hl : (l.flatMap encQI).length = l.length * 3 := flat_len encQI_len l
    have hlen1 : ((l.take k).flatMap encQI).length = k * 3 := by rw [flat_len encQI_len, List.length_take, Nat.min_eq_left (by omega)]
    have hlen2 : ((l.drop (k + 1)).flatMap encQI).length = (l.length - (k + 1)) * 3 := by rw [flat_len encQI_len, List.length_drop]
    -- the rest, from behind the first append on
    have hrest : ∀ v' w3, Own B w3 (sl 133 3 v' k ((l.take k).flatMap encQI) :: QS.parts ⟨b, .slice (some ⟨b', 0, none⟩) l.length cap, l⟩ ++ L.eraseIdx i) →
        O (slc 3 (.slice (some ⟨b', 0, none⟩) l.length cap) (some (.int .i64 ((k : Int) + 1))) none) fun t25 => AP Try.prog #[97, 97] 97 [v', t25] w3 fun t26 w => O (nC (pp b)) fun t27 => O (fA 0 t27) fun t28 => ST Try.prog 97 t28 t26 w fun _ w => R (.bool true) w := by
      intro v' w3 hw3
      refine O.mk (slc_from (i := k + 1) (by omega) hcap) ?_
      have hsrc : ∀ w', w'.heap = w3.heap → (Builtin.firstCells 3 (l.length - (k + 1)) (.slice (some ⟨b', if cap = k + 1 then 0 else (k + 1) * 3, none⟩) (l.length - (k + 1)) (cap - (k + 1)))).run Try.prog w' = .ok ((l.drop (k + 1)).flatMap encQI).toArray w' := by
        intro w' he
        by_cases hc : cap = k + 1
        · have h0 : l.length - (k + 1) = 0 := by omega
          rw [if_pos hc, h0]
          have := hw3.src_sl (P := Try.prog) (i := 2) rfl (o := 0) (m := 0) (l := 0) (c := cap - (k + 1)) (by omega) w' he
          rw [this]
          have : l.drop (k + 1) = [] := List.drop_of_length_le (by omega)
          rw [this]; simp
        · rw [if_neg hc]
          rw [hw3.src_sl (i := 2) rfl (by rw [hl, ← Nat.add_mul]; exact Nat.mul_le_mul_right _ (by omega)) w' he]
          rw [flat_dropn encQI_len, List.take_of_length_le (by rw [hlen2]; exact Nat.le_refl _)]
      refine hw3.ap T97 ⟨_, T97.under⟩ 0 rfl hsrc hlen2 (hone _) (by omega) fun v2 w4 hw4 => ?_
      clear hw3
      replace hw4 : Own B w4 (sl 133 3 v2 (k + (l.length - (k + 1))) ((l.take k).flatMap encQI ++ (l.drop (k + 1)).flatMap encQI) :: bk b 99 [.slice (some ⟨b', 0, none⟩) l.length cap] :: sl 133 3 (.slice (some ⟨b', 0, none⟩) l.length cap) l.length (l.flatMap encQI) :: L.eraseIdx i) := hw4
      (repeat with_reducible first | refine qq ?_ | refine qr ?_ | refine qs ?_)
      refine hw4.st1 1 rfl tsz97 (sl_one hw4 0 rfl) (Nat.succ_pos 0) fun w5 hw5 => ?_
      have e1 : (l.take k).flatMap encQI ++ (l.drop (k + 1)).flatMap encQI = (l.eraseIdx k).flatMap encQI := by
        rw [← List.flatMap_append, List.eraseIdx_eq_take_drop_succ]
      have e2 : k + (l.length - (k + 1)) = (l.eraseIdx k).length := by rw [List.length_eraseIdx_of_lt hk]; omega
      rw [e1, e2] at hw5
      refine hput w5 ⟨b, v2, l.eraseIdx k⟩ rfl hdrop ?_
      exact (hw5.drop 2).perm (.swap _ _ _)
    have hfirst : ∀ K : Value → World → Prop, (∀ v' w3, Own B w3 (sl 133 3 v' k ((l.take k).flatMap encQI) :: QS.parts ⟨b, .slice (some ⟨b', 0, none⟩) l.length cap, l⟩ ++ L.eraseIdx i) → K v' w3) → AP Try.prog #[97, 97] 97 [.slice none 0 0, .slice (some ⟨b', 0, none⟩) k cap] w2 K := by
      intro K hK
      have hw3 := hw2.nilSl 133 3
      refine hw3.ap (n := 0) T97 ⟨_, T97.under⟩ 0 rfl (hw3.src_sl (i := 2) rfl (o := 0) (m := k) (l := k) (c := cap) (by rw [hl]; omega)) ?_ ?_ (by omega) fun v' w4 hw4 => hK v' w4 ?_
      · rw [List.length_take, List.length_drop, hl]; omega
      · rw [List.drop_zero, flat_take encQI_len]; exact hone _
      · rw [List.drop_zero, flat_take encQI_len] at hw4
        simpa using hw4
    refine ⟨?_, ?_⟩
    · refine hfirst _ fun v' w3 hw3 => ?_
      refine O.mk (hw3.rd1_bk 1 rfl rfl) ?_
      exact hrest v' w3 hw3
    · refine O.mk (hw2.rd1_bk 0 rfl rfl) ?_
      refine hfirst _ fun v' w3 hw3 => ?_
      exact hrest v' w3 hw3
def TakeTo (l : List QI) (r : Option (Nat × QI)) (l' : List QI) : Prop := match r with | none => l' = l | some (_, x) => DropTo l x.task l'
set_option maxHeartbeats 1000000 in
theorem k42 {q : QS} (hw : Own B w L) (i : Nat) (hi : L[i]? = some (queueA q)) (hq : q.l.length < 2 ^ 40) (now : Int) : Cl Try.prog 42 [pp q.b, .int .i64 now] w fun v w' => ∃ r, v = dueV r ∧ DueAt q.l now r ∧ ∃ q', q'.b = q.b ∧ TakeTo q.l r q'.l ∧ Own B w' (L.set i (queueA q')) := by
  refine s42 ?_
  unfold c42
  refine hw.al fun b1 w1 hb1 hw1 => ?_
  clear hw
  have hi1 : ∀ A : Atom, (A :: L)[i + 1]? = some (queueA q) := fun A => by rw [List.getElem?_cons_succ]; exact hi
  refine (k39 hw1 (i + 1) (hi1 _) hq now).use ?_
  clear hw1
  rintro _ w2 ⟨⟨r, rfl, hr⟩, hw1⟩
  have J : ∀ {A1 : Atom} (x : QI) (b : Bool) b2 w' q', dueV r = .tuple #[.agg (encQI x).toArray, .bool b] → q'.b = q.b → TakeTo q.l r q'.l → Own B w' (bk b2 133 (encQI x) :: bk b1 133 (#[Value.int .i64 0, .bool false, .int .i64 0] : Array Value).toList :: L.set i (queueA q')) →
      j42_0 (fun v w' => ∃ r, v = dueV r ∧ DueAt q.l now r ∧ ∃ q', q'.b = q.b ∧ TakeTo q.l r q'.l ∧ Own B w' (L.set i (queueA q'))) (pp b2) (pp b1) (.bool b) w' := by
    intro _ x b b2 w' q' hx hq' ht hw'
    unfold j42_0
    refine O.mk (v := .agg (encQI x).toArray) (hw'.rdN_bk 0 rfl (Nat.le_refl 3)) ?_
    refine hw'.st_bk (x := .agg (encQI x).toArray) 1 rfl tsz133 rfl (Nat.le_refl 3) fun w3 hw3 => ?_
    refine O.mk (v := .agg (encQI x).toArray) (hw3.rdN_bk 1 rfl (Nat.le_refl 3)) ?_
    exact ⟨r, hx.symm, hr, q', hq', ht, hw3.tail.tail⟩
  have hsame : L.set i (queueA q) = L := set_same hi
  cases r with
  | none =>
    refine O.mk (v := .agg #[.int .i64 0, .bool false, .int .i64 0]) rfl ?_
    refine O.mk (v := .bool false) rfl ?_
    refine hw1.al fun b2 w3 hb2 hw3 => ?_
    refine hw3.st_bk (x := .agg #[.int .i64 0, .bool false, .int .i64 0]) 0 rfl tsz133 rfl (Nat.le_refl 3) fun w4 hw4 => ?_
    refine Bc_f ?_
    exact J (A1 := Pr True) ⟨0, false, 0⟩ false b2 w4 q rfl rfl rfl (by rw [hsame]; exact hw4)
  | some r =>
    obtain ⟨k, x⟩ := r
    refine O.mk (v := .agg (encQI x).toArray) rfl ?_
    refine O.mk (v := .bool true) rfl ?_
    refine hw1.al fun b2 w3 hb2 hw3 => ?_
    refine hw3.st_bk (x := .agg (encQI x).toArray) 0 rfl tsz133 rfl (Nat.le_refl 3) fun w4 hw4 => ?_
    refine Bc_t ?_
    replace hw4 : Own B w4 (bk b2 133 (encQI x) :: bk b1 133 (#[Value.int .i64 0, .bool false, .int .i64 0] : Array Value).toList :: L) := hw4
    (repeat with_reducible first | refine qq ?_ | refine qr ?_ | refine qs ?_ | refine hw4.l 0 ?_)
    refine (k68 hw4 (i + 2) hi hq x.task).use ?_
    rintro _ w5 ⟨_, q', hb', hd, hw5⟩
    exact J (A1 := Pr True) x true b2 w5 q' rfl hb' hd hw5
set_option maxHeartbeats 1000000 in
theorem k38 {q : QS} {x : QI} (hw : Own B w L) (i : Nat) (hi : L[i]? = some (queueA q)) (hq : q.l.length < 2 ^ 30) (h0 : 0 ≤ x.task) (h1 : 0 ≤ x.due) (hno : ∀ (j : Nat) y, q.l[j]? = some y → y.task ≠ x.task) :
    Cl Try.prog 38 [pp q.b, .agg (encQI x).toArray] w fun v w' => (∃ e : Int, v = .int .i64 e) ∧ ∃ q', q'.b = q.b ∧ q'.l = q.l ++ [x] ∧ Own B w' (L.set i (queueA q')) := by
  obtain ⟨R, hR⟩ : ∃ R : Value → World → Prop, R = fun v w' => (∃ e : Int, v = .int .i64 e) ∧ ∃ q', q'.b = q.b ∧ q'.l = q.l ++ [x] ∧ Own B w' (L.set i (queueA q')) := ⟨_, rfl⟩
  rw [← hR]
  have hput : ∀ w' (q' : QS), q'.b = q.b → q'.l = q.l ++ [x] → Own B w' (q'.parts ++ L.eraseIdx i) → R (.int .i64 0) w' := fun w' q' hb hd hw' => by
    rw [hR]; exact ⟨⟨0, rfl⟩, q', hb, hd, Own.shut (A := q'.parts) hi hw'⟩
  clear hR
  refine s38 ?_
  unfold c38
  refine hw.al fun b1 w1 hb1 hw1 => ?_
  clear hw
  replace hw1 : Own B w1 (bk b1 133 (encQI x) :: L) := hw1
  have hi1 : ∀ A : Atom, (A :: L)[i + 1]? = some (queueA q) := fun A => by rw [List.getElem?_cons_succ]; exact hi
  have J : ∀ c, c = false → j38_0 R (pp b1) (pp q.b) (.bool c) w1 := by
    rintro c rfl
    unfold j38_0
    refine Bc_f ?_
    (repeat with_reducible first | refine qq ?_ | refine qr ?_ | refine qs ?_ | refine hw1.l 0 ?_)
    refine (k65 hw1 (i + 1) (hi1 _) (by omega) x.task).use ?_
    rintro _ _ ⟨⟨n, rfl, hn⟩, rfl⟩
    have hn1 : n = -1 := by
      rcases hn with ⟨h, _⟩ | ⟨k, h, ⟨y, hy, hy'⟩, _⟩
      · exact h
      · exact absurd hy' (hno k y hy)
    subst hn1
    (repeat with_reducible first | refine qq ?_ | refine qr ?_ | refine qs ?_)
    refine Bc_dec (fun h => by omega) (fun _ => ?_)
    have hw2 := hw1.opn (i + 1) (hi1 _)
    rw [List.eraseIdx_cons_succ] at hw2
    clear hw1
    obtain ⟨b, v, l⟩ := q
    simp only at *
    refine hw2.dr fun w3 hw3 => ?_
    clear hw2
    replace hw3 : Own B w3 (bk b 99 [v] :: sl 133 3 v l.length (l.flatMap encQI) :: bk b1 133 (encQI x) :: L.eraseIdx i) := hw3
    (repeat with_reducible first | refine qq ?_ | refine qr ?_ | refine qs ?_ | refine hw3.l 0 ?_)
    have hone : ∀ l : List QI, (l.flatMap encQI).all one = true := flat_one encQI_one
    have hl : (l.flatMap encQI).length = l.length * 3 := flat_len encQI_len l
    have hend : ∀ v' w4, Own B w4 (sl 133 3 v' (l.length + 1) (l.flatMap encQI ++ encQI x) :: bk b 99 [v] :: sl 133 3 v l.length (l.flatMap encQI) :: bk b1 133 (encQI x) :: L.eraseIdx i) →
        O (nC (pp b)) fun t27 => O (fA 0 t27) fun t28 => ST Try.prog 97 t28 v' w4 fun _ w => R (.int .i64 0) w := by
      intro v' w4 hw4
      (repeat with_reducible first | refine qq ?_ | refine qr ?_ | refine qs ?_)
      refine hw4.st1 1 rfl tsz97 (sl_one hw4 0 rfl) (Nat.succ_pos 0) fun w5 hw5 => ?_
      rw [flat_app] at hw5
      refine hput w5 ⟨b, v', l ++ [x]⟩ rfl rfl ?_
      show Own B w5 (bk b 99 [v'] :: sl 133 3 v' (l ++ [x]).length ((l ++ [x]).flatMap encQI) :: L.eraseIdx i)
      rw [List.length_append]
      exact ((hw5.drop 2).drop 2).perm (.swap _ _ _)
    have hsrc : ∀ (b2 : Nat) w4 (L4 : List Atom), Own B w4 L4 → ∀ j, L4[j]? = some (bk b2 133 (encQI x)) → ∀ w', w'.heap = w4.heap → (Builtin.firstCells 3 1 (.slice (some ⟨b2, 0, none⟩) 1 1)).run Try.prog w' = .ok (encQI x).toArray w' :=
      fun b2 w4 L4 h4 j hj => h4.src_bk j hj rfl
    refine ⟨?_, ?_⟩
    · refine hw3.cln T97 ⟨_, T97.under⟩ 1 rfl (hone _) (by omega) fun v' w4 hw4 => ?_
      refine O.mk (v := .agg (encQI x).toArray) (hw4.rdN_bk 3 rfl (Nat.le_refl 3)) ?_
      refine hw4.app (xs := encQI x) T97 ⟨_, T97.under⟩ 0 rfl (by decide) rfl rfl rfl (by omega) fun v2 w5 hw5 => ?_
      exact hend v2 w5 hw5
    · refine O.mk (v := .agg (encQI x).toArray) (hw3.rdN_bk 2 rfl (Nat.le_refl 3)) ?_
      refine ⟨?_, ?_⟩
      · refine hw3.cln T97 ⟨_, T97.under⟩ 1 rfl (hone _) (by omega) fun v' w4 hw4 => ?_
        refine hw4.app (xs := encQI x) T97 ⟨_, T97.under⟩ 0 rfl (by decide) rfl rfl rfl (by omega) fun v2 w5 hw5 => ?_
        exact hend v2 w5 hw5
      · refine hw3.bs (bsx_one (sz := 3) (x := (encQI x).toArray) (by decide) (by decide) rfl rfl rfl) fun b2 w4 hb2 hw4 => ?_
        replace hw4 : Own B w4 (bk b2 133 (encQI x) :: bk b 99 [v] :: sl 133 3 v l.length (l.flatMap encQI) :: bk b1 133 (encQI x) :: L.eraseIdx i) := hw4
        refine hw4.cln T97 ⟨_, T97.under⟩ 2 rfl (hone _) (by omega) fun v' w5 hw5 => ?_
        refine hw5.ap (n := l.length) (m := 1) T97 ⟨_, T97.under⟩ 0 rfl (hsrc b2 w5 _ hw5 1 rfl) rfl rfl (by omega) fun v2 w6 hw6 => ?_
        exact hend v2 w6 (hw6.drop 1)
  (repeat with_reducible first | refine qq ?_ | refine qr ?_ | refine qs ?_ | refine hw1.l 0 ?_)
  refine Bc_dec (fun h => by omega) (fun _ => ?_)
  (repeat with_reducible first | refine qq ?_ | refine qr ?_ | refine qs ?_ | refine hw1.l 0 ?_)
  exact J _ (decide_eq_false (by omega))
end
end Go.Proofs.Ytedcfkigfcobaaa
end
/- Contracts: threads. -/
section
namespace Go.Proofs.Ytedcfkigfcobaaa
open Go Go.Proofs
attribute [local irreducible] Bc O AL BS MS MM ST AP CV Cl
section
variable {P : Program} {B : Base} {w : World} {L : List Atom} {t : TypeId} {v : Value} {l : List Int}
theorem Own.eli (h : Own B w L) (j : Nat) (hj : L[j]? = some (sl t 1 v l.length (ints l))) {i : Nat} {x : Int} (hx : l[i]? = some x) :
    ∃ b, (∀ (k : IntKind) (q : Int), 0 ≤ q → q.toNat = i → iS 1 v (.int k q) = some (.pointer (some ⟨b, q.toNat * 1, none⟩))) ∧ rd1 (.pointer (some ⟨b, i * 1, none⟩)) w = some (.int .i64 x) := by
  rw [ints_flat] at hj
  obtain ⟨b, h1, h2, _⟩ := h.el j hj encI_len hx
  exact ⟨b, h1, h2 0 _ rfl⟩
theorem Own.elsti (h : Own B w L) (j : Nat) (hj : L[j]? = some (sl t 1 v l.length (ints l))) {i : Nat} (hx : i < l.length) (x' : Int) {b : Nat} {kk : IntKind} {q : Int}
    (hix : iS 1 v (.int kk q) = some (.pointer (some ⟨b, q.toNat * 1, none⟩))) (hq : q.toNat = i) {ty : TypeId} (ht : tsz P ty = some 1) {K : Value → World → Prop} (hk : ∀ w', Own B w' (L.set j (sl t 1 v (l.set i x').length (ints (l.set i x')))) → K undef w') :
    ST P ty (.pointer (some ⟨b, q.toNat * 1, none⟩)) (.int .i64 x') w K := by
  rw [ints_flat] at hj
  obtain ⟨x, hx⟩ := list_get hx
  exact h.elst j hj encI_len hx (x' := x') (k := 0) (X := .int .i64 x') hix hq ht rfl (Nat.le_refl 1) rfl fun w' hw' => hk w' (by rw [ints_flat]; exact hw')
end
structure FR where
  func : Int
  at_ : Int
  rv : Value
  regs : List Int
def encFR (f : FR) : List Value := [.int .i64 f.func, .int .i64 f.at_, f.rv]
theorem encFR_len (f : FR) : (encFR f).length = 3 := rfl
def frA (f : FR) : Atom := sl 2 1 f.rv f.regs.length (ints f.regs)
structure TH where
  b : Nat
  fv : Value
  fs : List FR
  trap : Int
abbrev TH.parts (p : PP) (t : TH) : List Atom := [bk t.b 156 (pcells p ++ [t.fv, .int .i64 t.trap]), sl 152 3 t.fv t.fs.length (t.fs.flatMap encFR), sep (t.fs.map frA)]
def threadA (p : PP) (t : TH) : Atom := sep (t.parts p)
structure FrOK (p : PP) (f : FR) (g : PF) : Prop where
  f0 : 0 ≤ f.func
  fg : p.funcs[f.func.toNat]? = some g
  regs : (f.regs.length : Int) = g.regs
  at0 : 0 ≤ f.at_
  at1 : f.at_ < g.code.length
structure TOK (p : PP) (t : TH) : Prop where
  len : t.fs.length ≤ 32
  fr : ∀ (i : Nat) (f : FR), t.fs[i]? = some f → ∃ g, FrOK p f g
section
variable {B : Base} {w : World} {L : List Atom} {p : PP}
theorem tsz152 : tsz Try.prog 152 = some 3 := by kernel_rfl
theorem fill152 (a : Int) {v : Value} (h : one v = true) : (fillW Try.prog 152 [(0, .int .i64 a), (2, v)]).map Value.agg = some (.agg #[.int .i64 a, .int .i64 0, v]) := by
  cases v <;> first | (cases h; done) | kernel_rfl
theorem encFR_one {f : FR} (h : one f.rv = true) : (encFR f).all one = true := by
  show (true && (true && (one f.rv && true))) = true
  rw [h]; rfl
theorem func_lt (hp : MayP p) {i : Nat} {g : PF} (h : p.funcs[i]? = some g) : FuncOK p g := hp.funcs i g h
set_option maxHeartbeats 1000000 in
theorem k64 (hP : ProgOK B p) (hM : MayP p) {f : Int} (hf : 0 ≤ f) {g : PF} (hg : p.funcs[f.toNat]? = some g) {cv : Value} {cs : List Int} (hw : Own B w L) (j : Nat) (hj : L[j]? = some (sl 2 1 cv cs.length (ints cs))) (hcs : (cs.length : Int) ≤ g.regs) :
    Cl Try.prog 64 [progV p, .int .i64 f, cv] w fun v w' => ∃ rv regs, v = .agg (encFR ⟨f, 0, rv, regs⟩).toArray ∧ (regs.length : Int) = g.regs ∧ Own B w' (frA ⟨f, 0, rv, regs⟩ :: L) := by
  have hG := func_lt hM hg
  obtain ⟨n, hn⟩ : ∃ n : Nat, g.regs = n := ⟨g.regs.toNat, by have := hG.regs; omega⟩
  have hr := hG.regs
  refine s64 ?_
  unfold c64
  refine hw.al fun b3 w1 hb3 hw1 => ?_
  refine hw1.al fun b6 w2 hb6 hw2 => ?_
  clear hw hw1
  obtain ⟨bf, o, hix, hrd, _⟩ := hP.fn.at_ (by omega) encPF_len hg
  (repeat with_reducible first | refine qq ?_ | refine qr ?_ | refine qs ?_ | refine hw2.l 1 ?_)
  refine O.mk (hix _ _ hf rfl) ?_
  (repeat with_reducible first | refine qq ?_ | refine qr ?_ | refine qs ?_)
  refine O.mk (v := .int .i64 n) (by rw [← hn]; exact hrd _ _ hw2 2 _ rfl) ?_
  refine hw2.mks (sz := 1) (bytes := 8) (n := n) (by omega) rfl (by omega) (by omega) fun rv w3 hw3 => ?_
  rw [ints_zero] at hw3
  clear hw2
  have hone := sl_one hw3 0 rfl
  refine O.mk (fill152 _ hone) ?_
  refine hw3.al fun b7 w4 hb7 hw4 => ?_
  clear hw3
  refine hw4.st_bk (x := .agg (encFR ⟨f, 0, rv, []⟩).toArray) 0 rfl tsz152 (encFR_one hone) (Nat.le_refl 3) fun w5 hw5 => ?_
  clear hw4
  obtain ⟨R, hR⟩ : ∃ R : Value → World → Prop, R = fun v w' => ∃ rv regs, v = .agg (encFR ⟨f, 0, rv, regs⟩).toArray ∧ (regs.length : Int) = g.regs ∧ Own B w' (frA ⟨f, 0, rv, regs⟩ :: L) := ⟨_, rfl⟩
  rw [← hR]
  obtain ⟨I0, hI⟩ : ∃ I : Value → World → Prop, I = fun t w' => ∃ (i : Nat) (regs : List Int), t = .int .i64 i ∧ i ≤ cs.length ∧ regs.length = n ∧
      Own B w' (bk b7 152 (encFR ⟨f, 0, rv, []⟩) :: sl 2 1 rv regs.length (ints regs) :: bk b6 152 [.int .i64 0, .int .i64 0, .slice none 0 0] :: bk b3 30 (pcells p) :: L) := ⟨_, rfl⟩
  obtain ⟨m0, hm⟩ : ∃ m : Value → World → Nat, m = fun t _ => match t with | .int _ i => (cs.length - i).toNat | _ => 0 := ⟨_, rfl⟩
  refine ⟨I0, m0, by rw [hI]; exact ⟨0, List.replicate n 0, rfl, by omega, by simp, by rw [List.length_replicate]; exact hw5⟩, ?_⟩
  clear hw5
  intro t8 wh0 h0
  rw [hI] at h0
  obtain ⟨i, regs, rfl, hi, hrn, hw1⟩ := h0
  refine O.mk (hw1.slLen (j + 4) hj) ?_
  (repeat with_reducible first | refine qq ?_ | refine qr ?_ | refine qs ?_)
  refine Bc_dec (fun hlt => ?_) (fun hge => ?_)
  · obtain ⟨x, hx⟩ := list_get (l := cs) (j := i) (by omega)
    refine hw1.dr fun w2 hw2 => ?_
    clear hw1
    obtain ⟨b1, hix1, hrd1⟩ := hw2.eli (j + 4) hj hx
    obtain ⟨y, hy⟩ := list_get (l := regs) (j := i) (by omega)
    obtain ⟨b2, hix2, hrd2⟩ := hw2.eli 1 rfl hy
    (repeat with_reducible first | refine qq ?_ | refine qr ?_ | refine qs ?_ | refine hw2.l 0 ?_)
    refine O.mk (hix1 _ _ (by omega) rfl) ?_
    refine O.mk hrd1 ?_
    refine O.mk (hix2 _ _ (by omega) rfl) ?_
    refine hw2.elsti 1 rfl (i := i) (by omega) x (hix2 .i64 i (by omega) rfl) rfl tsz2 fun w3 hw3 => ?_
    (repeat with_reducible first | refine qq ?_ | refine qr ?_ | refine qs ?_)
    rw [hI, hm]
    exact ⟨⟨i + 1, regs.set i x, rfl, by omega, by simpa using hrn, hw3⟩, by simp only; omega⟩
  · refine O.mk (v := .agg (encFR ⟨f, 0, rv, []⟩).toArray) (hw1.rdN_bk 0 rfl (Nat.le_refl 3)) ?_
    refine hw1.st_bk (x := .agg (encFR ⟨f, 0, rv, []⟩).toArray) 2 rfl tsz152 (encFR_one hone) (Nat.le_refl 3) fun w2 hw2 => ?_
    refine O.mk (v := .agg (encFR ⟨f, 0, rv, []⟩).toArray) (hw2.rdN_bk 2 rfl (Nat.le_refl 3)) ?_
    rw [hR]
    exact ⟨rv, regs, rfl, by omega, ((hw2.drop 0).drop 1).drop 1⟩
theorem fill156 (p : PP) {a v : Value} (ha : a = progV p) (h : one v = true) :
    (fillW Try.prog 156 [(0, a), (1, v)]).map Value.agg = some (.agg (pcells p ++ [v, .int .i64 0]).toArray) := by
  subst ha
  cases v <;> first | (cases h; done) | kernel_rfl
end
end Go.Proofs.Ytedcfkigfcobaaa
end
/- Contracts: a thread begins, what is next, on. -/
section
namespace Go.Proofs.Ytedcfkigfcobaaa
open Go Go.Proofs
attribute [local irreducible] Bc O AL BS MS MM ST AP CV Cl
section
variable {B : Base} {w : World} {L : List Atom} {p : PP}
theorem bk_sl {b t sz n : Nat} {vs : List Value} (h : vs.length = n * sz) (g : Hp) (hg : bk b t vs g) : sl t sz (.slice (some ⟨b, 0, none⟩) n n) n vs g :=
  .inr ⟨b, n, [], rfl, Nat.le_refl _, h, by simp, by simpa [bk] using hg⟩
set_option maxHeartbeats 1000000 in
theorem k37 (hP : ProgOK B p) (hM : MayP p) {f : Int} (hf : 0 ≤ f) {g : PF} (hg : p.funcs[f.toNat]? = some g) {cv : Value} {cs : List Int} (hw : Own B w L) (j : Nat) (hj : L[j]? = some (sl 2 1 cv cs.length (ints cs))) (hcs : (cs.length : Int) = g.caps) :
    Cl Try.prog 37 [progV p, .int .i64 f, cv] w fun v w' => ∃ t : TH, v = .tuple #[pp t.b, .int .i64 0] ∧ t.fs.length = 1 ∧ TOK p t ∧ Own B w' (threadA p t :: L) := by
  have hG := func_lt hM hg
  have hcaps := hG.caps
  have hflt := list_lt hg
  obtain ⟨R, hR⟩ : ∃ R : Value → World → Prop, R = fun v w' => ∃ t : TH, v = .tuple #[pp t.b, .int .i64 0] ∧ t.fs.length = 1 ∧ TOK p t ∧ Own B w' (threadA p t :: L) := ⟨_, rfl⟩
  rw [← hR]
  refine s37 ?_
  unfold c37
  refine hw.al fun b3 w1 hb3 hw1 => ?_
  clear hw
  replace hw1 : Own B w1 (bk b3 30 (pcells p) :: L) := hw1
  obtain ⟨bf, o, hix, hrd, _⟩ := hP.fn.at_ (by omega) encPF_len hg
  have J : ∀ c, c = false → j37_0 R (pp b3) (.int .i64 f) cv (.bool c) w1 := by
    rintro c rfl
    unfold j37_0
    refine Bc_f ?_
    refine hw1.dr fun w2 hw2 => ?_
    clear hw1
    refine O.mk (v := progV p) (hw2.rdN_bk 0 rfl (Nat.le_refl 8)) ?_
    have hend : ∀ rv regs w3, (regs.length : Int) = g.regs → Own B w3 (frA ⟨f, 0, rv, regs⟩ :: bk b3 30 (pcells p) :: L) →
        BS 152 3 1 (.agg #[.int .i64 0, .int .i64 0, .slice none 0 0]) [(0, .agg (encFR ⟨f, 0, rv, regs⟩).toArray)] w3 fun t30 w => O ((fillW Try.prog 156 [(0, progV p), (1, t30)]).map .agg) fun t31 => AL (.cells (Value.cells t31) 156) w fun t32 w => R (.tuple #[t32, .int .i64 0]) w := by
      intro rv regs w3 hrl hw3
      refine hw3.bs (bsx_one (sz := 3) (x := (encFR ⟨f, 0, rv, regs⟩).toArray) (by decide) (by decide) rfl rfl rfl) fun b2 w4 hb2 hw4 => ?_
      refine O.mk (fill156 p rfl rfl) ?_
      refine hw4.al fun b5 w5 hb5 hw5 => ?_
      rw [hR]
      refine ⟨⟨b5, .slice (some ⟨b2, 0, none⟩) 1 1, [⟨f, 0, rv, regs⟩], 0⟩, rfl, rfl, ⟨by simp, fun i f' hf' => ?_⟩, ?_⟩
      · have : i = 0 := by have := list_lt hf'; simp at this; exact this
        subst this
        simp only [List.getElem?_cons_zero, Option.some.injEq] at hf'
        subst hf'
        exact ⟨g, hf, hg, hrl, Int.le_refl 0, by have := hG.len; simp only; omega⟩
      · have hw6 : Own B w5 (bk b5 156 (pcells p ++ [.slice (some ⟨b2, 0, none⟩) 1 1, .int .i64 0]) :: sl 152 3 (.slice (some ⟨b2, 0, none⟩) 1 1) 1 (encFR ⟨f, 0, rv, regs⟩) :: frA ⟨f, 0, rv, regs⟩ :: bk b3 30 (pcells p) :: L) :=
          hw5.imp (i := 1) rfl (bk_sl rfl)
        have hw7 := (hw6.drop 3).sep0
        have hw8 : Own B w5 (frA ⟨f, 0, rv, regs⟩ :: sep (([] : List FR).map frA) :: bk b5 156 (pcells p ++ [.slice (some ⟨b2, 0, none⟩) 1 1, .int .i64 0]) :: sl 152 3 (.slice (some ⟨b2, 0, none⟩) 1 1) 1 (encFR ⟨f, 0, rv, regs⟩) :: L) :=
          hw7.perm ((List.Perm.cons _ ((List.Perm.cons _ (List.Perm.swap _ _ _)).trans (List.Perm.swap _ _ _))).trans (List.Perm.swap _ _ _))
        have hw9 := hw8.grow
        have hw10 : Own B w5 (TH.parts p ⟨b5, .slice (some ⟨b2, 0, none⟩) 1 1, [⟨f, 0, rv, regs⟩], 0⟩ ++ L) := hw9.perm ((List.Perm.swap _ _ _).trans (List.Perm.cons _ (List.Perm.swap _ _ _)))
        exact hw10.fold
    have hcall : ∀ K : Value → World → Prop, (∀ rv regs w3, (regs.length : Int) = g.regs → Own B w3 (frA ⟨f, 0, rv, regs⟩ :: bk b3 30 (pcells p) :: L) → K (.agg (encFR ⟨f, 0, rv, regs⟩).toArray) w3) → Cl Try.prog 64 [progV p, .int .i64 f, cv] w2 K := by
      intro K hK
      refine (k64 hP hM hf hg hw2 (j + 1) hj (by omega)).use ?_
      rintro _ w3 ⟨rv, regs, rfl, hrl, hw3⟩
      exact hK rv regs w3 hrl hw3
    refine ⟨?_, ?_⟩
    · refine O.mk (v := progV p) (hw2.rdN_bk 0 rfl (Nat.le_refl 8)) ?_
      exact hcall _ hend
    · refine hcall _ fun rv regs w3 hrl hw3 => ?_
      refine O.mk (v := progV p) (hw3.rdN_bk 1 rfl (Nat.le_refl 8)) ?_
      exact hend rv regs w3 hrl hw3
  (repeat with_reducible first | refine qq ?_ | refine qr ?_ | refine qs ?_ | refine hw1.l 0 ?_)
  refine O.mk hP.fn.len ?_
  refine (k34 _ _ _).use ?_
  rintro _ _ ⟨rfl, rfl⟩
  (repeat with_reducible first | refine qq ?_ | refine qr ?_ | refine qs ?_)
  refine Bc_dec (fun h => by omega) (fun _ => ?_)
  refine O.mk (hw1.slLen (j + 1) hj) ?_
  (repeat with_reducible first | refine qq ?_ | refine qr ?_ | refine qs ?_ | refine hw1.l 0 ?_)
  refine O.mk (hix _ _ hf rfl) ?_
  (repeat with_reducible first | refine qq ?_ | refine qr ?_ | refine qs ?_)
  refine O.mk (hrd _ _ hw1 1 _ rfl) ?_
  (repeat with_reducible first | refine qq ?_ | refine qr ?_ | refine qs ?_)
  exact J _ (decide_eq_false (by omega))

def nextI (p : PP) (t : TH) (x : PI) : Prop := ∃ f g, t.fs[t.fs.length - 1]? = some f ∧ FrOK p f g ∧ g.code[f.at_.toNat]? = some x
theorem TOK.next {t : TH} (h : TOK p t) (hne : t.fs ≠ []) : ∃ f g x, t.fs[t.fs.length - 1]? = some f ∧ FrOK p f g ∧ g.code[f.at_.toNat]? = some x := by
  have hpos : 0 < t.fs.length := List.length_pos_iff.2 hne
  obtain ⟨f, hf⟩ := list_get (l := t.fs) (j := t.fs.length - 1) (by omega)
  obtain ⟨g, hg⟩ := h.fr _ _ hf
  obtain ⟨x, hx⟩ := list_get (l := g.code) (j := f.at_.toNat) (by have := hg.at0; have := hg.at1; omega)
  exact ⟨f, g, x, hf, hg, hx⟩
theorem sh_thread {t : TH} {i : Nat} (hi : L[i]? = some (threadA p t)) {w' : World} (h : Own B w' (t.parts p ++ L.eraseIdx i)) : Own B w' L := by
  have := Own.shut hi h
  rwa [show sep (t.parts p) = threadA p t from rfl, set_same hi] at this
set_option maxHeartbeats 1000000 in
theorem k67 (hP : ProgOK B p) {t : TH} (hw : Own B w L) (i : Nat) (hi : L[i]? = some (threadA p t)) (ht : TOK p t) (hne : t.fs ≠ []) :
    Cl Try.prog 67 [pp t.b] w fun v w' => (∃ x, v = .agg (encPI x).toArray ∧ nextI p t x) ∧ Own B w' L := by
  obtain ⟨f, g, x, hf, hg, hx⟩ := ht.next hne
  have hlen := ht.len
  have hpos : 0 < t.fs.length := List.length_pos_iff.2 hne
  have hw1 := hw.opn i hi
  clear hw
  refine s67 ?_
  unfold c67
  refine hw1.al fun b2 w2 hb2 hw2 => ?_
  clear hw1
  refine hw2.dr fun w3 hw3 => ?_
  clear hw2
  obtain ⟨bF, hix, hrd, hrdN⟩ := hw3.el 2 rfl encFR_len hf
  (repeat with_reducible first | refine qq ?_ | refine qr ?_ | refine qs ?_ | refine hw3.l 1 ?_)
  refine O.mk (hw3.slLen 2 rfl) ?_
  (repeat with_reducible first | refine qq ?_ | refine qr ?_ | refine qs ?_)
  refine O.mk (hix _ _ (by omega) (by omega)) ?_
  have e1 : ((t.fs.length : Int) - 1).toNat = t.fs.length - 1 := by omega
  rw [e1]
  refine O.mk hrdN ?_
  refine hw3.al fun b3 w4 hb3 hw4 => ?_
  clear hw3 hrd hrdN
  have hone : one f.rv = true := by
    have h1 := hw4.out (i := 4) rfl hf
    exact sl_one h1 0 rfl
  refine hw4.st_bk (x := .agg (encFR f).toArray) 0 rfl tsz152 (encFR_one hone) (Nat.le_refl 3) fun w5 hw5 => ?_
  clear hw4
  replace hw5 : Own B w5 (bk b3 152 (encFR f) :: bk b2 79 [.int .i64 0, .int .i64 0, .int .i64 0, .int .i64 0, .int .i64 0, .slice none 0 0, .int .i64 0, .int .i64 0] :: (t.parts p ++ L.eraseIdx i)) := hw5
  refine hw5.dr fun w6 hw6 => ?_
  clear hw5
  obtain ⟨bG, o, hixg, hrdg, _⟩ := hP.fn.at_ (by omega) encPF_len hg.fg
  have hmem := List.mem_of_getElem? hg.fg
  have hcode := hP.code g hmem
  obtain ⟨bX, oX, hixx, _, hrdx⟩ := hcode.at_ (by omega) encPI_len hx
  (repeat with_reducible first | refine qq ?_ | refine qr ?_ | refine qs ?_ | refine hw6.l 0 ?_ | refine hw6.l 2 ?_)
  refine O.mk (hixg _ _ hg.f0 rfl) ?_
  (repeat with_reducible first | refine qq ?_ | refine qr ?_ | refine qs ?_)
  refine O.mk (hrdg _ _ hw6 3 _ rfl) ?_
  (repeat with_reducible first | refine qq ?_ | refine qr ?_ | refine qs ?_ | refine hw6.l 0 ?_ | refine hw6.l 2 ?_)
  refine O.mk (hixx _ _ hg.at0 rfl) ?_
  refine O.mk (hrdx _ _ hw6) ?_
  have hli := hP.li g hmem x (List.mem_of_getElem? hx)
  refine hw6.st_bk (x := .agg (encPI x).toArray) 1 rfl tsz79 (encPI_one hli.one) (Nat.le_refl 8) fun w7 hw7 => ?_
  refine O.mk (v := .agg (encPI x).toArray) (hw7.rdN_bk 1 rfl (Nat.le_refl 8)) ?_
  exact ⟨⟨x, rfl, f, g, hf, hg, hx⟩, sh_thread hi hw7.tail.tail⟩
theorem k73 {t : TH} (hw : Own B w L) (i : Nat) (hi : L[i]? = some (threadA p t)) : Cl Try.prog 73 [pp t.b] w fun v w' => v = .bool (decide (t.fs.length = 0 ∨ t.trap ≠ 0)) ∧ w' = w := by
  have hw1 := hw.opn i hi
  refine s73 ?_
  unfold c73
  (repeat with_reducible first | refine qq ?_ | refine qr ?_ | refine qs ?_ | refine hw1.l 0 ?_)
  refine O.mk (hw1.slLen 1 rfl) ?_
  (repeat with_reducible first | refine qq ?_ | refine qr ?_ | refine qs ?_)
  refine Bc_dec (fun h => ⟨?_, rfl⟩) (fun h => ?_)
  · congr 1; exact (decide_eq_true (.inl (by omega))).symm
  · (repeat with_reducible first | refine qq ?_ | refine qr ?_ | refine qs ?_ | refine hw1.l 0 ?_)
    refine ⟨?_, rfl⟩
    congr 1
    refine decide_eq_decide.2 ⟨fun h => .inr h, fun h' => ?_⟩
    rcases h' with h' | h'
    · omega
    · exact h'
end
end Go.Proofs.Ytedcfkigfcobaaa
end
/- Contracts: a thread goes on; it reckons. -/
section
namespace Go.Proofs.Ytedcfkigfcobaaa
open Go Go.Proofs
attribute [local irreducible] Bc O AL BS MS MM ST AP CV Cl
theorem flat_set_same {α β : Type} {enc : α → List β} {x x' : α} (he : enc x' = enc x) : ∀ {xs : List α} {k : Nat}, xs[k]? = some x → (xs.set k x').flatMap enc = xs.flatMap enc
  | [], k, h => by simp at h
  | y :: xs, 0, h => by
    simp only [List.getElem?_cons_zero, Option.some.injEq] at h
    subst h
    simp [he]
  | y :: xs, k + 1, h => by
    simp only [List.getElem?_cons_succ] at h
    rw [List.set_cons_succ, List.flatMap_cons, List.flatMap_cons, flat_set_same he h]
theorem map_set_same {α β : Type} {f : α → β} {x x' : α} (he : f x' = f x) : ∀ {xs : List α} {k : Nat}, xs[k]? = some x → (xs.set k x').map f = xs.map f
  | [], k, h => by simp at h
  | y :: xs, 0, h => by
    simp only [List.getElem?_cons_zero, Option.some.injEq] at h
    subst h
    simp [he]
  | y :: xs, k + 1, h => by
    simp only [List.getElem?_cons_succ] at h
    rw [List.set_cons_succ, List.map_cons, List.map_cons, map_set_same he h]
section
variable {B : Base} {w : World} {L : List Atom} {p : PP}
theorem TOK.set {t : TH} (h : TOK p t) {k : Nat} {f' : FR} {g : PF} (hf : FrOK p f' g) {tr : Int} : TOK p ⟨t.b, t.fv, t.fs.set k f', tr⟩ := by
  refine ⟨by simpa using h.len, fun i f hi => ?_⟩
  simp only at hi
  rw [List.getElem?_set] at hi
  by_cases hki : k = i
  · rw [if_pos hki] at hi
    split at hi
    · cases hi; exact ⟨g, hf⟩
    · cases hi
  · rw [if_neg hki] at hi
    exact h.fr i f hi
theorem FrOK.step {f : FR} {g : PF} {x : PI} (hM : MayP p) (h : FrOK p f g) (hx : g.code[f.at_.toNat]? = some x) (h1 : x.op ≠ 31) (h2 : x.op ≠ 33) : FrOK p ⟨f.func, f.at_ + 1, f.rv, f.regs⟩ g := by
  have hG := func_lt hM h.fg
  have h0 := h.at0
  have h3 := h.at1
  refine ⟨h.f0, h.fg, h.regs, by simp only; omega, ?_⟩
  simp only
  rcases Int.lt_or_le (f.at_ + 1) g.code.length with h' | h'
  · exact h'
  · have : f.at_.toNat = g.code.length - 1 := by omega
    rw [this] at hx
    have := hG.last x hx
    omega
theorem FrOK.withRegs {f : FR} {g : PF} (h : FrOK p f g) {rs : List Int} (hl : rs.length = f.regs.length) : FrOK p ⟨f.func, f.at_, f.rv, rs⟩ g := ⟨h.f0, h.fg, by rw [hl]; exact h.regs, h.at0, h.at1⟩
/-- a frame is taken out of a thread -/
theorem Own.fout {t : TH} (hw : Own B w L) (i : Nat) (hi : L[i]? = some (threadA p t)) {k : Nat} {f : FR} (hf : t.fs[k]? = some f) :
    Own B w (frA f :: sep ((t.fs.eraseIdx k).map frA) :: bk t.b 156 (pcells p ++ [t.fv, .int .i64 t.trap]) :: sl 152 3 t.fv t.fs.length (t.fs.flatMap encFR) :: L.eraseIdx i) := by
  have h1 := hw.opn i hi
  exact h1.out (i := 2) rfl hf
theorem Own.fin {t : TH} {i : Nat} (hi : L[i]? = some (threadA p t)) {k : Nat} (hk : k < t.fs.length) {f' : FR} {fv : Value} {tr : Int}
    (hw : Own B w (frA f' :: sep ((t.fs.eraseIdx k).map frA) :: bk t.b 156 (pcells p ++ [fv, .int .i64 tr]) :: sl 152 3 fv (t.fs.set k f').length ((t.fs.set k f').flatMap encFR) :: L.eraseIdx i)) :
    Own B w (L.set i (threadA p ⟨t.b, fv, t.fs.set k f', tr⟩)) := by
  have h1 := hw.back hk
  have h2 : Own B w (TH.parts p ⟨t.b, fv, t.fs.set k f', tr⟩ ++ L.eraseIdx i) := h1.perm ((List.Perm.swap _ _ _).trans (List.Perm.cons _ (List.Perm.swap _ _ _)))
  exact Own.shut hi h2
/-- a register is read -/
theorem Own.reg {t : TH} (hw : Own B w L) (i : Nat) (hi : L[i]? = some (threadA p t)) {k : Nat} {f : FR} (hf : t.fs[k]? = some f) {r : Int} (h0 : 0 ≤ r) (h1 : r < f.regs.length) :
    ∃ b x, f.regs[r.toNat]? = some x ∧ iS 1 f.rv (.int .i64 r) = some (.pointer (some ⟨b, r.toNat * 1, none⟩)) ∧ rd1 (.pointer (some ⟨b, r.toNat * 1, none⟩)) w = some (.int .i64 x) := by
  obtain ⟨x, hx⟩ := list_get (l := f.regs) (j := r.toNat) (by omega)
  obtain ⟨b, h2, h3⟩ := (hw.fout i hi hf).eli 0 rfl hx
  exact ⟨b, x, hx, h2 _ _ h0 rfl, h3⟩
/-- a register is written -/
theorem Own.regst {P : Program} {t : TH} (hw : Own B w L) (i : Nat) (hi : L[i]? = some (threadA p t)) {k : Nat} {f : FR} (hf : t.fs[k]? = some f) {r : Int} (h0 : 0 ≤ r) (h1 : r < f.regs.length) {b : Nat}
    (hix : iS 1 f.rv (.int .i64 r) = some (.pointer (some ⟨b, r.toNat * 1, none⟩))) (x : Int) (ht : tsz P 2 = some 1) {K : Value → World → Prop}
    (hk : ∀ w', Own B w' (L.set i (threadA p ⟨t.b, t.fv, t.fs.set k ⟨f.func, f.at_, f.rv, f.regs.set r.toNat x⟩, t.trap⟩)) → K undef w') :
    ST P 2 (.pointer (some ⟨b, r.toNat * 1, none⟩)) (.int .i64 x) w K := by
  refine (hw.fout i hi hf).elsti 0 rfl (i := r.toNat) (by omega) x hix rfl ht fun w' hw' => hk w' ?_
  refine Own.fin hi (list_lt hf) ?_
  rw [List.length_set, flat_set_same (x := f) (x' := ⟨f.func, f.at_, f.rv, f.regs.set r.toNat x⟩) rfl hf]
  exact hw'
theorem k88 {t : TH} (hw : Own B w L) (i : Nat) (hi : L[i]? = some (threadA p t)) {k : Nat} {f : FR} (hf : t.fs[k]? = some f) (hlen : t.fs.length ≤ 40) (hat : 0 ≤ f.at_ ∧ f.at_ < 1000) {a : Int} (ha : a = t.fs.length - 1 - k) :
    Cl Try.prog 88 [pp t.b, .int .i64 a] w fun v w' => v = .tuple #[] ∧ Own B w' (L.set i (threadA p ⟨t.b, t.fv, t.fs.set k ⟨f.func, f.at_ + 1, f.rv, f.regs⟩, t.trap⟩)) := by
  have hk := list_lt hf
  have hw1 := hw.opn i hi
  clear hw
  refine s88 ?_
  unfold c88
  refine hw1.dr fun w2 hw2 => ?_
  clear hw1
  obtain ⟨bF, hix, hrd, _⟩ := hw2.el 1 rfl encFR_len hf
  (repeat with_reducible first | refine qq ?_ | refine qr ?_ | refine qs ?_ | refine hw2.l 0 ?_)
  refine O.mk (hw2.slLen 1 rfl) ?_
  (repeat with_reducible first | refine qq ?_ | refine qr ?_ | refine qs ?_)
  have e1 : (t.fs.length : Int) - 1 - a = k := by omega
  rw [e1]
  refine O.mk (hix _ _ (by omega) rfl) ?_
  (repeat with_reducible first | refine qq ?_ | refine qr ?_ | refine qs ?_)
  refine O.mk (hrd 1 _ rfl) ?_
  (repeat with_reducible first | refine qq ?_ | refine qr ?_ | refine qs ?_)
  refine O.mk (hix _ _ (by omega) rfl) ?_
  (repeat with_reducible first | refine qq ?_ | refine qr ?_ | refine qs ?_)
  refine hw2.elst 1 rfl encFR_len hf (x' := ⟨f.func, f.at_ + 1, f.rv, f.regs⟩) (k := 1) (X := .int .i64 (f.at_ + 1)) (hix .i64 k (by omega) rfl) rfl tsz3 rfl (Nat.le_succ 2) rfl fun w3 hw3 => ?_
  refine ⟨rfl, ?_⟩
  refine Own.shut (A := TH.parts p ⟨t.b, t.fv, t.fs.set k ⟨f.func, f.at_ + 1, f.rv, f.regs⟩, t.trap⟩) hi ?_
  unfold TH.parts
  simp only
  rw [map_set_same (x := f) (x' := ⟨f.func, f.at_ + 1, f.rv, f.regs⟩) (f := frA) rfl hf]
  exact hw3
/-- what is known where a thread stands -/
structure At (p : PP) (t : TH) (f : FR) (g : PF) (x : PI) : Prop where
  ok : TOK p t
  get : t.fs[t.fs.length - 1]? = some f
  fok : FrOK p f g
  code : g.code[f.at_.toNat]? = some x
theorem At.valid (hM : MayP p) {t : TH} {f : FR} {g : PF} {x : PI} (h : At p t f g x) : ValidI p g x := (func_lt hM h.fok.fg).instr _ _ h.code
theorem At.reg (hM : MayP p) {t : TH} {f : FR} {g : PF} {x : PI} (h : At p t f g x) (i : Nat) (hi : (i : Int) < namedN x.op) : 0 ≤ regN x i ∧ regN x i < f.regs.length := by
  have := (h.valid hM).regs i hi
  have := h.fok.regs
  omega
theorem At.at (hM : MayP p) {t : TH} {f : FR} {g : PF} {x : PI} (h : At p t f g x) : 0 ≤ f.at_ ∧ f.at_ < 1000 := by
  have := h.fok.at0
  have := h.fok.at1
  have := (func_lt hM h.fok.fg).len
  omega
theorem At.lt {t : TH} {f : FR} {g : PF} {x : PI} (h : At p t f g x) : t.fs.length - 1 < t.fs.length := list_lt h.get
set_option maxHeartbeats 1000000 in
theorem k83 (hP : ProgOK B p) (hM : MayP p) {t : TH} {f : FR} {g : PF} {x : PI} (hA : At p t f g x) (hw : Own B w L) (i : Nat) (hi : L[i]? = some (threadA p t)) (it : Int) :
    Cl Try.prog 83 [pp t.b, .agg (encPI x).toArray, f.rv, .int .i64 it] w fun v w' => ∃ b, v = .bool b ∧ ∃ t', t'.b = t.b ∧ TOK p t' ∧ (b = false → t' = t ∧ ¬ (1 ≤ x.op ∧ x.op ≤ 8)) ∧ Own B w' (L.set i (threadA p t')) := by
  obtain ⟨R, hR⟩ : ∃ R : Value → World → Prop, R = fun v w' => ∃ b, v = .bool b ∧ ∃ t', t'.b = t.b ∧ TOK p t' ∧ (b = false → t' = t ∧ ¬ (1 ≤ x.op ∧ x.op ≤ 8)) ∧ Own B w' (L.set i (threadA p t')) := ⟨_, rfl⟩
  rw [← hR]
  refine s83 ?_
  unfold c83
  refine hw.al fun b5 w1 hb5 hw1 => ?_
  clear hw
  replace hw1 : Own B w1 (bk b5 79 (encPI x) :: L) := hw1
  have hlen := hA.ok.len
  have hlt := hA.lt
  have hat := hA.at hM
  have J : ∀ (n : Int) w', 1 ≤ x.op ∧ x.op ≤ 8 → Own B w' (bk b5 79 (encPI x) :: L) → j83_0 R (pp b5) f.rv (pp t.b) (.int .i64 n) w' := by
    intro n w' hop hw'
    unfold j83_0
    have hr := hA.reg hM 0 (by unfold namedN; (repeat' split) <;> omega)
    obtain ⟨b, y, hy, hix, _⟩ := hw'.reg (i + 1) hi hA.get hr.1 hr.2
    (repeat with_reducible first | refine qq ?_ | refine qr ?_ | refine qs ?_ | refine hw'.l 0 ?_)
    refine O.mk hix ?_
    refine hw'.regst (i + 1) hi hA.get hr.1 hr.2 hix n tsz2 fun w2 hw2 => ?_
    rw [List.set_cons_succ] at hw2
    have hi2 : (bk b5 79 (encPI x) :: L.set i (threadA p ⟨t.b, t.fv, t.fs.set (t.fs.length - 1) ⟨f.func, f.at_, f.rv, f.regs.set (regN x 0).toNat n⟩, t.trap⟩))[i + 1]? = some (threadA p ⟨t.b, t.fv, t.fs.set (t.fs.length - 1) ⟨f.func, f.at_, f.rv, f.regs.set (regN x 0).toNat n⟩, t.trap⟩) := by
      rw [List.getElem?_cons_succ, List.getElem?_set_self (list_lt hi)]
    have hf2 : (t.fs.set (t.fs.length - 1) ⟨f.func, f.at_, f.rv, f.regs.set (regN x 0).toNat n⟩)[t.fs.length - 1]? = some ⟨f.func, f.at_, f.rv, f.regs.set (regN x 0).toNat n⟩ := by
      rw [List.getElem?_set_self hlt]
    refine (k88 hw2 (i + 1) hi2 hf2 (by simp only [List.length_set]; omega) hat (a := 0) (by simp only [List.length_set]; omega)).use ?_
    rintro _ w3 ⟨rfl, hw3⟩
    rw [List.set_cons_succ, List.set_set] at hw3
    simp only [List.set_set] at hw3
    rw [hR]
    refine ⟨true, rfl, ⟨t.b, t.fv, t.fs.set (t.fs.length - 1) ⟨f.func, f.at_ + 1, f.rv, f.regs.set (regN x 0).toNat n⟩, t.trap⟩, rfl, ?_, fun h => (by cases h), hw3.tail⟩
    exact hA.ok.set ((hA.fok.withRegs (rs := f.regs.set (regN x 0).toNat n) (by simp)).step hM hA.code (by omega) (by omega))
  have rB : ∀ w', (2 : Int) ≤ namedN x.op → Own B w' (bk b5 79 (encPI x) :: L) → ∃ b y, iS 1 f.rv (.int .i64 x.b) = some (.pointer (some ⟨b, x.b.toNat * 1, none⟩)) ∧ rd1 (.pointer (some ⟨b, x.b.toNat * 1, none⟩)) w' = some (.int .i64 y) := by
    intro w' hn hw'
    have hr := hA.reg hM 1 (by omega)
    obtain ⟨b, y, hy, hix, hrd⟩ := hw'.reg (i + 1) hi hA.get hr.1 hr.2
    exact ⟨b, y, hix, hrd⟩
  have rC : ∀ w', (3 : Int) ≤ namedN x.op → Own B w' (bk b5 79 (encPI x) :: L) → ∃ b y, iS 1 f.rv (.int .i64 x.c) = some (.pointer (some ⟨b, x.c.toNat * 1, none⟩)) ∧ rd1 (.pointer (some ⟨b, x.c.toNat * 1, none⟩)) w' = some (.int .i64 y) := by
    intro w' hn hw'
    have hr := hA.reg hM 2 (by omega)
    obtain ⟨b, y, hy, hix, hrd⟩ := hw'.reg (i + 1) hi hA.get hr.1 hr.2
    exact ⟨b, y, hix, hrd⟩
  (repeat with_reducible first | refine qq ?_ | refine qr ?_ | refine qs ?_ | refine hw1.l 0 ?_)
  refine Bc_dec (fun h => ?_) (fun h1 => ?_)
  · (repeat with_reducible first | refine qq ?_ | refine qr ?_ | refine qs ?_ | refine hw1.l 0 ?_)
    exact J _ _ (by omega) hw1
  (repeat with_reducible first | refine qq ?_ | refine qr ?_ | refine qs ?_)
  refine Bc_dec (fun h => ?_) (fun h2 => ?_)
  · obtain ⟨b, y, hix, hrd⟩ := rB w1 (by rw [h]; decide) hw1
    (repeat with_reducible first | refine qq ?_ | refine qr ?_ | refine qs ?_ | refine hw1.l 0 ?_)
    refine O.mk hix ?_
    refine O.mk hrd ?_
    exact J _ _ (by omega) hw1
  (repeat with_reducible first | refine qq ?_ | refine qr ?_ | refine qs ?_)
  refine Bc_dec (fun h => ?_) (fun h3 => ?_)
  · refine hw1.dr fun w2 hw2 => ?_
    obtain ⟨b, y, hix, hrd⟩ := rB w2 (by rw [h]; decide) hw2
    obtain ⟨b', y', hix', hrd'⟩ := rC w2 (by rw [h]; decide) hw2
    (repeat with_reducible first | refine qq ?_ | refine qr ?_ | refine qs ?_ | refine hw2.l 0 ?_)
    refine O.mk hix ?_
    refine O.mk hrd ?_
    (repeat with_reducible first | refine qq ?_ | refine qr ?_ | refine qs ?_ | refine hw2.l 0 ?_)
    refine O.mk hix' ?_
    refine O.mk hrd' ?_
    refine O.mk bi_addw ?_
    exact J _ _ (by omega) hw2
  (repeat with_reducible first | refine qq ?_ | refine qr ?_ | refine qs ?_)
  refine Bc_dec (fun h => ?_) (fun h4 => ?_)
  · refine hw1.dr fun w2 hw2 => ?_
    obtain ⟨b, y, hix, hrd⟩ := rB w2 (by rw [h]; decide) hw2
    obtain ⟨b', y', hix', hrd'⟩ := rC w2 (by rw [h]; decide) hw2
    (repeat with_reducible first | refine qq ?_ | refine qr ?_ | refine qs ?_ | refine hw2.l 0 ?_)
    refine O.mk hix ?_
    refine O.mk hrd ?_
    (repeat with_reducible first | refine qq ?_ | refine qr ?_ | refine qs ?_ | refine hw2.l 0 ?_)
    refine O.mk hix' ?_
    refine O.mk hrd' ?_
    refine O.mk bi_subw ?_
    exact J _ _ (by omega) hw2
  (repeat with_reducible first | refine qq ?_ | refine qr ?_ | refine qs ?_)
  refine Bc_dec (fun h => ?_) (fun h5 => ?_)
  · refine hw1.dr fun w2 hw2 => ?_
    obtain ⟨b, y, hix, hrd⟩ := rB w2 (by rw [h]; decide) hw2
    obtain ⟨b', y', hix', hrd'⟩ := rC w2 (by rw [h]; decide) hw2
    (repeat with_reducible first | refine qq ?_ | refine qr ?_ | refine qs ?_ | refine hw2.l 0 ?_)
    refine O.mk hix ?_
    refine O.mk hrd ?_
    (repeat with_reducible first | refine qq ?_ | refine qr ?_ | refine qs ?_ | refine hw2.l 0 ?_)
    refine O.mk hix' ?_
    refine O.mk hrd' ?_
    refine O.mk bi_mulw ?_
    exact J _ _ (by omega) hw2
  (repeat with_reducible first | refine qq ?_ | refine qr ?_ | refine qs ?_)
  refine Bc_dec (fun h => ?_) (fun h6 => ?_)
  · refine hw1.dr fun w2 hw2 => ?_
    obtain ⟨b, y, hix, hrd⟩ := rB w2 (by rw [h]; decide) hw2
    obtain ⟨b', y', hix', hrd'⟩ := rC w2 (by rw [h]; decide) hw2
    (repeat with_reducible first | refine qq ?_ | refine qr ?_ | refine qs ?_ | refine hw2.l 0 ?_)
    refine O.mk hix ?_
    refine O.mk hrd ?_
    (repeat with_reducible first | refine qq ?_ | refine qr ?_ | refine qs ?_ | refine hw2.l 0 ?_)
    refine O.mk hix' ?_
    refine O.mk hrd' ?_
    (repeat with_reducible first | refine qq ?_ | refine qr ?_ | refine qs ?_)
    exact Bc_dec (fun _ => J _ _ (by omega) hw2) (fun _ => J _ _ (by omega) hw2)
  (repeat with_reducible first | refine qq ?_ | refine qr ?_ | refine qs ?_)
  refine Bc_dec (fun h => ?_) (fun h7 => ?_)
  · refine hw1.dr fun w2 hw2 => ?_
    obtain ⟨b, y, hix, hrd⟩ := rB w2 (by rw [h]; decide) hw2
    obtain ⟨b', y', hix', hrd'⟩ := rC w2 (by rw [h]; decide) hw2
    (repeat with_reducible first | refine qq ?_ | refine qr ?_ | refine qs ?_ | refine hw2.l 0 ?_)
    refine O.mk hix ?_
    refine O.mk hrd ?_
    (repeat with_reducible first | refine qq ?_ | refine qr ?_ | refine qs ?_ | refine hw2.l 0 ?_)
    refine O.mk hix' ?_
    refine O.mk hrd' ?_
    (repeat with_reducible first | refine qq ?_ | refine qr ?_ | refine qs ?_)
    exact Bc_dec (fun _ => J _ _ (by omega) hw2) (fun _ => J _ _ (by omega) hw2)
  (repeat with_reducible first | refine qq ?_ | refine qr ?_ | refine qs ?_)
  refine Bc_dec (fun h => ?_) (fun h8 => ?_)
  · exact J _ _ (by omega) hw1
  rw [hR]
  exact ⟨false, rfl, t, rfl, hA.ok, fun _ => ⟨rfl, by omega⟩, by rw [set_same hi]; exact hw1.tail⟩
end
end Go.Proofs.Ytedcfkigfcobaaa
end
/- Contracts: what a thread asks; it is told that that is done. -/
section
namespace Go.Proofs.Ytedcfkigfcobaaa
open Go Go.Proofs
attribute [local irreducible] Bc O AL BS MS MM ST AP CV Cl
structure AS where
  op : Int
  site : Int
  n : Int
  v : Int
  looper : Int
  acc : Value
def encAS (a : AS) : List Value := [.int .i64 a.op, .int .i64 a.site, .int .i64 a.n, .int .i64 a.v, .int .i64 a.looper, a.acc]
theorem encAS_len (a : AS) : (encAS a).length = 6 := rfl
theorem encAS_one {a : AS} (h : one a.acc = true) : (encAS a).all one = true := by
  show (true && (true && (true && (true && (true && (one a.acc && true)))))) = true
  rw [h]; rfl
structure AskOK (x : PI) (regs : List Int) (a : AS) : Prop where
  op : a.op = x.op
  n : a.n = x.n
  acc : a.acc = .slice none 0 0
  vb : x.op = 23 ∨ x.op = 24 ∨ x.op = 28 → regs[x.b.toNat]? = some a.v
  va : x.op = 10 ∨ x.op = 25 ∨ x.op = 29 ∨ x.op = 30 → regs[x.a.toNat]? = some a.v
  lo : x.op = 23 ∨ x.op = 24 → a.looper = x.c
theorem nextI.at {p : PP} {t : TH} {x : PI} (h : nextI p t x) (ht : TOK p t) : ∃ f g, At p t f g x := by
  obtain ⟨f, g, h1, h2, h3⟩ := h
  exact ⟨f, g, ht, h1, h2, h3⟩
section
variable {B : Base} {w : World} {L : List Atom} {p : PP}
theorem tsz162 : tsz Try.prog 162 = some 6 := by kernel_rfl
theorem fill162 (a b c : Int) : (fillW Try.prog 162 [(0, .int .i64 a), (1, .int .i64 b), (2, .int .i64 c)]).map Value.agg = some (.agg (encAS ⟨a, b, c, 0, 0, .slice none 0 0⟩).toArray) := by kernel_rfl
set_option maxHeartbeats 1000000 in
theorem k82 (hM : MayP p) {t : TH} {f : FR} {g : PF} {x : PI} (hA : At p t f g x) (hli : one x.lv = true) (hw : Own B w L) (i : Nat) (hi : L[i]? = some (threadA p t)) (hop : sharedB x.op = true) (t0 : Value) :
    Cl Try.prog 82 [t0, .agg (encPI x).toArray, f.rv] w fun v w' => ∃ a, v = .agg (encAS a).toArray ∧ AskOK x f.regs a ∧ Own B w' L := by
  obtain ⟨R, hR⟩ : ∃ R : Value → World → Prop, R = fun v w' => ∃ a, v = .agg (encAS a).toArray ∧ AskOK x f.regs a ∧ Own B w' L := ⟨_, rfl⟩
  rw [← hR]
  refine s82 ?_
  unfold c82
  refine hw.al fun b4 w1 hb4 hw1 => ?_
  refine hw1.al fun b6 w2 hb6 hw2 => ?_
  clear hw hw1
  (repeat with_reducible first | refine qq ?_ | refine qr ?_ | refine qs ?_ | refine hw2.l 0 ?_ | refine hw2.l 1 ?_)
  refine O.mk (fill162 _ _ _) ?_
  refine hw2.al fun b7 w3 hb7 hw3 => ?_
  clear hw2
  refine hw3.st_bk (x := .agg (encAS ⟨x.op, x.site, x.n, 0, 0, .slice none 0 0⟩).toArray) 0 rfl tsz162 rfl (Nat.le_refl 6) fun w4 hw4 => ?_
  clear hw3
  replace hw4 : Own B w4 (bk b7 162 (encAS ⟨x.op, x.site, x.n, 0, 0, .slice none 0 0⟩) :: bk b6 162 (encAS ⟨0, 0, 0, 0, 0, .slice none 0 0⟩) :: bk b4 79 (encPI x) :: L) := hw4
  obtain ⟨S, hS⟩ : ∃ S : AS → World → Prop, S = fun a w' => Own B w' (bk b7 162 (encAS a) :: bk b6 162 (encAS ⟨0, 0, 0, 0, 0, .slice none 0 0⟩) :: bk b4 79 (encPI x) :: L) := ⟨_, rfl⟩
  have J2 : ∀ a w', AskOK x f.regs a → S a w' → j82_2 R (pp b7) (pp b6) w' := by
    intro a w' ha hs
    rw [hS] at hs
    unfold j82_2
    refine O.mk (v := .agg (encAS a).toArray) (hs.rdN_bk 0 rfl (Nat.le_refl 6)) ?_
    refine hs.st_bk (x := .agg (encAS a).toArray) 1 rfl tsz162 (encAS_one (by rw [ha.acc]; rfl)) (Nat.le_refl 6) fun w5 hw5 => ?_
    refine O.mk (v := .agg (encAS a).toArray) (hw5.rdN_bk 1 rfl (Nat.le_refl 6)) ?_
    rw [hR]
    exact ⟨a, rfl, ha, hw5.tail.tail.tail⟩
  have J3 : ∀ c (v lo : Int) w', (c = true ↔ (x.op = 10 ∨ x.op = 25 ∨ x.op = 29 ∨ x.op = 30)) → (x.op = 23 ∨ x.op = 24 ∨ x.op = 28 → f.regs[x.b.toNat]? = some v) → (x.op = 23 ∨ x.op = 24 → lo = x.c) → S ⟨x.op, x.site, x.n, v, lo, .slice none 0 0⟩ w' → j82_3 R (pp b4) f.rv (pp b7) (pp b6) (.bool c) w' := by
    intro c v lo w' hc hvb hlo hs
    unfold j82_3
    refine Bc_b (fun h => ?_) (fun h => ?_)
    · have hop := hc.1 h
      rw [hS] at hs
      have hr := hA.reg hM 0 (by unfold namedN; (repeat' split) <;> omega)
      obtain ⟨b, y, hy, hix, hrd⟩ := hs.reg (i + 3) hi hA.get hr.1 hr.2
      (repeat with_reducible first | refine qq ?_ | refine qr ?_ | refine qs ?_ | refine hs.l 2 ?_)
      refine O.mk hix ?_
      refine O.mk hrd ?_
      (repeat with_reducible first | refine qq ?_ | refine qr ?_ | refine qs ?_)
      refine hs.st_bk (x := .int .i64 y) 0 rfl tsz2 rfl (by show 0 + 3 + 1 ≤ 6; decide) fun w5 hw5 => ?_
      refine J2 ⟨x.op, x.site, x.n, y, lo, .slice none 0 0⟩ w5 ⟨rfl, rfl, rfl, fun h => by omega, fun _ => hy, hlo⟩ ?_
      rw [hS]; exact hw5
    · refine J2 _ w' ⟨rfl, rfl, rfl, hvb, fun h' => ?_, hlo⟩ hs
      rw [hc.2 h'] at h; cases h
  have J1 : ∀ (v lo : Int) w', (x.op = 23 ∨ x.op = 24 ∨ x.op = 28 → f.regs[x.b.toNat]? = some v) → (x.op = 23 ∨ x.op = 24 → lo = x.c) → S ⟨x.op, x.site, x.n, v, lo, .slice none 0 0⟩ w' → j82_1 R (pp b4) f.rv (pp b7) (pp b6) w' := by
    intro v lo w' hvb hlo hs
    unfold j82_1
    have J3' := fun c hc => J3 c v lo w' hc hvb hlo hs
    rw [hS] at hs
    (repeat with_reducible first | refine qq ?_ | refine qr ?_ | refine qs ?_ | refine hs.l 2 ?_)
    refine Bc_dec (fun h => J3' true (by simp [h])) (fun h1 => ?_)
    (repeat with_reducible first | refine qq ?_ | refine qr ?_ | refine qs ?_ | refine hs.l 2 ?_)
    refine Bc_dec (fun h => J3' true (by simp [h])) (fun h2 => ?_)
    (repeat with_reducible first | refine qq ?_ | refine qr ?_ | refine qs ?_ | refine hs.l 2 ?_)
    refine Bc_dec (fun h => J3' true (by simp [h])) (fun h3 => ?_)
    (repeat with_reducible first | refine qq ?_ | refine qr ?_ | refine qs ?_ | refine hs.l 2 ?_)
    exact J3' _ (by simp [h1, h2, h3])
  have J4 : ∀ c (v : Int) w', (c = true ↔ (x.op = 23 ∨ x.op = 24)) → (x.op = 23 ∨ x.op = 24 ∨ x.op = 28 → f.regs[x.b.toNat]? = some v) → S ⟨x.op, x.site, x.n, v, 0, .slice none 0 0⟩ w' → j82_4 R (pp b4) (pp b7) f.rv (pp b6) (.bool c) w' := by
    intro c v w' hc hvb hs
    unfold j82_4
    refine Bc_b (fun h => ?_) (fun h => ?_)
    · rw [hS] at hs
      (repeat with_reducible first | refine qq ?_ | refine qr ?_ | refine qs ?_ | refine hs.l 2 ?_)
      refine hs.st_bk (x := .int .i64 x.c) 0 rfl tsz3 rfl (by show 0 + 4 + 1 ≤ 6; decide) fun w5 hw5 => ?_
      refine J1 v x.c w5 hvb (fun _ => rfl) ?_
      rw [hS]; exact hw5
    · refine J1 v 0 w' hvb (fun h' => ?_) hs
      rw [hc.2 h'] at h; cases h
  have J0 : ∀ (v : Int) w', (x.op = 23 ∨ x.op = 24 ∨ x.op = 28 → f.regs[x.b.toNat]? = some v) → S ⟨x.op, x.site, x.n, v, 0, .slice none 0 0⟩ w' → j82_0 R (pp b4) (pp b7) f.rv (pp b6) w' := by
    intro v w' hvb hs
    unfold j82_0
    have J4' := fun c hc => J4 c v w' hc hvb hs
    rw [hS] at hs
    (repeat with_reducible first | refine qq ?_ | refine qr ?_ | refine qs ?_ | refine hs.l 2 ?_)
    refine Bc_dec (fun h => J4' true (by simp [h])) (fun h1 => ?_)
    (repeat with_reducible first | refine qq ?_ | refine qr ?_ | refine qs ?_ | refine hs.l 2 ?_)
    exact J4' _ (by simp [h1])
  have J5 : ∀ c, (c = true ↔ (x.op = 23 ∨ x.op = 24 ∨ x.op = 28)) → j82_5 R (pp b4) f.rv (pp b7) (pp b6) (.bool c) w4 := by
    intro c hc
    unfold j82_5
    refine Bc_b (fun h => ?_) (fun h => ?_)
    · have hop := hc.1 h
      have hr := hA.reg hM 1 (by unfold namedN; (repeat' split) <;> omega)
      obtain ⟨b, y, hy, hix, hrd⟩ := hw4.reg (i + 3) hi hA.get hr.1 hr.2
      (repeat with_reducible first | refine qq ?_ | refine qr ?_ | refine qs ?_ | refine hw4.l 2 ?_)
      refine O.mk hix ?_
      refine O.mk hrd ?_
      (repeat with_reducible first | refine qq ?_ | refine qr ?_ | refine qs ?_)
      refine hw4.st_bk (x := .int .i64 y) 0 rfl tsz2 rfl (by show 0 + 3 + 1 ≤ 6; decide) fun w5 hw5 => ?_
      refine J0 y w5 (fun _ => hy) ?_
      rw [hS]; exact hw5
    · refine J0 0 w4 (fun h' => ?_) (by rw [hS]; exact hw4)
      rw [hc.2 h'] at h; cases h
  (repeat with_reducible first | refine qq ?_ | refine qr ?_ | refine qs ?_ | refine hw4.l 2 ?_)
  refine Bc_dec (fun h => J5 true (by simp [h])) (fun h1 => ?_)
  (repeat with_reducible first | refine qq ?_ | refine qr ?_ | refine qs ?_ | refine hw4.l 2 ?_)
  refine Bc_dec (fun h => J5 true (by simp [h])) (fun h2 => ?_)
  (repeat with_reducible first | refine qq ?_ | refine qr ?_ | refine qs ?_ | refine hw4.l 2 ?_)
  exact J5 _ (by simp [h1, h2])
theorem shared_op {o : Int} (h : sharedB o = true) : o = 9 ∨ o = 10 ∨ (23 ≤ o ∧ o ≤ 30) := by unfold sharedB at h; simpa using h
theorem set_hit {i : Nat} {a a' : Atom} (hi : L[i]? = some a) : (L.set i a')[i]? = some a' := by rw [List.getElem?_set_self (list_lt hi)]
theorem set_miss {i j : Nat} {a a' : Atom} (hij : i ≠ j) (hj : L[j]? = some a) : (L.set i a')[j]? = some a := by rw [List.getElem?_set_ne hij]; exact hj
set_option maxHeartbeats 1000000 in
theorem k94 (hP : ProgOK B p) (hM : MayP p) {t : TH} (ht : TOK p t) (hw : Own B w L) (i : Nat) (hi : L[i]? = some (threadA p t)) (n : Int) :
    Cl Try.prog 94 [pp t.b, .int .i64 n] w fun v w' => (∃ e : Int, v = .int .i64 e) ∧ ∃ t', t'.b = t.b ∧ TOK p t' ∧ Own B w' (L.set i (threadA p t')) := by
  obtain ⟨R, hR⟩ : ∃ R : Value → World → Prop, R = fun v w' => (∃ e : Int, v = .int .i64 e) ∧ ∃ t', t'.b = t.b ∧ TOK p t' ∧ Own B w' (L.set i (threadA p t')) := ⟨_, rfl⟩
  rw [← hR]
  have hsame : ∀ (e : Int) w', Own B w' L → R (.int .i64 e) w' := fun e w' h => by
    rw [hR]; exact ⟨⟨e, rfl⟩, t, rfl, ht, by rw [set_same hi]; exact h⟩
  refine s94 ?_
  unfold c94
  refine (k73 hw i hi).use ?_
  rintro _ _ ⟨rfl, rfl⟩
  refine Bc_dec (fun h => ?_) (fun h => ?_)
  · unfold j94_0
    exact Bc_t (hsame 13 _ hw)
  have hne : t.fs ≠ [] := by
    rintro h'; rw [h'] at h; exact h (.inl rfl)
  refine (k67 hP hw i hi ht hne).use ?_
  clear hw
  rintro _ w2 ⟨⟨x, rfl, hx⟩, hw2⟩
  refine O.mk (v := .int .i64 x.op) rfl ?_
  refine (k81 _ _).use ?_
  rintro _ _ ⟨rfl, rfl⟩
  (repeat with_reducible first | refine qq ?_ | refine qr ?_ | refine qs ?_)
  unfold j94_0
  refine Bc_b (fun _ => hsame 13 _ hw2) (fun hsh => ?_)
  have hop := shared_op (by simpa using hsh)
  refine (k67 hP hw2 i hi ht hne).use ?_
  clear hw2
  rintro _ w3 ⟨⟨x', rfl, hx'⟩, hw3⟩
  obtain ⟨f, g, hA⟩ := hx.at ht
  have hxx : x' = x := by
    obtain ⟨f', g', h1, h2, h3⟩ := hx'
    have e1 := hA.get.symm.trans h1; cases e1
    have e2 := hA.fok.fg.symm.trans h2.fg; cases e2
    have e3 := hA.code.symm.trans h3; cases e3; rfl
  subst hxx
  have hli : one x'.lv = true := (hP.li g (List.mem_of_getElem? hA.fok.fg) x' (List.mem_of_getElem? hA.code)).one
  have hlen := ht.len
  have hlt := hA.lt
  have hat := hA.at hM
  refine hw3.al fun b5 w4 hb5 hw4 => ?_
  clear hw3
  refine hw4.st_bk (x := .agg (encPI x').toArray) 0 rfl tsz79 (encPI_one hli) (Nat.le_refl 8) fun w5 hw5 => ?_
  clear hw4
  replace hw5 : Own B w5 (bk b5 79 (encPI x') :: L) := hw5
  have J1 : ∀ w' (rs : List Int), rs.length = f.regs.length → Own B w' (bk b5 79 (encPI x') :: L.set i (threadA p ⟨t.b, t.fv, t.fs.set (t.fs.length - 1) ⟨f.func, f.at_, f.rv, rs⟩, t.trap⟩)) → j94_1 R (pp t.b) w' := by
    intro w' rs hrs hw'
    unfold j94_1
    refine (k88 hw' (i + 1) (set_hit (L := L) hi) (f := ⟨f.func, f.at_, f.rv, rs⟩) (k := t.fs.length - 1) (by simp only; rw [List.getElem?_set_self hlt]) (by simp only [List.length_set]; omega) hat (a := 0) (by simp only [List.length_set]; omega)).use ?_
    rintro _ w6 ⟨rfl, hw6⟩
    rw [List.set_cons_succ, List.set_set] at hw6
    simp only [List.set_set] at hw6
    rw [hR]
    refine ⟨⟨0, rfl⟩, ⟨t.b, t.fv, t.fs.set (t.fs.length - 1) ⟨f.func, f.at_ + 1, f.rv, rs⟩, t.trap⟩, rfl, ?_, hw6.tail⟩
    exact ht.set ((hA.fok.withRegs (rs := rs) hrs).step hM hA.code (by omega) (by omega))
  have J2 : ∀ c, (c = true → x'.op = 9 ∨ x'.op = 23 ∨ x'.op = 24 ∨ x'.op = 28) → j94_2 R (pp t.b) (pp b5) (.int .i64 n) (.bool c) w5 := by
    intro c hc
    unfold j94_2
    refine Bc_b (fun h => ?_) (fun h => ?_)
    · have hop := hc h
      refine hw5.dr fun w6 hw6 => ?_
      have hw7 := hw6.opn (i + 1) hi
      obtain ⟨bF, hix, hrd, _⟩ := hw7.el 1 rfl encFR_len hA.get
      (repeat with_reducible first | refine qq ?_ | refine qr ?_ | refine qs ?_ | refine hw7.l 0 ?_)
      refine O.mk (hw7.slLen 1 rfl) ?_
      (repeat with_reducible first | refine qq ?_ | refine qr ?_ | refine qs ?_)
      refine O.mk (hix _ _ (by omega) (by omega)) ?_
      (repeat with_reducible first | refine qq ?_ | refine qr ?_ | refine qs ?_)
      have e1 : ((t.fs.length : Int) - 1).toNat = t.fs.length - 1 := by omega
      rw [e1]
      refine O.mk (hrd 2 _ rfl) ?_
      have hr := hA.reg hM 0 (by unfold namedN; (repeat' split) <;> omega)
      obtain ⟨b, y, hy, hixr, hrdr⟩ := hw6.reg (i + 1) hi hA.get hr.1 hr.2
      (repeat with_reducible first | refine qq ?_ | refine qr ?_ | refine qs ?_ | refine hw6.l 0 ?_)
      refine O.mk hixr ?_
      refine hw6.regst (i + 1) hi hA.get hr.1 hr.2 hixr n tsz2 fun w8 hw8 => ?_
      exact J1 w8 _ (by simp) hw8
    · refine J1 w5 f.regs rfl ?_
      have e1 : t.fs.set (t.fs.length - 1) ⟨f.func, f.at_, f.rv, f.regs⟩ = t.fs := by
        have := hA.get
        rw [List.getElem?_eq_getElem hlt] at this
        simp only [Option.some.injEq] at this
        rw [← this]; exact List.set_getElem_self hlt
      rw [e1, show (⟨t.b, t.fv, t.fs, t.trap⟩ : TH) = t from rfl, set_same hi]
      exact hw5
  (repeat with_reducible first | refine qq ?_ | refine qr ?_ | refine qs ?_ | refine hw5.l 0 ?_)
  refine Bc_dec (fun h => J2 true (fun _ => by omega)) (fun _ => ?_)
  (repeat with_reducible first | refine qq ?_ | refine qr ?_ | refine qs ?_ | refine hw5.l 0 ?_)
  refine Bc_dec (fun h => J2 true (fun _ => by omega)) (fun _ => ?_)
  (repeat with_reducible first | refine qq ?_ | refine qr ?_ | refine qs ?_ | refine hw5.l 0 ?_)
  refine Bc_dec (fun h => J2 true (fun _ => by omega)) (fun _ => ?_)
  (repeat with_reducible first | refine qq ?_ | refine qr ?_ | refine qs ?_ | refine hw5.l 0 ?_)
  refine J2 _ (fun h => ?_)
  simp only [decide_eq_true_eq] at h
  omega
end
end Go.Proofs.Ytedcfkigfcobaaa
end
/- Contracts: a thread makes objects. -/
section
namespace Go.Proofs.Ytedcfkigfcobaaa
open Go Go.Proofs
attribute [local irreducible] Bc O AL BS MS MM ST AP CV Cl
section
variable {B : Base} {w : World} {L : List Atom} {p : PP}
theorem set_set_comm {i j : Nat} {a b : Atom} (h : i ≠ j) : (L.set i a).set j b = (L.set j b).set i a := by rw [List.set_comm _ _ h]
/-- a register is written, and on -/
theorem At.write (hM : MayP p) {t : TH} {f : FR} {g : PF} {x : PI} (hA : At p t f g x) (h1 : x.op ≠ 31) (h2 : x.op ≠ 33) (rs : List Int) (hrs : rs.length = f.regs.length) :
    TOK p ⟨t.b, t.fv, t.fs.set (t.fs.length - 1) ⟨f.func, f.at_ + 1, f.rv, rs⟩, t.trap⟩ := hA.ok.set ((hA.fok.withRegs (rs := rs) hrs).step hM hA.code h1 h2)
set_option maxHeartbeats 2000000 in
theorem k84 (hP : ProgOK B p) (hM : MayP p) {t : TH} {f : FR} {g : PF} {x : PI} (hA : At p t f g x) {h : HS} (hok : HOK h) (hw : Own B w L) (i ih : Nat) (hi : L[i]? = some (threadA p t)) (hih : L[ih]? = some (heapA h)) (hne : i ≠ ih) (task : Int) :
    Cl Try.prog 84 [pp t.b, pp h.b, .agg (encPI x).toArray, f.rv, .int .i64 task] w fun v w' => ∃ (c : Bool) (e : Int), v = .tuple #[.bool c, .int .i64 e] ∧ ∃ t' h', t'.b = t.b ∧ h'.b = h.b ∧ TOK p t' ∧ HOK h' ∧ (c = false → t' = t) ∧ Own B w' ((L.set i (threadA p t')).set ih (heapA h')) := by
  obtain ⟨R, hR⟩ : ∃ R : Value → World → Prop, R = fun v w' => ∃ (c : Bool) (e : Int), v = .tuple #[.bool c, .int .i64 e] ∧ ∃ t' h', t'.b = t.b ∧ h'.b = h.b ∧ TOK p t' ∧ HOK h' ∧ (c = false → t' = t) ∧ Own B w' ((L.set i (threadA p t')).set ih (heapA h')) := ⟨_, rfl⟩
  rw [← hR]
  have hlt := hA.lt
  have hlen := hA.ok.len
  have hat := hA.at hM
  refine s84 ?_
  unfold c84
  refine hw.al fun b7 w1 hb7 hw1 => ?_
  clear hw
  replace hw1 : Own B w1 (bk b7 79 (encPI x) :: L) := hw1
  have J0 : ∀ (id e : Int) h' w', x.op = 11 ∨ x.op = 14 ∨ x.op = 17 ∨ x.op = 21 → h'.b = h.b → HOK h' → Own B w' (bk b7 79 (encPI x) :: L.set ih (heapA h')) → j84_0 R (pp b7) f.rv (pp t.b) (.int .i64 id) (.int .i64 e) w' := by
    intro id e h' w' hop hb hok' hw'
    have hi' : (L.set ih (heapA h'))[i]? = some (threadA p t) := set_miss (Ne.symm hne) hi
    unfold j84_0
    (repeat with_reducible first | refine qq ?_ | refine qr ?_ | refine qs ?_)
    refine Bc_dec (fun _ => ?_) (fun _ => ?_)
    · rw [hR]
      refine ⟨true, 11, rfl, t, h', rfl, hb, hA.ok, hok', fun h => (by cases h), ?_⟩
      rw [set_same hi]; exact hw'.tail
    have hr := hA.reg hM 0 (by unfold namedN; (repeat' split) <;> omega)
    obtain ⟨b, y, hy, hix, _⟩ := hw'.reg (i + 1) hi' hA.get hr.1 hr.2
    (repeat with_reducible first | refine qq ?_ | refine qr ?_ | refine qs ?_ | refine hw'.l 0 ?_)
    refine O.mk hix ?_
    refine hw'.regst (i + 1) hi' hA.get hr.1 hr.2 hix id tsz2 fun w2 hw2 => ?_
    rw [List.set_cons_succ] at hw2
    refine (k88 hw2 (i + 1) (set_hit (L := L.set ih (heapA h')) hi') (f := ⟨f.func, f.at_, f.rv, f.regs.set (regN x 0).toNat id⟩) (k := t.fs.length - 1) (by simp only; rw [List.getElem?_set_self hlt]) (by simp only [List.length_set]; omega) hat (a := 0) (by simp only [List.length_set]; omega)).use ?_
    rintro _ w3 ⟨rfl, hw3⟩
    rw [List.set_cons_succ, List.set_set] at hw3
    simp only [List.set_set] at hw3
    rw [hR]
    refine ⟨true, 0, rfl, ⟨t.b, t.fv, t.fs.set (t.fs.length - 1) ⟨f.func, f.at_ + 1, f.rv, f.regs.set (regN x 0).toNat id⟩, t.trap⟩, h', rfl, hb, hA.write hM (by omega) (by omega) _ (by simp), hok', fun h => (by cases h), ?_⟩
    rw [set_set_comm hne]; exact hw3.tail
  have hih1 : (bk b7 79 (encPI x) :: L)[ih + 1]? = some (heapA h) := by rw [List.getElem?_cons_succ]; exact hih
  have J0' : ∀ (v : Value) w', x.op = 11 ∨ x.op = 14 ∨ x.op = 17 ∨ x.op = 21 → ((∃ a e : Int, v = .tuple #[.int .i64 a, .int .i64 e]) ∧ ∃ h', h'.b = h.b ∧ HOK h' ∧ Own B w' ((bk b7 79 (encPI x) :: L).set (ih + 1) (heapA h'))) →
      O (exv v 0) fun t1 => O (exv v 1) fun t2 => j84_0 R (pp b7) f.rv (pp t.b) t1 t2 w' := by
    rintro _ w' hop ⟨⟨a, e, rfl⟩, h', hb, hok', hw'⟩
    refine O.mk (v := .int .i64 a) rfl ?_
    refine O.mk (v := .int .i64 e) rfl ?_
    exact J0 a e h' w' hop hb hok' hw'
  have hsame : ∀ c (e : Int) w', (c = false ∨ c = true) → Own B w' (bk b7 79 (encPI x) :: L) → R (.tuple #[.bool c, .int .i64 e]) w' := fun c e w' _ h1 => by
    rw [hR]; exact ⟨c, e, rfl, t, h, rfl, rfl, hA.ok, hok, fun _ => rfl, by rw [set_same hi, set_same hih]; exact h1.tail⟩
  have hV := hA.valid hM
  (repeat with_reducible first | refine qq ?_ | refine qr ?_ | refine qs ?_ | refine hw1.l 0 ?_)
  refine Bc_dec (fun h1 => ?_) (fun h1 => ?_)
  · (repeat with_reducible first | refine qq ?_ | refine qr ?_ | refine qs ?_ | refine hw1.l 0 ?_)
    refine (k96 hw1 (ih + 1) hih1 hok 3 x.n 1 x.site task).use ?_
    exact fun v w' hh => J0' v w' (by omega) hh
  (repeat with_reducible first | refine qq ?_ | refine qr ?_ | refine qs ?_)
  refine Bc_dec (fun h2 => ?_) (fun h2 => ?_)
  · refine hw1.dr fun w2 hw2 => ?_
    clear hw1
    have hcl := hV.cls h2
    obtain ⟨c, hc⟩ := list_get (l := p.classes) (j := x.n.toNat) (by omega)
    obtain ⟨bc, oc, hixc, hrdc, _⟩ := hP.cl.at_ (by omega) encPC_len hc
    have hi0 : (bk b7 79 (encPI x) :: L)[i + 1]? = some (threadA p t) := by rw [List.getElem?_cons_succ]; exact hi
    have hw3 := hw2.opn (i + 1) hi0
    (repeat with_reducible first | refine qq ?_ | refine qr ?_ | refine qs ?_ | refine hw2.l 0 ?_)
    (repeat with_reducible first | refine qq ?_ | refine qr ?_ | refine qs ?_ | refine hw3.l 0 ?_)
    (repeat with_reducible first | refine qq ?_ | refine qr ?_ | refine qs ?_ | refine hw2.l 0 ?_)
    refine O.mk (hixc _ _ hcl.1 rfl) ?_
    (repeat with_reducible first | refine qq ?_ | refine qr ?_ | refine qs ?_)
    refine O.mk (hrdc _ _ hw2 2 _ rfl) ?_
    refine O.mk (lens_eq hP hc).1 ?_
    (repeat with_reducible first | refine qq ?_ | refine qr ?_ | refine qs ?_ | refine hw2.l 0 ?_)
    refine (k96 hw2 (ih + 1) hih1 hok 1 x.n c.nf x.site task).use ?_
    exact fun v w' hh => J0' v w' (by omega) hh
  (repeat with_reducible first | refine qq ?_ | refine qr ?_ | refine qs ?_)
  refine Bc_dec (fun h3 => ?_) (fun h3 => ?_)
  · have hr := hA.reg hM 1 (by rw [h3]; decide)
    have J1 : ∀ c, j84_1 R (pp t.b) (pp b7) f.rv (pp h.b) (.int .i64 task) (.bool c) w1 := by
      intro c
      unfold j84_1
      refine Bc_b (fun _ => ?_) (fun _ => ?_)
      · have hw2 := hw1.fout (i + 1) hi hA.get
        (repeat with_reducible first | refine qq ?_ | refine qr ?_ | refine qs ?_ | refine hw2.l 2 ?_)
        refine hw2.st1 2 rfl (by kernel_rfl) rfl (Nat.lt_succ_self 9) fun w3 hw3 => ?_
        have hw4 := Own.fin (L := bk b7 79 (encPI x) :: L) (i := i + 1) (t := t) (fv := t.fv) (tr := 3) hi hlt (f' := f) (by
          rw [List.length_set, flat_set_same (x := f) rfl hA.get]
          exact hw3)
        rw [List.set_cons_succ] at hw4
        rw [hR]
        refine ⟨true, 0, rfl, ⟨t.b, t.fv, t.fs.set (t.fs.length - 1) f, 3⟩, h, rfl, rfl, hA.ok.set hA.fok, hok, fun h => (by cases h), ?_⟩
        rw [set_set_comm hne, set_same hih]; exact hw4.tail
      · refine hw1.dr fun w2 hw2 => ?_
        obtain ⟨b, y, hy, hix, hrd⟩ := hw2.reg (i + 1) hi hA.get hr.1 hr.2
        (repeat with_reducible first | refine qq ?_ | refine qr ?_ | refine qs ?_ | refine hw2.l 0 ?_)
        refine O.mk hix ?_
        refine O.mk hrd ?_
        (repeat with_reducible first | refine qq ?_ | refine qr ?_ | refine qs ?_ | refine hw2.l 0 ?_)
        refine (k96 hw2 (ih + 1) hih1 hok 2 0 y x.site task).use ?_
        exact fun v w' hh => J0' v w' (by omega) hh
    obtain ⟨b, y, hy, hix, hrd⟩ := hw1.reg (i + 1) hi hA.get hr.1 hr.2
    (repeat with_reducible first | refine qq ?_ | refine qr ?_ | refine qs ?_ | refine hw1.l 0 ?_)
    refine O.mk hix ?_
    refine O.mk hrd ?_
    (repeat with_reducible first | refine qq ?_ | refine qr ?_ | refine qs ?_)
    refine Bc_dec (fun _ => J1 true) (fun _ => ?_)
    (repeat with_reducible first | refine qq ?_ | refine qr ?_ | refine qs ?_ | refine hw1.l 0 ?_)
    refine O.mk hix ?_
    refine O.mk hrd ?_
    (repeat with_reducible first | refine qq ?_ | refine qr ?_ | refine qs ?_)
    exact J1 _
  (repeat with_reducible first | refine qq ?_ | refine qr ?_ | refine qs ?_)
  refine Bc_dec (fun h4 => ?_) (fun h4 => hsame false 0 _ (.inl rfl) hw1)
  have hclo := hV.clo h4
  obtain ⟨gf, hgf⟩ := list_get (l := p.funcs) (j := x.n.toNat) (by omega)
  have hll : (x.l.length : Int) ≤ 256 := by
    have h5 := hclo.2.2 gf hgf
    have h6 := func_lt hM hgf
    have := h6.caps; have := h6.regs
    omega
  have hli := hP.li g (List.mem_of_getElem? hA.fok.fg) x (List.mem_of_getElem? hA.code)
  obtain ⟨I0, hI⟩ : ∃ I : Value → Value → World → Prop, I = fun t14 t15 w' => ∃ cs : List Int, t15 = .int .i64 cs.length ∧ cs.length ≤ x.l.length ∧ Own B w' (sl 2 1 t14 cs.length (ints cs) :: bk b7 79 (encPI x) :: L) := ⟨_, rfl⟩
  obtain ⟨m0, hm⟩ : ∃ m : Value → Value → World → Nat, m = fun _ t _ => match t with | .int _ i => (x.l.length - i).toNat | _ => 0 := ⟨_, rfl⟩
  refine ⟨I0, m0, by rw [hI]; exact ⟨[], rfl, by simp, hw1.nilSl 2 1⟩, ?_⟩
  clear hw1
  intro t14 t15 wh0 h0
  rw [hI] at h0
  obtain ⟨cs, rfl, hcs, hw1⟩ := h0
  (repeat with_reducible first | refine qq ?_ | refine qr ?_ | refine qs ?_ | refine hw1.l 1 ?_)
  refine O.mk hli.len ?_
  (repeat with_reducible first | refine qq ?_ | refine qr ?_ | refine qs ?_)
  refine Bc_dec (fun hlt' => ?_) (fun hge => ?_)
  · obtain ⟨y, hy⟩ := list_get (l := x.l) (j := cs.length) (by omega)
    obtain ⟨b, o, hix, hrd, _⟩ := hli.at_ (by omega) enc1_len hy
    have hyr := hV.list _ _ hy
    have hfr := hA.fok.regs
    obtain ⟨b2, z, hz, hixz, hrdz⟩ := hw1.reg (i + 2) hi hA.get (r := y) hyr.2.1 (by omega)
    (repeat with_reducible first | refine qq ?_ | refine qr ?_ | refine qs ?_ | refine hw1.l 1 ?_)
    refine O.mk (hix _ _ (by omega) (by omega)) ?_
    refine O.mk (v := .int .i64 y) (by have := hrd _ _ hw1 0 _ rfl; simpa using this) ?_
    refine O.mk hixz ?_
    refine O.mk hrdz ?_
    refine hw1.app (xs := [.int .i64 z]) T42 ⟨_, T42.under⟩ 0 rfl (by decide) rfl rfl rfl (by omega) fun v' w3 hw3 => ?_
    replace hw3 : Own B w3 (sl 2 1 v' (cs.length + 1) (ints cs ++ ints [z]) :: bk b7 79 (encPI x) :: L) := hw3
    have e1 : ints cs ++ ints [z] = ints (cs ++ [z]) := by simp [ints]
    rw [e1] at hw3
    (repeat with_reducible first | refine qq ?_ | refine qr ?_ | refine qs ?_)
    rw [hI, hm]
    exact ⟨⟨cs ++ [z], by simp, by simp; omega, by simpa using hw3⟩, by simp only; omega⟩
  · (repeat with_reducible first | refine qq ?_ | refine qr ?_ | refine qs ?_ | refine hw1.l 1 ?_)
    refine (k97 hw1 (ih + 2) hih hok x.n x.site task 0 rfl (by omega)).use ?_
    rintro v w' ⟨hv, h', hb, hok', hw'⟩
    exact J0' v w' (by omega) ⟨hv, h', hb, hok', by have := hw'.drop 0; exact this⟩
end
end Go.Proofs.Ytedcfkigfcobaaa
end
/- Contracts: a thread reads, writes a value; it calls. -/
section
namespace Go.Proofs.Ytedcfkigfcobaaa
open Go Go.Proofs
attribute [local irreducible] Bc O AL BS MS MM ST AP CV Cl
structure AC where
  site : Int
  kind : Int
  a : Int
  b : Int
  write : Bool
def encAC (a : AC) : List Value := [.int .i64 a.site, .int .i64 a.kind, .int .i64 a.a, .int .i64 a.b, .bool a.write]
theorem encAC_len (a : AC) : (encAC a).length = 5 := rfl
theorem encAC_one (a : AC) : (encAC a).all one = true := rfl
theorem fill63 (a b c : Int) : (fillW Try.prog 63 [(0, .int .i64 a), (1, .int .i64 b), (2, .int .i64 c)]).map Value.agg = some (.agg #[.int .i64 a, .int .i64 b, .int .i64 c]) := by kernel_rfl
theorem fill65 (s a b c : Int) (wr : Bool) : (fillW Try.prog 65 [(0, .int .i64 s), (1, .agg #[.int .i64 a, .int .i64 b, .int .i64 c]), (2, .bool wr)]).map Value.agg = some (.agg (encAC ⟨s, a, b, c, wr⟩).toArray) := by kernel_rfl
theorem tsz71 : tsz Try.prog 71 = some 1 := by kernel_rfl
theorem tsz154 : tsz Try.prog 154 = some 1 := by kernel_rfl
section
variable {B : Base} {w : World} {L : List Atom} {p : PP}
/-- a thread's trap is set -/
theorem Own.trap {t : TH} (hw : Own B w L) (i : Nat) (hi : L[i]? = some (threadA p t)) (n : Int) {K : Value → World → Prop} (hk : ∀ w', Own B w' (L.set i (threadA p ⟨t.b, t.fv, t.fs, n⟩)) → K undef w') :
    O (nC (pp t.b)) fun a => O (fA 9 a) fun b => ST Try.prog 71 b (.int .i64 n) w K := by
  have hw2 := hw.opn i hi
  (repeat with_reducible first | refine qq ?_ | refine qr ?_ | refine qs ?_)
  refine hw2.st1 0 rfl tsz71 rfl (Nat.lt_succ_self 9) fun w3 hw3 => hk w3 ?_
  exact Own.shut (A := TH.parts p ⟨t.b, t.fv, t.fs, n⟩) hi hw3
theorem TOK.trap {t : TH} (h : TOK p t) (n : Int) : TOK p ⟨t.b, t.fv, t.fs, n⟩ := ⟨h.len, h.fr⟩
set_option maxHeartbeats 2000000 in
theorem k85 (hM : MayP p) {t : TH} {f : FR} {g : PF} {x : PI} (hA : At p t f g x) (hop : 12 ≤ x.op ∧ x.op ≤ 19 ∧ x.op ≠ 17 ∧ x.op ≠ 14) {h : HS} (hok : HOK h) (hw : Own B w L) (i ih : Nat) (hi : L[i]? = some (threadA p t)) (hih : L[ih]? = some (heapA h)) (hne : i ≠ ih) (kind loc id j : Int) (wr : Bool) (n : Int) :
    Cl Try.prog 85 [pp t.b, pp h.b, .agg (encPI x).toArray, .int .i64 kind, .int .i64 loc, .int .i64 id, .int .i64 j, .bool wr, .int .i64 n, f.rv] w fun v w' => ∃ (accs : List AC) (t' : TH) (h' : HS), accs.length ≤ 1 ∧ t'.b = t.b ∧ h'.b = h.b ∧ TOK p t' ∧ HOK h' ∧
      Own B w' (sl 65 5 v accs.length (accs.flatMap encAC) :: (L.set i (threadA p t')).set ih (heapA h')) := by
  obtain ⟨R, hR⟩ : ∃ R : Value → World → Prop, R = fun v w' => ∃ (accs : List AC) (t' : TH) (h' : HS), accs.length ≤ 1 ∧ t'.b = t.b ∧ h'.b = h.b ∧ TOK p t' ∧ HOK h' ∧ Own B w' (sl 65 5 v accs.length (accs.flatMap encAC) :: (L.set i (threadA p t')).set ih (heapA h')) := ⟨_, rfl⟩
  rw [← hR]
  have hlt := hA.lt
  have hlen := hA.ok.len
  have hat := hA.at hM
  refine s85 ?_
  unfold c85
  refine hw.al fun b12 w1 hb12 hw1 => ?_
  clear hw
  replace hw1 : Own B w1 (bk b12 79 (encPI x) :: L) := hw1
  have htrap : ∀ n w', Own B w' (bk b12 79 (encPI x) :: L.set i (threadA p ⟨t.b, t.fv, t.fs, n⟩)) → R (.slice none 0 0) w' := fun n w' h' => by
    rw [hR]
    refine ⟨[], ⟨t.b, t.fv, t.fs, n⟩, h, by simp, rfl, rfl, hA.ok.trap n, hok, ?_⟩
    rw [set_set_comm hne, set_same hih]
    exact h'.tail.nilSl 65 5
  have hi1 : ∀ A : Atom, (A :: L)[i + 1]? = some (threadA p t) := fun A => by rw [List.getElem?_cons_succ]; exact hi
  have hih1 : ∀ A : Atom, (A :: L)[ih + 1]? = some (heapA h) := fun A => by rw [List.getElem?_cons_succ]; exact hih
  have J1 : ∀ h' rs w', h'.b = h.b → HOK h' → rs.length = f.regs.length → Own B w' (bk b12 79 (encPI x) :: (L.set ih (heapA h')).set i (threadA p ⟨t.b, t.fv, t.fs.set (t.fs.length - 1) ⟨f.func, f.at_, f.rv, rs⟩, t.trap⟩)) →
      j85_1 R (pp t.b) (pp b12) (.int .i64 loc) (.int .i64 id) (.int .i64 j) (.bool wr) w' := by
    intro h' rs w' hb hok' hrs hw'
    have hi' : (L.set ih (heapA h'))[i]? = some (threadA p t) := set_miss (Ne.symm hne) hi
    unfold j85_1
    refine (k88 hw' (i + 1) (set_hit (L := L.set ih (heapA h')) hi') (f := ⟨f.func, f.at_, f.rv, rs⟩) (k := t.fs.length - 1) (by simp only; rw [List.getElem?_set_self hlt]) (by simp only [List.length_set]; omega) hat (a := 0) (by simp only [List.length_set]; omega)).use ?_
    rintro _ w3 ⟨rfl, hw3⟩
    rw [List.set_cons_succ, List.set_set] at hw3
    simp only [List.set_set] at hw3
    (repeat with_reducible first | refine qq ?_ | refine qr ?_ | refine qs ?_ | refine hw3.l 0 ?_)
    refine O.mk (fill63 _ _ _) ?_
    refine O.mk (fill65 _ _ _ _ _) ?_
    refine hw3.bs (bsx_one (sz := 5) (x := (encAC ⟨x.site, loc, id, j, wr⟩).toArray) (by decide) (by decide) rfl rfl rfl) fun b2 w4 hb2 hw4 => ?_
    rw [hR]
    refine ⟨[⟨x.site, loc, id, j, wr⟩], ⟨t.b, t.fv, t.fs.set (t.fs.length - 1) ⟨f.func, f.at_ + 1, f.rv, rs⟩, t.trap⟩, h', by simp, rfl, hb, hA.write hM (by omega) (by omega) rs hrs, hok', ?_⟩
    rw [set_set_comm hne]
    have := (hw4.imp (i := 0) rfl (bk_sl (sz := 5) (n := 1) rfl)).drop 1
    exact this
  have hsetf : t.fs.set (t.fs.length - 1) ⟨f.func, f.at_, f.rv, f.regs⟩ = t.fs := by
    have := hA.get
    rw [List.getElem?_eq_getElem hlt] at this
    simp only [Option.some.injEq] at this
    rw [← this]; exact List.set_getElem_self hlt
  have J0 : ∀ c, (c = false → 0 ≤ j ∧ j < lenB h.os id) → j85_0 R (pp t.b) (.int .i64 kind) (.bool wr) (pp h.b) (.int .i64 id) (.int .i64 j) (.int .i64 n) (pp b12) (.int .i64 loc) f.rv (.bool c) w1 := by
    intro c hc
    unfold j85_0
    refine Bc_b (fun _ => ?_) (fun hh => ?_)
    · refine hw1.trap (i + 1) (hi1 _) 1 fun w2 hw2 => ?_
      rw [List.set_cons_succ] at hw2
      (repeat with_reducible first | refine qq ?_ | refine qr ?_ | refine qs ?_)
      refine Bc_dec (fun _ => ?_) (fun _ => htrap 1 w2 hw2)
      refine hw2.trap (t := ⟨t.b, t.fv, t.fs, 1⟩) (i + 1) (set_hit (L := L) hi) 2 fun w3 hw3 => ?_
      rw [List.set_cons_succ, List.set_set] at hw3
      exact htrap 2 w3 hw3
    · refine Bc_b (fun _ => ?_) (fun hwr => ?_)
      · refine (k98 hw1 (ih + 1) (hih1 _) hok id j n).use ?_
        rintro _ w2 ⟨⟨e, rfl⟩, h', hb, hok', hw2⟩
        rw [List.set_cons_succ] at hw2
        refine J1 h' f.regs w2 hb hok' rfl ?_
        rw [hsetf, show (⟨t.b, t.fv, t.fs, t.trap⟩ : TH) = t from rfl, set_same (set_miss (Ne.symm hne) hi)]
        exact hw2
      · refine hw1.dr fun w2 hw2 => ?_
        clear hw1
        have hr := hA.reg hM 0 (by unfold namedN; (repeat' split) <;> omega)
        obtain ⟨b, y, hy, hix, _⟩ := hw2.reg (i + 1) (hi1 _) hA.get hr.1 hr.2
        have hfin : ∀ v w', (∃ y e : Int, v = .tuple #[.int .i64 y, .int .i64 e]) → w' = w2 → O (exv v 0) fun t60 => O (exv v 1) fun _ => O (iS 1 f.rv (.int .i64 x.a)) fun t62 => ST Try.prog 2 t62 t60 w' fun _ w => j85_1 R (pp t.b) (pp b12) (.int .i64 loc) (.int .i64 id) (.int .i64 j) (.bool wr) w := by
          rintro _ _ ⟨y, e, rfl⟩ rfl
          refine O.mk (v := .int .i64 y) rfl ?_
          refine O.mk (v := .int .i64 e) rfl ?_
          refine O.mk hix ?_
          refine hw2.regst (i + 1) (hi1 _) hA.get hr.1 hr.2 hix y tsz2 fun w3 hw3 => ?_
          rw [List.set_cons_succ] at hw3
          refine J1 h (f.regs.set (regN x 0).toNat y) w3 rfl hok (by simp) ?_
          rw [set_same hih]; exact hw3
        (repeat with_reducible first | refine qq ?_ | refine qr ?_ | refine qs ?_)
        refine ⟨?_, ?_⟩
        · (repeat with_reducible first | refine qq ?_ | refine qr ?_ | refine qs ?_ | refine hw2.l 0 ?_)
          refine (k99 hw2 (ih + 1) (hih1 _) hok id j).use ?_
          rintro v w' ⟨hv, hw'⟩
          exact hfin v w' hv hw'
        · refine (k99 hw2 (ih + 1) (hih1 _) hok id j).use ?_
          rintro v w' ⟨hv, rfl⟩
          (repeat with_reducible first | refine qq ?_ | refine qr ?_ | refine qs ?_ | refine hw2.l 0 ?_)
          exact hfin v _ hv rfl
  refine (k86' hw1 (ih + 1) (hih1 _) hok id kind).use ?_
  rintro _ _ ⟨rfl, rfl⟩
  (repeat with_reducible first | refine qq ?_ | refine qr ?_ | refine qs ?_)
  refine Bc_b (fun _ => ?_) (fun _ => ?_)
  · refine hw1.trap (i + 1) (hi1 _) 1 fun w2 hw2 => ?_
    rw [List.set_cons_succ] at hw2
    exact htrap 1 w2 hw2
  (repeat with_reducible first | refine qq ?_ | refine qr ?_ | refine qs ?_)
  refine Bc_dec (fun _ => J0 true (fun h => by cases h)) (fun h0 => ?_)
  refine (k87 hw1 (ih + 1) (hih1 _) hok id).use ?_
  rintro _ _ ⟨rfl, rfl⟩
  (repeat with_reducible first | refine qq ?_ | refine qr ?_ | refine qs ?_)
  refine J0 _ (fun h2 => ?_)
  simp only [decide_eq_false_iff_not] at h2
  omega
end
end Go.Proofs.Ytedcfkigfcobaaa
end
/- Contracts: a thread calls. -/
section
namespace Go.Proofs.Ytedcfkigfcobaaa
open Go Go.Proofs
attribute [local irreducible] Bc O AL BS MS MM ST AP CV Cl
section
variable {B : Base} {w : World} {L : List Atom} {p : PP}
theorem Own.hout {h : HS} (hw : Own B w L) (i : Nat) (hi : L[i]? = some (heapA h)) {k : Nat} {o : HO} (ho : h.os[k]? = some o) :
    Own B w (hoA o :: sep ((h.os.eraseIdx k).map hoA) :: bk h.b 92 [h.v] :: sl 195 6 h.v h.os.length (h.os.flatMap encHO) :: L.eraseIdx i) := by
  have h1 := hw.opn i hi
  exact h1.out (i := 2) rfl ho
theorem Own.hin {h : HS} {i : Nat} (hi : L[i]? = some (heapA h)) {k : Nat} {o : HO} (ho : h.os[k]? = some o)
    (hw : Own B w (hoA o :: sep ((h.os.eraseIdx k).map hoA) :: bk h.b 92 [h.v] :: sl 195 6 h.v h.os.length (h.os.flatMap encHO) :: L.eraseIdx i)) : Own B w L := by
  have h1 := hw.back (list_lt ho)
  rw [map_set_same (x := o) (x' := o) rfl ho] at h1
  have h2 : Own B w ([bk h.b 92 [h.v], sl 195 6 h.v h.os.length (h.os.flatMap encHO), sep (h.os.map hoA)] ++ L.eraseIdx i) := h1.perm ((List.Perm.swap _ _ _).trans (List.Perm.cons _ (List.Perm.swap _ _ _)))
  have := Own.shut hi h2
  rwa [show sep [bk h.b 92 [h.v], sl 195 6 h.v h.os.length (h.os.flatMap encHO), sep (h.os.map hoA)] = heapA h from rfl, set_same hi] at this
theorem TOK.push {t : TH} (h : TOK p t) {f' : FR} {g : PF} (hf : FrOK p f' g) (hl : t.fs.length < 32) {v : Value} {tr : Int} : TOK p ⟨t.b, v, t.fs ++ [f'], tr⟩ := by
  refine ⟨by simp; omega, fun i f hi => ?_⟩
  simp only at hi
  rw [List.getElem?_append] at hi
  split at hi
  · exact h.fr i f hi
  · have : i - t.fs.length = 0 := by have := list_lt hi; simp at this; omega
    rw [this] at hi
    simp only [List.getElem?_cons_zero, Option.some.injEq] at hi
    subst hi
    exact ⟨g, hf⟩
set_option maxHeartbeats 2000000 in
theorem k89 (hP : ProgOK B p) (hM : MayP p) {t : TH} {f : FR} {g : PF} {x : PI} (hA : At p t f g x) (hop : x.op = 22) {h : HS} (hok : HOK h) (hw : Own B w L) (i ih : Nat) (hi : L[i]? = some (threadA p t)) (hih : L[ih]? = some (heapA h)) (id : Int) :
    Cl Try.prog 89 [pp t.b, pp h.b, .int .i64 id] w fun v w' => v = .tuple #[] ∧ ∃ (t' : TH), t'.b = t.b ∧ TOK p t' ∧ Own B w' (L.set i (threadA p t')) := by
  obtain ⟨R, hR⟩ : ∃ R : Value → World → Prop, R = fun v w' => v = .tuple #[] ∧ ∃ (t' : TH), t'.b = t.b ∧ TOK p t' ∧ Own B w' (L.set i (threadA p t')) := ⟨_, rfl⟩
  rw [← hR]
  have hlt := hA.lt
  have hlen := hA.ok.len
  have hat := hA.at hM
  have hol := hok.len
  refine s89 ?_
  unfold c89
  refine hw.dr fun w1 hw1 => ?_
  clear hw
  have htrap : ∀ n w', Own B w' (L.set i (threadA p ⟨t.b, t.fv, t.fs, n⟩)) → R (.tuple #[]) w' := fun n w' h' => by
    rw [hR]; exact ⟨rfl, ⟨t.b, t.fv, t.fs, n⟩, rfl, hA.ok.trap n, h'⟩
  have J0 : ∀ c, (c = false → (1 ≤ id ∧ id ≤ h.os.length) ∧ ∀ o gf, h.os[(id - 1).toNat]? = some o → 0 ≤ o.of ∧ o.of < p.funcs.length ∧ (p.funcs[o.of.toNat]? = some gf → (o.vals.length : Int) = gf.caps)) → j89_0 R (pp t.b) (pp h.b) (.int .i64 id) (.bool c) w1 := by
    intro c hc
    unfold j89_0
    refine Bc_b (fun _ => hw1.trap i hi 1 fun w2 hw2 => htrap 1 w2 hw2) (fun hh => ?_)
    obtain ⟨hid, hc'⟩ := hc hh
    have hwt := hw1.opn i hi
    (repeat with_reducible first | refine qq ?_ | refine qr ?_ | refine qs ?_ | refine hwt.l 0 ?_)
    refine O.mk (hwt.slLen 1 rfl) ?_
    (repeat with_reducible first | refine qq ?_ | refine qr ?_ | refine qs ?_)
    refine Bc_dec (fun _ => hw1.trap i hi 4 fun w2 hw2 => htrap 4 w2 hw2) (fun hlt32 => ?_)
    clear hwt
    refine hw1.dr fun w2 hw2 => ?_
    clear hw1 htrap
    obtain ⟨o, ho⟩ := list_get (l := h.os) (j := (id - 1).toNat) (by omega)
    obtain ⟨gf, hgf⟩ := list_get (l := p.funcs) (j := o.of.toNat) (by have := (hc' o g ho); omega)
    have hof := hc' o gf ho
    have hcaps := hof.2.2 hgf
    have hG := func_lt hM hgf
    have hwt := hw2.opn i hi
    have hwh := hw2.opn ih hih
    obtain ⟨b1, hix1, hrd1, _⟩ := hwh.el 1 rfl encHO_len ho
    (repeat with_reducible first | refine qq ?_ | refine qr ?_ | refine qs ?_ | refine hwt.l 0 ?_)
    refine O.mk (v := progV p) (hwt.rdN_bk 0 rfl (by show 0 + 8 ≤ 10; decide)) ?_
    (repeat with_reducible first | refine qq ?_ | refine qr ?_ | refine qs ?_ | refine hwh.l 0 ?_)
    refine O.mk (hix1 _ _ (by omega) rfl) ?_
    (repeat with_reducible first | refine qq ?_ | refine qr ?_ | refine qs ?_)
    refine O.mk (hrd1 1 _ rfl) ?_
    (repeat with_reducible first | refine qq ?_ | refine qr ?_ | refine qs ?_ | refine hwh.l 0 ?_)
    refine O.mk (hix1 _ _ (by omega) rfl) ?_
    (repeat with_reducible first | refine qq ?_ | refine qr ?_ | refine qs ?_)
    refine O.mk (hrd1 2 _ rfl) ?_
    clear hwt hwh hrd1
    have hcall : ∀ K : Value → World → Prop, (∀ rv regs w3, (regs.length : Int) = gf.regs → Own B w3 (frA ⟨o.of, 0, rv, regs⟩ :: L) → K (.agg (encFR ⟨o.of, 0, rv, regs⟩).toArray) w3) → Cl Try.prog 64 [progV p, .int .i64 o.of, o.vv] w2 K := by
      intro K hK
      have hwo := hw2.hout ih hih ho
      refine (k64 hP hM hof.1 hgf hwo 0 rfl (by have := hG.caps; omega)).use ?_
      rintro _ w3 ⟨rv, regs, rfl, hrl, hw3⟩
      refine hK rv regs w3 hrl ?_
      refine Own.hin (L := frA ⟨o.of, 0, rv, regs⟩ :: L) (i := ih + 1) (by rw [List.getElem?_cons_succ]; exact hih) ho ?_
      rw [List.eraseIdx_cons_succ]
      refine hw3.perm ?_
      exact (List.perm_append_comm (l₁ := [frA ⟨o.of, 0, rv, regs⟩]) (l₂ := [hoA o, sep ((h.os.eraseIdx (id - 1).toNat).map hoA), bk h.b 92 [h.v], sl 195 6 h.v h.os.length (h.os.flatMap encHO)])).append_right (L.eraseIdx ih)
    have hend : ∀ rv regs w3, (regs.length : Int) = gf.regs → Own B w3 (frA ⟨o.of, 0, rv, regs⟩ :: L) →
        BS 152 3 1 (.agg #[.int .i64 0, .int .i64 0, .slice none 0 0]) [(0, .agg (encFR ⟨o.of, 0, rv, regs⟩).toArray)] w3 fun t99 w => AP Try.prog #[154, 154] 154 [t.fv, t99] w fun t100 w => O (nC (pp t.b)) fun t101 => O (fA 8 t101) fun t102 => ST Try.prog 154 t102 t100 w fun _ w => j89_1 R (pp t.b) w := by
      intro rv regs w3 hrl hw3
      have hone := sl_one hw3 0 rfl
      have hw4 := hw3.opn (i + 1) (by rw [List.getElem?_cons_succ]; exact hi)
      rw [List.eraseIdx_cons_succ] at hw4
      clear hw3
      refine hw4.app (xs := encFR ⟨o.of, 0, rv, regs⟩) T154 ⟨_, T154.under⟩ 1 rfl (by decide) rfl rfl (encFR_one hone) (by omega) fun v' w5 hw5 => ?_
      replace hw5 : Own B w5 (bk t.b 156 (pcells p ++ [t.fv, .int .i64 t.trap]) :: sl 152 3 v' (t.fs.length + 1) (t.fs.flatMap encFR ++ encFR ⟨o.of, 0, rv, regs⟩) :: sep (t.fs.map frA) :: frA ⟨o.of, 0, rv, regs⟩ :: L.eraseIdx i) := hw5
      rw [flat_app] at hw5
      (repeat with_reducible first | refine qq ?_ | refine qr ?_ | refine qs ?_)
      refine hw5.st1 0 rfl tsz154 (sl_one hw5 1 rfl) (by show 0 + 8 < 10; decide) fun w6 hw6 => ?_
      replace hw6 : Own B w6 (bk t.b 156 (pcells p ++ [v', .int .i64 t.trap]) :: sl 152 3 v' (t.fs.length + 1) ((t.fs ++ [(⟨o.of, 0, rv, regs⟩ : FR)]).flatMap encFR) :: sep (t.fs.map frA) :: frA ⟨o.of, 0, rv, regs⟩ :: L.eraseIdx i) := hw6
      have hw7 : Own B w6 (frA ⟨o.of, 0, rv, regs⟩ :: sep (t.fs.map frA) :: bk t.b 156 (pcells p ++ [v', .int .i64 t.trap]) :: sl 152 3 v' (t.fs.length + 1) ((t.fs ++ [(⟨o.of, 0, rv, regs⟩ : FR)]).flatMap encFR) :: L.eraseIdx i) :=
        hw6.perm (((List.perm_append_comm (l₁ := [bk t.b 156 (pcells p ++ [v', .int .i64 t.trap]), sl 152 3 v' (t.fs.length + 1) ((t.fs ++ [(⟨o.of, 0, rv, regs⟩ : FR)]).flatMap encFR)]) (l₂ := [sep (t.fs.map frA), frA ⟨o.of, 0, rv, regs⟩])).append_right (L.eraseIdx i)).trans (.swap _ _ _))
      have hw8 := hw7.grow
      have hw9 : Own B w6 (TH.parts p ⟨t.b, v', t.fs ++ [(⟨o.of, 0, rv, regs⟩ : FR)], t.trap⟩ ++ L.eraseIdx i) := by
        show Own B w6 (bk t.b 156 (pcells p ++ [v', .int .i64 t.trap]) :: sl 152 3 v' (t.fs ++ [(⟨o.of, 0, rv, regs⟩ : FR)]).length ((t.fs ++ [(⟨o.of, 0, rv, regs⟩ : FR)]).flatMap encFR) :: sep ((t.fs ++ [(⟨o.of, 0, rv, regs⟩ : FR)]).map frA) :: L.eraseIdx i)
        rw [List.length_append]
        exact hw8.perm ((List.Perm.swap _ _ _).trans (List.Perm.cons _ (List.Perm.swap _ _ _)))
      have hw10 := Own.shut (A := TH.parts p ⟨t.b, v', t.fs ++ [(⟨o.of, 0, rv, regs⟩ : FR)], t.trap⟩) hi hw9
      unfold j89_1
      have hf2 : (t.fs ++ [(⟨o.of, 0, rv, regs⟩ : FR)])[t.fs.length - 1]? = some f := by rw [List.getElem?_append_left hlt]; exact hA.get
      refine (k88 hw10 i (set_hit hi) (k := t.fs.length - 1) (f := f) hf2 (by simp; omega) hat (a := 1) (by simp; omega)).use ?_
      rintro _ w11 ⟨rfl, hw11⟩
      rw [List.set_set] at hw11
      rw [hR]
      refine ⟨rfl, _, ?_, ?_, hw11⟩
      · rfl
      · refine TOK.set (t := ⟨t.b, v', t.fs ++ [(⟨o.of, 0, rv, regs⟩ : FR)], t.trap⟩) (hA.ok.push (g := gf) ⟨hof.1, hgf, hrl, Int.le_refl 0, ?_⟩ (by omega)) (hA.fok.step hM hA.code (by omega) (by omega))
        simp only
        have := hG.len
        omega
    refine ⟨?_, ?_⟩
    · have hwt := hw2.opn i hi
      (repeat with_reducible first | refine qq ?_ | refine qr ?_ | refine qs ?_ | refine hwt.l 0 ?_)
      exact hcall _ hend
    · refine hcall _ fun rv regs w3 hrl hw3 => ?_
      have hwt := hw3.opn (i + 1) (by rw [List.getElem?_cons_succ]; exact hi)
      (repeat with_reducible first | refine qq ?_ | refine qr ?_ | refine qs ?_ | refine hwt.l 0 ?_)
      exact hend rv regs w3 hrl hw3
  refine (k86' hw1 ih hih hok id 4).use ?_
  rintro _ _ ⟨rfl, rfl⟩
  (repeat with_reducible first | refine qq ?_ | refine qr ?_ | refine qs ?_)
  refine Bc_b (fun _ => J0 true (fun h => by cases h)) (fun his => ?_)
  have hid : 1 ≤ id ∧ id ≤ h.os.length := Classical.byContradiction fun hn => by rw [isB_no hn] at his; cases his
  obtain ⟨o, ho⟩ := list_get (l := h.os) (j := (id - 1).toNat) (by omega)
  have hwt := hw1.opn i hi
  have hwh := hw1.opn ih hih
  obtain ⟨b1, hix1, hrd1, _⟩ := hwh.el 1 rfl encHO_len ho
  (repeat with_reducible first | refine qq ?_ | refine qr ?_ | refine qs ?_ | refine hwh.l 0 ?_)
  refine O.mk (hix1 _ _ (by omega) rfl) ?_
  (repeat with_reducible first | refine qq ?_ | refine qr ?_ | refine qs ?_)
  refine O.mk (hrd1 1 _ rfl) ?_
  (repeat with_reducible first | refine qq ?_ | refine qr ?_ | refine qs ?_ | refine hwt.l 0 ?_)
  refine O.mk hP.fn.len ?_
  refine (k34 _ _ _).use ?_
  rintro _ _ ⟨rfl, rfl⟩
  (repeat with_reducible first | refine qq ?_ | refine qr ?_ | refine qs ?_)
  refine Bc_dec (fun _ => J0 true (fun h => by cases h)) (fun hin => ?_)
  have hin : 0 ≤ o.of ∧ o.of < p.funcs.length := by omega
  obtain ⟨gf, hgf⟩ := list_get (l := p.funcs) (j := o.of.toNat) (by omega)
  obtain ⟨bg, og, hixg, hrdg, _⟩ := hP.fn.at_ (by omega) encPF_len hgf
  (repeat with_reducible first | refine qq ?_ | refine qr ?_ | refine qs ?_ | refine hwh.l 0 ?_)
  refine O.mk (hix1 _ _ (by omega) rfl) ?_
  (repeat with_reducible first | refine qq ?_ | refine qr ?_ | refine qs ?_)
  refine O.mk (hrd1 2 _ rfl) ?_
  refine O.mk ((hw1.hout ih hih ho).slLen 0 rfl) ?_
  (repeat with_reducible first | refine qq ?_ | refine qr ?_ | refine qs ?_ | refine hwt.l 0 ?_)
  (repeat with_reducible first | refine qq ?_ | refine qr ?_ | refine qs ?_ | refine hwh.l 0 ?_)
  refine O.mk (hix1 _ _ (by omega) rfl) ?_
  (repeat with_reducible first | refine qq ?_ | refine qr ?_ | refine qs ?_)
  refine O.mk (hrd1 1 _ rfl) ?_
  refine O.mk (hixg _ _ hin.1 rfl) ?_
  (repeat with_reducible first | refine qq ?_ | refine qr ?_ | refine qs ?_)
  refine O.mk (hrdg _ _ hw1 1 _ rfl) ?_
  (repeat with_reducible first | refine qq ?_ | refine qr ?_ | refine qs ?_)
  refine J0 _ (fun hcp => ⟨hid, fun o' gf' ho' => ?_⟩)
  rw [ho] at ho'; cases ho'
  refine ⟨hin.1, hin.2, fun hgf' => ?_⟩
  rw [hgf] at hgf'; cases hgf'
  simpa using hcp
end
end Go.Proofs.Ytedcfkigfcobaaa
end
