/-
  A part of the proof that the statement on the tasks of a machine returns true for every input: no condition is asked beyond those of the theorems below.
-/
import Derived.Test.YtedcfkigfcobaaaB1
import Derived.Scope
import Derived.Test.YtedcfkigfcobaaaProg
import Derived.WalkKit
set_option linter.unusedVariables false
set_option linter.unusedSimpArgs false
set_option linter.unusedSectionVars false
/- 'cw' of whole bodies, and its soundness. -/
section
namespace Go.Proofs.Ytedcfkigfcobaaa
open Go

inductive Plan where
  | leaf
  | ord (A : Anc)
  | tree (A : Anc) (t : RT)
  | held (A : Anc) (l : List Nat) (t : RT)
  | seq (a b : Plan)
  | join (S U : List Nat) (a b : Plan)
  | cond (a b : Plan)
  | block (a : Plan)
  | scope (a : Plan)
  | loop (S U : List Nat) (a : Plan)

def writes : Code → List Nat
  | .region _ ops _ => wrOps ops
  | .seq a b => writes a ++ writes b
  | .cond _ a b => writes a ++ writes b
  | .block _ a => writes a
  | .scope a => writes a
  | .loop a => writes a
  | _ => []
def memN (s : Nat) : List Nat → Bool
  | [] => false
  | t :: l => match Nat.beq t s with | true => true | false => memN s l
theorem memN_iff {s : Nat} {l : List Nat} : memN s l = true ↔ s ∈ l := by
  induction l with
  | nil => simp [memN]
  | cons t l ih =>
    unfold memN
    cases hb : Nat.beq t s with
    | true => simp [Nat.eq_of_beq_eq_true hb]
    | false =>
      have : t ≠ s := fun e => by subst e; simp at hb
      simp [ih, Ne.symm this]
def disjN : List Nat → List Nat → Bool
  | [], _ => true
  | s :: l, W => match memN s W with | true => false | false => disjN l W
def pickE (ρ : Env) : List Nat → Option (List Value)
  | [] => some []
  | s :: S => match lk ρ s, pickE ρ S with
    | some v, some vs => some (vl v :: vs)
    | _, _ => none
def zipE : List Nat → List Value → Env
  | s :: S, v :: vs => (s, some v) :: zipE S vs
  | _, _ => []
def Dr (w : World) (k : World → Prop) : Prop := ∀ w', w' = w.drew → k w'
def CurP : List Nat → Type
  | [] => World → Prop
  | _ :: S => Value → CurP S
def CurN : List Nat → Type
  | [] => World → Nat
  | _ :: S => Value → CurN S
def apP : (S : List Nat) → CurP S → List Value → World → Prop
  | [], f, _, w => f w
  | _ :: S, f, v :: vs, w => apP S (f v) vs w
  | _ :: _, _, [], _ => False
def apN : (S : List Nat) → CurN S → List Value → World → Nat
  | [], f, _, w => f w
  | _ :: S, f, v :: vs, w => apN S (f v) vs w
  | _ :: _, _, [], _ => 0
def allV : List Nat → (List Value → Prop) → Prop
  | [], k => k []
  | _ :: S, k => ∀ v, allV S fun vs => k (v :: vs)
def LoopP (S : List Nat) (step : (List Value → World → Prop) → List Value → World → Prop) (vals : List Value) (w : World) : Prop :=
  ∃ (I : CurP S) (μ : CurN S), apP S I vals w ∧ allV S fun vs => ∀ w, apP S I vs w → step (fun vs' w' => apP S I vs' w' ∧ apN S μ vs' w' < apN S μ vs w) vs w
def thenE (K : Env → World → Prop) (Q : Exit → Env → World → Prop) : Exit → Env → World → Prop
  | .normal, ρ, w => K ρ w
  | e, ρ, w => Q e ρ w
def blockE (id : Nat) (Q : Exit → Env → World → Prop) : Exit → Env → World → Prop
  | .exit id', ρ, w => match Nat.beq id' id with | true => Q .normal ρ w | false => Q (.exit id') ρ w
  | e, ρ, w => Q e ρ w
def scopeE (Q : Exit → Env → World → Prop) : Exit → Env → World → Prop
  | .goto _, _, _ => False
  | e, ρ, w => Q e ρ w
section
variable (P : Program) (n : Nat)
def cw : Plan → Code → (Exit → Env → World → Prop) → Env → World → Prop
  | .leaf, .region _ ops false, Q, ρ, w => match dstsOk n ops with
    | true => eseq P ops (Q .normal) ops.toList ρ w
    | false => False
  | .ord A, .region _ ops true, Q, ρ, w => match dstsOk n ops && regionOk ops A (.chain ops.size 0) with
    | true => Dr w fun w => eseq P ops (Q .normal) ops.toList ρ w
    | false => False
  | .tree A t, .region _ ops true, Q, ρ, w => match dstsOk n ops && regionOk ops A t with
    | true => Dr w fun w => etree P ops (Q .normal) t ρ w
    | false => False
  | .held A l t, .region _ ops true, Q, ρ, w => match dstsOk n ops && heldOk ops A l t with
    | true => Dr w fun w => eheld P ops (Q .normal) t l ρ w
    | false => False
  | .leaf, .label _, Q, ρ, w => Q .normal ρ w
  | .leaf, .exit id, Q, ρ, w => Q (.exit id) ρ w
  | .leaf, .ret, Q, ρ, w => Q .ret ρ w
  | .leaf, .skip, Q, ρ, w => Q .normal ρ w
  | .seq p q, .seq x y, Q, ρ, w => cw p x (thenE (fun ρ' w' => cw q y Q ρ' w') Q) ρ w
  | .join S U p q, .seq x y, Q, ρ, w => match disjN U (writes x) with
    | true => O (pickE ρ U) fun us => cw p x (thenE (fun ρ' w' => O (pickE ρ' S) fun vs => cw q y Q (zipE S vs ++ zipE U us) w') Q) ρ w
    | false => False
  | .cond p q, .cond c x y, Q, ρ, w => match c with
    | .tmp d => match lk ρ d with
      | some (some u) => Bc u (cw p x Q ((d, some (.bool true)) :: ρ) w) (cw q y Q ((d, some (.bool false)) :: ρ) w)
      | _ => False
    | c => Bc (ev ρ c) (cw p x Q ρ w) (cw q y Q ρ w)
  | .block p, .block id x, Q, ρ, w => cw p x (blockE id Q) ρ w
  | .scope p, .scope x, Q, ρ, w => cw p x (scopeE Q) ρ w
  | .loop S U p, .loop x, Q, ρ, w => match disjN U (writes x) with
    | true => O (pickE ρ U) fun us => O (pickE ρ S) fun vs => LoopP S (fun K vs w => cw p x (thenE (fun ρ' w' => O (pickE ρ' S) fun vs' => K vs' w') Q) (zipE S vs ++ zipE U us) w) vs w
    | false => False
  | _, _, _, _, _ => False
end

/-! ## Soundness -/
theorem pick_lk {ρ : Env} : ∀ {S : List Nat} {vs : List Value}, pickE ρ S = some vs → ∀ t v, lk (zipE S vs) t = some v → ∃ u, lk ρ t = some u ∧ vl u = vl v := by
  intro S
  induction S with
  | nil => intro vs h t v hv; simp only [pickE, Option.some.injEq] at h; subst h; cases hv
  | cons s S ih =>
    intro vs h t v hv
    unfold pickE at h
    split at h
    · rename_i u us hu hus
      simp only [Option.some.injEq] at h
      subst h
      simp only [zipE, lk_cons] at hv
      by_cases hst : s = t
      · subst hst; simp only [if_true, Option.some.injEq] at hv; subst hv; exact ⟨u, hu, rfl⟩
      · rw [if_neg hst] at hv; exact ih hus t v hv
    · cases h
theorem pick_len {ρ : Env} : ∀ {S : List Nat} {vs : List Value}, pickE ρ S = some vs → vs.length = S.length := by
  intro S
  induction S with
  | nil => intro vs h; simp only [pickE, Option.some.injEq] at h; subst h; rfl
  | cons s S ih =>
    intro vs h
    unfold pickE at h
    split at h
    · rename_i u us hu hus
      simp only [Option.some.injEq] at h
      subst h
      simp [ih hus]
    · cases h
theorem disjN_spec : ∀ {U W : List Nat}, disjN U W = true → ∀ s, s ∈ U → s ∉ W := by
  intro U W
  induction U with
  | nil => intro _ s hs; cases hs
  | cons u U ih =>
    intro h s hs hW
    unfold disjN at h
    split at h
    · cases h
    · rename_i hm
      cases hs with
      | head => rw [memN_iff.2 hW] at hm; cases hm
      | tail _ hs => exact ih h s hs hW
theorem zip_mem : ∀ {U : List Nat} {us : List Value} {t : Nat} {v : Option Value}, lk (zipE U us) t = some v → t ∈ U := by
  intro U
  induction U with
  | nil => intro us t v h; cases h
  | cons u U ih =>
    intro us t v h
    cases us with
    | nil => cases h
    | cons x us =>
      simp only [zipE, lk_cons] at h
      by_cases hut : u = t
      · exact hut ▸ List.mem_cons_self
      · rw [if_neg hut] at h
        exact List.mem_cons_of_mem _ (ih h)
theorem lk_append {ρ ρ' : Env} {t : Nat} : lk (ρ ++ ρ') t = match lk ρ t with | some v => some v | none => lk ρ' t := by
  induction ρ with
  | nil => rfl
  | cons x ρ ih =>
    obtain ⟨s, v⟩ := x
    rw [List.cons_append, lk_cons, lk_cons]
    by_cases h : s = t
    · simp [h]
    · simp [h, ih]
/-- what was picked holds; what was kept, where nobody wrote it, holds too -/
theorem Agr.joinE {n : Nat} {a a' : Act} {W S U : List Nat} {vs us : List Value} (hu : Agr n (zipE U us) a) (hd : disjN U W = true) (hW : ∀ s, s ∉ W → a'.tmps[s]? = a.tmps[s]?)
    (hz : Agr n (zipE S vs) a') : Agr n (zipE S vs ++ zipE U us) a' := by
  refine ⟨hz.size, hz.none, fun t v hv => ?_⟩
  rw [lk_append] at hv
  split at hv
  · rename_i u hu
    simp only [Option.some.injEq] at hv
    subst hv
    exact hz.at_ t u hu
  · rw [hW t (disjN_spec hd t (zip_mem hv))]
    exact hu.at_ t v hv
theorem Agr.sub {n : Nat} {ρ ρ' : Env} {a : Act} (h : Agr n ρ a) (hs : ∀ t v, lk ρ' t = some v → ∃ u, lk ρ t = some u ∧ vl u = vl v) : Agr n ρ' a :=
  ⟨h.size, h.none, fun t v hv => by obtain ⟨u, h1, h2⟩ := hs t v hv; rw [h.at_ t u h1, h2]⟩
def PostQ (n : Nat) (W : List Nat) (a : Act) (Q : Exit → Env → World → Prop) (e : Exit) (a' : Act) (w' : World) : Prop := Post n W a (Q e) a' w'
theorem all_of_allV : ∀ {S : List Nat} {k : List Value → Prop}, allV S k → ∀ vs : List Value, vs.length = S.length → k vs := by
  intro S
  induction S with
  | nil => intro k h vs hl; cases vs with
    | nil => exact h
    | cons => simp at hl
  | cons s S ih =>
    intro k h vs hl
    cases vs with
    | nil => simp at hl
    | cons v vs => exact ih (h v) vs (by simpa using hl)
def valsOf (S : List Nat) (a : Act) : List Value := S.map fun s => (a.tmps[s]?).getD undef
theorem pick_vals {n : Nat} {ρ : Env} {a : Act} (h : Agr n ρ a) : ∀ {S : List Nat} {vs : List Value}, pickE ρ S = some vs → vs = valsOf S a := by
  intro S
  induction S with
  | nil => intro vs hp; simp only [pickE, Option.some.injEq] at hp; subst hp; rfl
  | cons s S ih =>
    intro vs hp
    unfold pickE at hp
    split at hp
    · rename_i u us hu hus
      simp only [Option.some.injEq] at hp
      subst hp
      have := h.at_ s u hu
      simp only [valsOf, List.map_cons, this, Option.getD_some]
      rw [ih hus]; rfl
    · cases hp
section
variable {P : Program} {n : Nat}
theorem Post.widen {W W' : List Nat} {a : Act} {K : Env → World → Prop} {a' : Act} {w' : World} (h : Post n W a K a' w') (hW : ∀ s, s ∈ W → s ∈ W') : Post n W' a K a' w' :=
  ⟨fun s hs => h.1 s fun h' => hs (hW s h'), h.2⟩
theorem cw_sound (hm : P.follows .mixedOrders = true) : ∀ (p : Plan) (c : Code) (Q : Exit → Env → World → Prop) (ρ : Env) (w : World), cw P n p c Q ρ w →
    ∀ a, Agr n ρ a → c.wp P (PostQ n (writes c) a Q) a w := by
  intro p
  induction p with
  | leaf =>
    intro c Q ρ w h a ha
    cases c with
    | region id ops draw =>
      cases draw with
      | false =>
        simp only [cw] at h
        split at h
        · rename_i hd
          exact wp_region_text (eseq_sound hd ops.toList 0 (by simp) ρ w a h ha)
        · exact h.elim
      | true => simp only [cw] at h
    | exit id => exact wp_exit ⟨fun _ _ => rfl, ρ, ha, h⟩
    | ret => exact wp_ret ⟨fun _ _ => rfl, ρ, ha, h⟩
    | skip => exact wp_skip ⟨fun _ _ => rfl, ρ, ha, h⟩
    | label l => exact wp_label ⟨fun _ _ => rfl, ρ, ha, h⟩
    | _ => simp only [cw] at h
  | held A l t =>
    intro c Q ρ w h a ha
    cases c with
    | region id ops draw =>
      cases draw with
      | false => simp only [cw] at h
      | true =>
        simp only [cw] at h
        split at h
        · rename_i hd
          rw [Bool.and_eq_true] at hd
          have ho := hd.2
          unfold heldOk at ho
          rw [Bool.and_eq_true] at ho
          have h2 := eheld_sound hd.1 l _ _ ho.2 ρ w.drew a (h _ rfl) ha
          exact wp_region_held' hm hd.2 h2
        · exact h.elim
    | _ => simp only [cw] at h
  | ord A =>
    intro c Q ρ w h a ha
    cases c with
    | region id ops draw =>
      cases draw with
      | false => simp only [cw] at h
      | true =>
        simp only [cw] at h
        split at h
        · rename_i hd
          rw [Bool.and_eq_true] at hd
          have h2 := eseq_sound hd.1 ops.toList 0 (by simp) ρ w.drew a (h _ rfl) ha
          exact wp_region_tree hm hd.2 h2
        · exact h.elim
    | _ => simp only [cw] at h
  | tree A t =>
    intro c Q ρ w h a ha
    cases c with
    | region id ops draw =>
      cases draw with
      | false => simp only [cw] at h
      | true =>
        simp only [cw] at h
        split at h
        · rename_i hd
          rw [Bool.and_eq_true] at hd
          have h2 := etree_sound hd.1 _ ρ w.drew a (h _ rfl) ha
          exact wp_region_tree hm hd.2 h2
        · exact h.elim
    | _ => simp only [cw] at h
  | seq p q ihp ihq =>
    intro c Q ρ w h a ha
    cases c <;> try exact h.elim
    rename_i x y
    refine wp_seq ?_
    have h1 := ihp x _ ρ w h a ha
    refine wp_mono h1 ?_
    rintro e a' w' ⟨hW, ρ', hA, hk⟩
    cases e with
    | normal =>
      refine wp_mono (ihq y Q ρ' w' hk a' hA) ?_
      rintro e a'' w'' ⟨hW', h''⟩
      exact ⟨fun s hs => (hW' s fun h' => hs (List.mem_append_right _ h')).trans (hW s fun h' => hs (List.mem_append_left _ h')), h''⟩
    | _ => exact ⟨fun s hs => hW s fun h' => hs (List.mem_append_left _ h'), ρ', hA, hk⟩
  | join S U p q ihp ihq =>
    intro c Q ρ w h a ha
    cases c <;> try exact h.elim
    rename_i x y
    simp only [cw] at h
    split at h
    case h_2 => exact h.elim
    rename_i hdj
    obtain ⟨us, hus, h⟩ := O.out h
    refine wp_seq ?_
    have h1 := ihp x _ ρ w h a ha
    refine wp_mono h1 ?_
    rintro e a' w' ⟨hW, ρ', hA, hk⟩
    cases e with
    | normal =>
      obtain ⟨vs, hvs, hk⟩ := O.out hk
      refine wp_mono (ihq y Q _ w' hk a' ((ha.sub (pick_lk hus)).joinE hdj hW (hA.sub (pick_lk hvs)))) ?_
      rintro e a'' w'' ⟨hW', h''⟩
      exact ⟨fun s hs => (hW' s fun h' => hs (List.mem_append_right _ h')).trans (hW s fun h' => hs (List.mem_append_left _ h')), h''⟩
    | _ => exact ⟨fun s hs => hW s fun h' => hs (List.mem_append_left _ h'), ρ', hA, hk⟩
  | cond p q ihp ihq =>
    intro c Q ρ w h a ha
    cases c <;> try exact h.elim
    rename_i c x y
    have hL : ∀ s, s ∈ writes x → s ∈ writes (.cond c x y) := fun s hs => List.mem_append_left _ hs
    have hR : ∀ s, s ∈ writes y → s ∈ writes (.cond c x y) := fun s hs => List.mem_append_right _ hs
    cases c with
    | tmp d =>
      simp only [cw] at h
      split at h
      · rename_i u hl
        have hev : a.eval (.tmp d) = u := by
          have := ha.at_ d _ hl
          simp [Act.eval, this, vl]
        rcases h.out with ⟨hv, hk⟩ | ⟨hv, hk⟩
        · exact wp_cond_true (hev.trans hv) (wp_mono (ihp x Q _ w hk a (ha.learn hl hv)) fun e a' w' hp => hp.widen hL)
        · exact wp_cond_false (hev.trans hv) (wp_mono (ihq y Q _ w hk a (ha.learn hl hv)) fun e a' w' hp => hp.widen hR)
      · exact h.elim
    | const v =>
      simp only [cw] at h
      rcases Bc.out h with ⟨hv, hk⟩ | ⟨hv, hk⟩
      · exact wp_cond_true hv (wp_mono (ihp x Q _ w hk a ha) fun e a' w' hp => hp.widen hL)
      · exact wp_cond_false hv (wp_mono (ihq y Q _ w hk a ha) fun e a' w' hp => hp.widen hR)
    | global g => simp only [cw, ev] at h; exact h.elim
    | func f => simp only [cw, ev] at h; exact h.elim
  | block p ih =>
    intro c Q ρ w h a ha
    cases c <;> try exact h.elim
    rename_i id x
    refine wp_block (wp_mono (ih x _ ρ w h a ha) ?_)
    rintro e a' w' ⟨hW, ρ', hA, hk⟩
    cases e with
    | exit id' =>
      simp only [blockE] at hk
      simp only [Exit.inBlock]
      split at hk
      · rename_i hb; rw [if_pos (Nat.eq_of_beq_eq_true hb)]; exact ⟨hW, ρ', hA, hk⟩
      · rename_i hb; rw [if_neg (Nat.ne_of_beq_eq_false hb)]; exact ⟨hW, ρ', hA, hk⟩
    | _ => exact ⟨hW, ρ', hA, hk⟩
  | scope p ih =>
    intro c Q ρ w h a ha
    cases c <;> try exact h.elim
    rename_i x
    refine wp_scope_straight (wp_mono (ih x _ ρ w h a ha) ?_)
    rintro e a' w' ⟨hW, ρ', hA, hk⟩
    cases e with
    | goto l => exact hk.elim
    | _ => exact ⟨hW, ρ', hA, hk⟩
  | loop S U p ih =>
    intro c Q ρ w h a ha
    cases c <;> try exact h.elim
    rename_i x
    simp only [cw] at h
    split at h
    case h_2 => exact h.elim
    rename_i hdj
    obtain ⟨us, hus, h⟩ := O.out h
    obtain ⟨vs, hvs, I, μ, h0, hround⟩ := O.out h
    have e0 := pick_vals ha hvs
    refine wp_loop (I := fun a' w' => (∀ s, s ∉ writes x → a'.tmps[s]? = a.tmps[s]?) ∧ Agr n (zipE S (valsOf S a')) a' ∧ apP S I (valsOf S a') w')
      (μ := fun a' w' => apN S μ (valsOf S a') w') ⟨fun _ _ => rfl, e0 ▸ ha.sub (pick_lk hvs), e0 ▸ h0⟩ ?_
    rintro a1 w1 ⟨hW, hA, hI⟩
    have hr := all_of_allV hround (valsOf S a1) (by simp [valsOf]) w1 hI
    refine wp_mono (ih x _ _ w1 hr a1 ((ha.sub (pick_lk hus)).joinE hdj hW hA)) ?_
    rintro e a' w' ⟨hW', ρ', hA', hk⟩
    have hWW : ∀ s, s ∉ writes x → a'.tmps[s]? = a.tmps[s]? := fun s hs => (hW' s hs).trans (hW s hs)
    cases e with
    | normal =>
      obtain ⟨vs', hvs', hk1, hk2⟩ := O.out hk
      have e1 := pick_vals hA' hvs'
      exact ⟨⟨hWW, e1 ▸ hA'.sub (pick_lk hvs'), e1 ▸ hk1⟩, e1 ▸ hk2⟩
    | _ => exact ⟨hWW, ρ', hA', hk⟩

/-! ## Functions -/
def rs (ρ : Env) (w : World) : List ResultVar → (List Value → Prop) → Prop
  | [], k => k []
  | .tmp t :: l, k => O (lk ρ t) fun v => rs ρ w l fun vs => k (vl v :: vs)
  | .cell a t :: l, k => O (lk ρ a) fun p => O (rx P (fun _ => vl p) w (.load t (.tmp 0))) fun v => rs ρ w l fun vs => k (v :: vs)
def tup : List Value → Value
  | [v] => v
  | vs => .tuple vs.toArray
def fnQ (P : Program) (rv : List ResultVar) (R : Value → World → Prop) : Exit → Env → World → Prop
  | .normal, ρ, w => rs (P := P) ρ w rv fun vs => R (tup vs) w
  | .ret, ρ, w => rs (P := P) ρ w rv fun vs => R (tup vs) w
  | _, _, _ => False
def argE : Nat → List Value → Env
  | _, [] => []
  | i, v :: vs => (i, some v) :: argE (i + 1) vs
theorem argE_lk : ∀ (vs : List Value) (i t : Nat) (v : Option Value), lk (argE i vs) t = some v → i ≤ t ∧ vs[t - i]? = some (vl v) := by
  intro vs
  induction vs with
  | nil => intro i t v h; cases h
  | cons u vs ih =>
    intro i t v h
    rw [argE, lk_cons] at h
    by_cases hit : i = t
    · subst hit
      simp only [if_true, Option.some.injEq] at h
      subst h
      exact ⟨Nat.le_refl _, by simp [vl]⟩
    · rw [if_neg hit] at h
      obtain ⟨h1, h2⟩ := ih (i + 1) t v h
      refine ⟨by omega, ?_⟩
      rw [show t - i = (t - (i + 1)) + 1 from by omega]
      simpa using h2
def resF (a : Act) : ResultVar → Sem Value
  | .tmp t => pure (a.tmps.getD t undef)
  | .cell b t => do loadVar t (← asAddr (a.tmps.getD b undef))
theorem rs_run {ρ : Env} {a : Act} (ha : Agr n ρ a) {w : World} : ∀ (rv : List ResultVar) (k : List Value → Prop), rs (P := P) ρ w rv k →
    ∃ vs, (rv.mapM (resF a)).run P w = .ok vs w ∧ k vs := by
  intro rv
  induction rv with
  | nil => intro k h; exact ⟨[], rfl, h⟩
  | cons r rv ih =>
    intro k h
    cases r with
    | tmp t =>
      obtain ⟨v, hv, h⟩ := O.out h
      obtain ⟨vs, h1, h2⟩ := ih _ h
      refine ⟨vl v :: vs, ?_, h2⟩
      have h3 := ha.at_ t v hv
      have h4 : (resF a (.tmp t)).run P w = .ok (vl v) w := by simp [resF, h3]
      rw [List.mapM_cons, run_bind_ok h4, run_bind_ok h1]
      rfl
    | cell b t =>
      obtain ⟨p, hp, h⟩ := O.out h
      obtain ⟨v, hv, h⟩ := O.out h
      obtain ⟨vs, h1, h2⟩ := ih _ h
      refine ⟨v :: vs, ?_, h2⟩
      have h3 := ha.at_ b p hp
      have hl := rx_run (ty := 0) (d := none) (po := "") (af := #[]) (g := none) hv
      simp only [execOp] at hl
      have hl' : (Instr.loadAt t (vl p)).run P w = .ok v w := by
        rw [run_bind] at hl
        split at hl
        · rename_i u w' hu
          rw [run_pure'] at hl
          cases hl
          exact hu
        · cases hl
      have h4 : (resF a (.cell b t)).run P w = .ok v w := by
        have hb : a.tmps.getD b undef = vl p := by simp [h3]
        simp only [resF, hb]
        unfold Instr.loadAt at hl'
        generalize vl p = q at *
        cases q with
        | pointer q =>
          cases q with
          | some q => exact hl'
          | none => cases hl'
        | _ => cases hl'
      rw [List.mapM_cons, run_bind_ok h4, run_bind_ok h1]
      rfl
/-- **a function's call, from its body's statement** -/
theorem calls_of_cw (hm : P.follows .mixedOrders = true) {f : FuncId} {fn : Func} {c : Code} {args : List Value} {w : World} {R : Value → World → Prop} (p : Plan)
    (hf : P.funcs[f]? = some fn) (hb : fn.body = some c) (hn : fn.ntmps = n) (hl : args.length ≤ n)
    (h : cw P n p c (fnQ P fn.results.toList R) (argE 0 args) w) : Cl P f args w R := by
  unfold Cl
  refine calls_of_wp hf hb ?_
  have ha : Agr n (argE 0 args) { tmps := args.toArray ++ Array.replicate (fn.ntmps - args.toArray.size) undef, defers := [] } := by
    refine ⟨by simp [hn]; omega, rfl, fun t v hv => ?_⟩
    obtain ⟨_, h2⟩ := argE_lk args 0 t v hv
    have hlt : t < args.length := by
      rcases Nat.lt_or_ge t args.length with h' | h'
      · exact h'
      · simp [List.getElem?_eq_none h'] at h2
    rw [Array.getElem?_append_left (by simpa using hlt)]
    simpa using h2
  refine wp_mono (cw_sound hm p c _ _ w h _ ha) ?_
  have key : ∀ (a' : Act) (w' : World) (ρ' : Env), Agr n ρ' a' → (rs (P := P) ρ' w' fn.results.toList fun vs => R (tup vs) w') →
      a'.defers = [] ∧ ∃ v, (results fn a'.tmps).run P w' = .ok v w' ∧ ∃ u, Ending.returned v = .returned u ∧ R u w' := by
    intro a' w' ρ' hA hk
    obtain ⟨vs, h1, h2⟩ := rs_run hA _ _ hk
    refine ⟨hA.none, tup vs, ?_, _, rfl, h2⟩
    unfold results
    have hm' : (fn.results.mapM (resF a')).run P w' = .ok vs.toArray w' := by
      rw [← Array.toArray_toList (xs := fn.results), List.mapM_toArray]
      show Sem.run P ((fn.results.toList.mapM (resF a')) >>= fun l => pure l.toArray) w' = _
      rw [run_bind_ok h1]
      rfl
    refine (run_bind_ok hm').trans ?_
    rw [run_pure']
    congr 1
    cases vs with
    | nil => rfl
    | cons v vs => cases vs with
      | nil => rfl
      | cons u vs => simp [tup]
  rintro e a' w' ⟨hW, ρ', hA, hk⟩
  cases e with
  | normal => exact key a' w' ρ' hA hk
  | ret => exact key a' w' ρ' hA hk
  | _ => exact hk.elim
end
end Go.Proofs.Ytedcfkigfcobaaa
end
/- Short words for the printed bodies; the loaded program's own switch. -/
section
namespace Go.Proofs.Ytedcfkigfcobaaa
open Go Go.Proofs
theorem mixed : Try.prog.follows .mixedOrders = true := by kernel_rfl
def AL (o : Obj) (w : World) (k : Value → World → Prop) : Prop := ∀ v w', v = pt w.heap.size → w' = w.alloc o → k v w'
def BS (e size len : Nat) (z : Value) (parts : List (Nat × Value)) (w : World) (k : Value → World → Prop) : Prop := OA w k (bsx e size len z parts)
def MS (e size bytes : Nat) (z l c : Value) (w : World) (k : Value → World → Prop) : Prop := OA w k (msx e size bytes z l c)
def MM (w : World) (k : Value → World → Prop) : Prop := ∀ v w', v = .map (some w.heap.size) → w' = w.alloc (.map #[] 0) → k v w'
def ST (P : Program) (t : TypeId) (a x : Value) (w : World) (k : Value → World → Prop) : Prop := Rn P (Instr.storeAt t a x) w fun _ w' => k undef w'
def AP (P : Program) (ts : Array TypeId) (ty : TypeId) (args : List Value) (w : World) (k : Value → World → Prop) : Prop := Rn P (Builtin.append_ ts ty args.toArray) w k
def CV (P : Program) (v : Value) (args : List Value) (w : World) (k : Value → World → Prop) : Prop :=
  match v with
  | .func (.func f) first cap => match callable P f with
    | true => Cl P f (first.toList ++ args ++ cap.toList) w k
    | false => False
  | _ => False
end Go.Proofs.Ytedcfkigfcobaaa
end
/- What a piece of memory holds: parts of the heap that do not meet, each of its own make; all that stood below a given block stays as it was. -/
section
namespace Go.Proofs.Ytedcfkigfcobaaa
open Go Go.Proofs

abbrev Hp := Nat → Option Obj
abbrev Atom := Hp → Prop
def Hp.on (h : Hp) (D : Nat → Bool) : Hp := fun b => bif D b then h b else none
def Hp.off (h : Hp) (D : Nat → Bool) : Hp := fun b => bif D b then none else h b
def sep : List Atom → Hp → Prop
  | [], _ => True
  | A :: L, h => ∃ D, A (h.on D) ∧ sep L (h.off D)
/-- one block of cells -/
def bk (b : Nat) (t : TypeId) (vs : List Value) : Atom := fun h => h b = some (.cells vs.toArray t (0, 0))
def Ex {α : Type} (A : α → Atom) : Atom := fun h => ∃ x, A x h
def Pr (p : Prop) : Atom := fun _ => p
structure Base where
  w0 : World
  N : Nat
structure Own (B : Base) (w : World) (L : List Atom) : Prop where
  old : ∀ b, b < B.N → w.heap[b]? = B.w0.heap[b]?
  size : B.N ≤ w.heap.size
  tape : w.tape = B.w0.tape
  os : w.os = B.w0.os
  output : w.output = B.w0.output
  sat : sep L fun b => bif Nat.blt b B.N then none else w.heap[b]?
theorem Hp.on_off (h : Hp) (D E : Nat → Bool) : (h.off D).on E = h.on fun b => !(D b) && E b := by
  funext b; simp only [Hp.on, Hp.off]; cases D b <;> cases E b <;> rfl
theorem sat_swap {A C : Atom} {L : List Atom} {h : Hp} (hs : sep (A :: C :: L) h) : sep (C :: A :: L) h := by
  obtain ⟨D, hA, E, hC, hL⟩ := hs
  refine ⟨fun b => !(D b) && E b, ?_, D, ?_, ?_⟩
  · have : (h.off D).on E = h.on fun b => !(D b) && E b := Hp.on_off h D E
    rw [← this]; exact hC
  · have : (h.off fun b => !(D b) && E b).on D = h.on D := by
      funext b; simp only [Hp.on, Hp.off]; cases D b <;> cases E b <;> rfl
    rw [this]; exact hA
  · have : (h.off fun b => !(D b) && E b).off D = (h.off D).off E := by
      funext b; simp only [Hp.off]; cases D b <;> cases E b <;> rfl
    rw [this]; exact hL
theorem sat_cons {A : Atom} {L L' : List Atom} (hL : ∀ h, sep L h → sep L' h) {h : Hp} (hs : sep (A :: L) h) : sep (A :: L') h := by
  obtain ⟨D, hA, hh⟩ := hs
  exact ⟨D, hA, hL _ hh⟩
theorem sat_perm {L L' : List Atom} (hp : L.Perm L') : ∀ h, sep L h → sep L' h := by
  induction hp with
  | nil => exact fun _ h => h
  | cons A _ ih => exact fun h hs => sat_cons ih hs
  | swap A C L => exact fun h hs => sat_swap hs
  | trans _ _ ih1 ih2 => exact fun h hs => ih2 h (ih1 h hs)
theorem sat_mono : ∀ {L : List Atom} {h : Hp} {D : Nat → Bool}, sep L (h.on D) → sep L h := by
  intro L
  induction L with
  | nil => exact fun _ => trivial
  | cons A L ih =>
    rintro h D ⟨E, hA, hL⟩
    refine ⟨fun b => D b && E b, ?_, ?_⟩
    · have : (h.on D).on E = h.on fun b => D b && E b := by
        funext b; simp only [Hp.on]; cases D b <;> cases E b <;> rfl
      rw [← this]; exact hA
    · have : (h.on D).off E = (h.off fun b => D b && E b).on D := by
        funext b; simp only [Hp.on, Hp.off]; cases D b <;> cases E b <;> rfl
      rw [this] at hL
      exact ih hL
theorem sat_off {L : List Atom} {h : Hp} {D : Nat → Bool} (hs : sep L (h.off D)) : sep L h := by
  have : h.off D = h.on fun b => !(D b) := by funext b; simp only [Hp.on, Hp.off]; cases D b <;> rfl
  rw [this] at hs
  exact sat_mono hs
theorem sat_append {L L' : List Atom} : ∀ {h : Hp}, sep (L ++ L') h ↔ sep (L ++ [sep L']) h := by
  induction L with
  | nil =>
    intro h
    constructor
    · intro hs
      exact ⟨fun _ => true, hs, trivial⟩
    · rintro ⟨D, hs, -⟩
      exact sat_mono hs
  | cons A L ih =>
    intro h
    exact ⟨fun ⟨D, hA, hs⟩ => ⟨D, hA, ih.1 hs⟩, fun ⟨D, hA, hs⟩ => ⟨D, hA, ih.2 hs⟩⟩
abbrev Base.hp (B : Base) (w : World) : Hp := fun b => bif Nat.blt b B.N then none else w.heap[b]?
theorem perm_pull {L : List Atom} {i : Nat} {A : Atom} (hi : L[i]? = some A) : L.Perm (A :: L.eraseIdx i) := by
  induction L generalizing i with
  | nil => simp at hi
  | cons C L ih =>
    cases i with
    | zero => simp only [List.getElem?_cons_zero, Option.some.injEq] at hi; subst hi; exact .refl _
    | succ i =>
      simp only [List.getElem?_cons_succ] at hi
      exact (List.Perm.cons C (ih hi)).trans (.swap _ _ _)
theorem perm_set {L : List Atom} {i : Nat} {A A' : Atom} (hi : L[i]? = some A) : (A' :: L.eraseIdx i).Perm (L.set i A') := by
  induction L generalizing i with
  | nil => simp at hi
  | cons C L ih =>
    cases i with
    | zero => exact .refl _
    | succ i =>
      simp only [List.getElem?_cons_succ] at hi
      exact (List.Perm.swap _ _ _).trans (List.Perm.cons C (ih hi))
section
variable {B : Base} {w : World} {L : List Atom}
theorem Own.mono {L' : List Atom} (h : Own B w L) (hs : ∀ h, sep L h → sep L' h) : Own B w L' :=
  ⟨h.old, h.size, h.tape, h.os, h.output, hs _ h.sat⟩
theorem Own.perm {L' : List Atom} (h : Own B w L) (hp : L.Perm L') : Own B w L' := h.mono (sat_perm hp)
theorem Own.pull (h : Own B w L) (i : Nat) {A : Atom} (hi : L[i]? = some A) : Own B w (A :: L.eraseIdx i) := h.perm (perm_pull hi)
theorem Own.tail {A : Atom} (h : Own B w (A :: L)) : Own B w L := h.mono fun _ ⟨_, _, hL⟩ => sat_off hL
theorem Own.drop (h : Own B w L) (i : Nat) : Own B w (L.eraseIdx i) := by
  cases hi : L[i]? with
  | none =>
    have : L.length ≤ i := by simpa using hi
    rw [List.eraseIdx_of_length_le this]; exact h
  | some A => exact (h.pull i hi).tail
theorem Own.get (h : Own B w L) {i : Nat} {A : Atom} (hi : L[i]? = some A) : ∃ D, A ((B.hp w).on D) := by
  obtain ⟨D, hA, _⟩ := (h.pull i hi).sat
  exact ⟨D, hA⟩
theorem Own.fold {L1 L2 : List Atom} (h : Own B w (L1 ++ L2)) : Own B w (sep L1 :: L2) :=
  (h.perm List.perm_append_comm).mono (fun _ hs => sat_perm (List.perm_append_comm (l₁ := L2) (l₂ := [sep L1])) _ (sat_append.1 hs))
theorem Own.unfold {L1 L2 : List Atom} (h : Own B w (sep L1 :: L2)) : Own B w (L1 ++ L2) :=
  Own.perm (h.mono fun _ hs => sat_append.2 (sat_perm (List.perm_append_comm (l₁ := [sep L1]) (l₂ := L2)) _ hs)) List.perm_append_comm
/-- the rest of a list as one -/
theorem Own.frame {L1 L2 : List Atom} (h : Own B w (L1 ++ L2)) : Own B w (L1 ++ [sep L2]) := h.mono fun _ => sat_append.1
theorem Own.unframe {L1 L2 : List Atom} (h : Own B w (L1 ++ [sep L2])) : Own B w (L1 ++ L2) := h.mono fun _ => sat_append.2
theorem Own.imp (h : Own B w L) {i : Nat} {A A' : Atom} (hi : L[i]? = some A) (hA : ∀ g, A g → A' g) : Own B w (L.set i A') := by
  refine Own.perm ?_ (perm_set hi)
  exact (h.pull i hi).mono fun g ⟨D, h1, h2⟩ => ⟨D, hA _ h1, h2⟩
theorem Own.ex {α : Type} (h : Own B w L) {i : Nat} {A : α → Atom} (hi : L[i]? = some (Ex A)) : ∃ x, Own B w (L.set i (A x)) := by
  obtain ⟨D, ⟨x, hA⟩, hL⟩ := (h.pull i hi).sat
  have h' : Own B w (A x :: L.eraseIdx i) := ⟨h.old, h.size, h.tape, h.os, h.output, ⟨D, hA, hL⟩⟩
  exact ⟨x, h'.perm (perm_set hi)⟩
theorem hp_some {b : Nat} {o : Obj} {D : Nat → Bool} (h : ((B.hp w).on D) b = some o) : w.heap[b]? = some o ∧ B.N ≤ b ∧ D b = true := by
  simp only [Hp.on, Base.hp] at h
  cases hD : D b with
  | false => rw [hD] at h; cases h
  | true =>
    rw [hD] at h
    simp only [cond_true] at h
    cases hb : Nat.blt b B.N with
    | true => rw [hb] at h; cases h
    | false =>
      rw [hb] at h
      refine ⟨h, ?_, rfl⟩
      rcases Nat.lt_or_ge b B.N with h' | h'
      · have hb' : Nat.blt b B.N = true := by rw [Nat.blt_eq]; exact h'
        rw [hb'] at hb; cases hb
      · exact h'
def World.setBlk (w : World) (b : Nat) (o : Obj) : World := { w with heap := w.heap.setIfInBounds b o }
/-- a block of one part is written -/
theorem Own.modify (h : Own B w L) {i : Nat} {A A' : Atom} (hi : L[i]? = some A) {b : Nat} {o : Obj}
    (hA : ∀ g : Hp, A g → (∃ o', g b = some o') ∧ A' fun x => if x = b then some o else g x) : Own B (World.setBlk w b o) (L.set i A') := by
  obtain ⟨D, h1, h2⟩ := (h.pull i hi).sat
  obtain ⟨⟨o', hb⟩, h3⟩ := hA _ h1
  obtain ⟨hb1, hb2, hb3⟩ := hp_some hb
  have hlt : b < w.heap.size := by
    rcases Nat.lt_or_ge b w.heap.size with h' | h'
    · exact h'
    · simp [Array.getElem?_eq_none h'] at hb1
  have e1 : (B.hp (World.setBlk w b o)).on D = fun x => if x = b then some o else ((B.hp w).on D) x := by
    funext x
    simp only [Hp.on, Base.hp, World.setBlk]
    by_cases hx : x = b
    · subst hx
      have : Nat.blt x B.N = false := by
        cases hh : Nat.blt x B.N with
        | true => rw [Nat.blt_eq] at hh; omega
        | false => rfl
      rw [if_pos rfl, hb3, this]
      simp [hlt]
    · rw [if_neg hx, Array.getElem?_setIfInBounds_ne (Ne.symm hx)]
  have e2 : (B.hp (World.setBlk w b o)).off D = (B.hp w).off D := by
    funext x
    simp only [Hp.off, Base.hp, World.setBlk]
    by_cases hx : x = b
    · subst hx; rw [hb3]; rfl
    · rw [Array.getElem?_setIfInBounds_ne (Ne.symm hx)]
  refine Own.perm (L := A' :: L.eraseIdx i) ⟨fun x hx => ?_, by simpa [World.setBlk] using h.size, h.tape, h.os, h.output, D, ?_, ?_⟩ (perm_set hi)
  · simp only [World.setBlk]
    rw [Array.getElem?_setIfInBounds_ne (by omega)]
    exact h.old x hx
  · show A' ((B.hp (World.setBlk w b o)).on D)
    rw [e1]; exact h3
  · show sep _ ((B.hp (World.setBlk w b o)).off D)
    rw [e2]; exact h2
/-- a new block -/
theorem Own.new (h : Own B w L) (o : Obj) {A : Atom} (hA : ∀ g : Hp, g w.heap.size = some o → A g) : Own B (w.alloc o) (A :: L) := by
  refine ⟨fun x hx => ?_, by simp; have := h.size; omega, h.tape, h.os, h.output, fun b => Nat.beq b w.heap.size, hA _ ?_, ?_⟩
  · have := h.size
    simp only [World.alloc, Array.getElem?_push]
    rw [if_neg (by omega)]; exact h.old x hx
  · have : Nat.blt w.heap.size B.N = false := by
      cases hh : Nat.blt w.heap.size B.N with
      | true => rw [Nat.blt_eq] at hh; have := h.size; omega
      | false => rfl
    have hbb : Nat.beq w.heap.size w.heap.size = true := by simp
    simp only [Hp.on, hbb, this, cond_true, cond_false]
    show (w.heap.push o)[w.heap.size]? = some o
    simp
  · have e : (Hp.off (fun b => bif Nat.blt b B.N then none else (w.alloc o).heap[b]?) fun b => Nat.beq b w.heap.size) = B.hp w := by
      funext x
      simp only [Hp.off, Base.hp]
      by_cases hx : x = w.heap.size
      · subst hx
        have hb : Nat.beq w.heap.size w.heap.size = true := by simp
        rw [hb]; simp
      · have hb : Nat.beq x w.heap.size = false := by
          cases hh : Nat.beq x w.heap.size with
          | true => exact absurd (Nat.eq_of_beq_eq_true hh) hx
          | false => rfl
        rw [hb]
        simp only [World.alloc, Array.getElem?_push]
        rw [if_neg hx]; rfl
    rw [e]; exact h.sat
theorem Own.drew (h : Own B w L) : Own B w.drew L := ⟨h.old, h.size, h.tape, h.os, h.output, h.sat⟩
theorem Own.start (B : Base) (w : World) (hw : w = B.w0) (hN : B.N = w.heap.size) : Own B w [] := by
  subst hw
  exact ⟨fun _ _ => rfl, by omega, rfl, rfl, rfl, trivial⟩
end
end Go.Proofs.Ytedcfkigfcobaaa
end
/- The operations over parts of the heap. -/
section
namespace Go.Proofs.Ytedcfkigfcobaaa
open Go Go.Proofs

def one (v : Value) : Bool := match v with | .agg _ => false | .tuple _ => false | _ => true
def updL (vs : List Value) (o : Nat) (xs : List Value) : List Value := vs.take o ++ (xs ++ vs.drop (o + xs.length))
theorem updL_length {vs xs : List Value} {o : Nat} (h : o + xs.length ≤ vs.length) : (updL vs o xs).length = vs.length := by
  simp [updL]; omega
section
variable {P : Program} {w : World}
theorem setCell_blk {b o : Nat} {v : Value} {c : Array Value} {e : TypeId} {f : Nat × Nat} (h : w.heap[b]? = some (.cells c e f)) :
    w.setCell ⟨b, o, none⟩ v = World.setBlk w b (.cells (c.setIfInBounds o v) e f) := by
  have hlt := heap_lt h
  unfold World.setCell World.setBlk
  congr 1
  apply Array.ext_getElem?
  intro i
  by_cases hi : i = b
  · subst hi
    have h' : w.heap[i] = .cells c e f := by rw [Array.getElem?_eq_getElem hlt] at h; exact Option.some.inj h
    rw [Array.getElem?_eq_getElem (by simpa using hlt), Array.getElem_modify]
    simp [hlt, h']
  · simp [Array.getElem?_modify, Array.getElem?_setIfInBounds_ne (Ne.symm hi), Ne.symm hi]
theorem setBlk_setBlk {b : Nat} {x y : Obj} : World.setBlk (World.setBlk w b x) b y = World.setBlk w b y := by
  unfold World.setBlk
  congr 1
  apply Array.ext_getElem?
  intro i
  by_cases hi : i = b
  · subst hi
    by_cases hlt : i < w.heap.size <;> simp [hlt]
  · simp [Array.getElem?_setIfInBounds_ne (Ne.symm hi)]
theorem setBlk_get {b : Nat} {x o : Obj} (h : w.heap[b]? = some o) : (World.setBlk w b x).heap[b]? = some x := by
  have := heap_lt h
  simp [World.setBlk, this]
theorem run_storeCells' {b : Nat} {e : TypeId} {o : Nat} : ∀ (xs : List Value) (i : Nat) (w : World) (vs : List Value), w.heap[b]? = some (.cells vs.toArray e (0, 0)) → xs.all one = true → o + i + xs.length ≤ vs.length →
    (storeCells ⟨b, o, none⟩ xs i).run P w = .ok () (World.setBlk w b (.cells (updL vs (o + i) xs).toArray e (0, 0))) := by
  intro xs
  induction xs with
  | nil =>
    intro i w vs h _ _
    have : updL vs (o + i) [] = vs := by simp [updL]
    rw [this]
    have hw : World.setBlk w b (.cells vs.toArray e (0, 0)) = w := by
      have hlt := heap_lt h
      unfold World.setBlk
      have : w.heap.setIfInBounds b (.cells vs.toArray e (0, 0)) = w.heap := by
        apply Array.ext_getElem?
        intro j
        by_cases hj : j = b
        · subst hj; rw [h]; simp [hlt]
        · simp [Array.getElem?_setIfInBounds_ne (Ne.symm hj)]
      rw [this]
    rw [hw]; rfl
  | cons x xs ih =>
    intro i w vs h hx hl
    simp only [List.all_cons, Bool.and_eq_true] at hx
    obtain ⟨hx1, hx2⟩ := hx
    simp only [List.length_cons] at hl
    have hst : (Go.store ((⟨b, o, none⟩ : Addr).add i) x).run P w = .ok () (World.setBlk w b (.cells (vs.set (o + i) x).toArray e (0, 0))) := by
      rw [add_spot]
      have hc : w.cell? ⟨b, o + i, none⟩ = some (vs[o + i]'(by omega)) := by
        rw [cell?_of_heap h]
        simp [List.getElem?_eq_getElem (show o + i < vs.length by omega)]
      have hf : w.frozen? ⟨b, o + i, none⟩ = false := by simp [World.frozen?, h]
      have hs : w.setCell ⟨b, o + i, none⟩ x = World.setBlk w b (.cells (vs.set (o + i) x).toArray e (0, 0)) := by
        rw [setCell_blk h]; simp
      unfold Go.store
      cases x <;> first | (cases hx1; done) | (simp only [Sem.run, hc, hf, hs]; rfl)
    unfold storeCells
    rw [run_bind_ok hst]
    have hg : (World.setBlk w b (.cells (vs.set (o + i) x).toArray e (0, 0))).heap[b]? = some (.cells (vs.set (o + i) x).toArray e (0, 0)) := setBlk_get h
    rw [ih (i + 1) _ _ hg hx2 (by simp; omega), setBlk_setBlk]
    have : updL (vs.set (o + i) x) (o + (i + 1)) xs = updL vs (o + i) (x :: xs) := by
      unfold updL
      have h1 : (vs.set (o + i) x).take (o + (i + 1)) = vs.take (o + i) ++ [x] := by
        rw [show o + (i + 1) = (o + i) + 1 from by omega]
        rw [List.take_succ_eq_append_getElem (by simp; omega)]
        simp [List.take_set_of_le]
      have h2 : (vs.set (o + i) x).drop (o + (i + 1) + xs.length) = vs.drop (o + i + (x :: xs).length) := by
        rw [List.drop_set_of_lt (by omega)]
        simp only [List.length_cons]
        congr 1; omega
      rw [h1, h2]; simp
    rw [this]
theorem run_storeAt' {t : TypeId} {b o : Nat} {x : Value} {e : TypeId} {vs : List Value} (ht : tsz P t = some x.cells.size) (h : w.heap[b]? = some (.cells vs.toArray e (0, 0))) (hx : x.cells.toList.all one = true)
    (hl : o + x.cells.size ≤ vs.length) : (Instr.storeAt t (.pointer (some ⟨b, o, none⟩)) x).run P w = .ok () (World.setBlk w b (.cells (updL vs o x.cells.toList).toArray e (0, 0))) := by
  unfold Instr.storeAt
  rw [run_bind_ok (v := (⟨b, o, none⟩ : Addr)) (w' := w) rfl]
  unfold storeVar
  rw [run_bind_ok (run_sizeOf' ht), if_neg (by simp)]
  exact run_storeCells' (o := o) x.cells.toList 0 w vs h hx (by simpa using hl)
end
/-- a slice's value, from its block's beginning, and the cells of its elements -/
def sl (t : TypeId) (sz : Nat) (v : Value) (n : Nat) (cs : List Value) : Atom := fun h =>
  (v = .slice none 0 0 ∧ n = 0 ∧ cs = []) ∨
  ∃ b cap sp, v = .slice (some ⟨b, 0, none⟩) n cap ∧ n ≤ cap ∧ cs.length = n * sz ∧ sp.length = (cap - n) * sz ∧ h b = some (.cells (cs ++ sp).toArray t (0, 0))
section
variable {P : Program} {B : Base} {w : World} {L : List Atom}
theorem Own.blk (h : Own B w L) {i b : Nat} {t : TypeId} {vs : List Value} (hi : L[i]? = some (bk b t vs)) : w.heap[b]? = some (.cells vs.toArray t (0, 0)) ∧ B.N ≤ b := by
  obtain ⟨D, hA⟩ := h.get hi
  exact ⟨(hp_some hA).1, (hp_some hA).2.1⟩
theorem Own.rd1_bk (h : Own B w L) {b : Nat} {t : TypeId} {vs : List Value} (i : Nat) (hi : L[i]? = some (bk b t vs)) {o : Nat} {v : Value} (hv : vs[o]? = some v) : rd1 (.pointer (some ⟨b, o, none⟩)) w = some v := by
  simp only [rd1, (h.blk hi).1]
  simpa using hv
theorem Own.rdN_bk (h : Own B w L) {b : Nat} {t : TypeId} {vs : List Value} (i : Nat) (hi : L[i]? = some (bk b t vs)) {o n : Nat} (hl : o + n ≤ vs.length) : rdN n (.pointer (some ⟨b, o, none⟩)) w = some (.agg ((vs.drop o).take n).toArray) := by
  simp only [rdN, (h.blk hi).1]
  rw [if_pos (by simpa using hl)]
  simp only [Option.some.injEq, Value.agg.injEq]
  apply Array.toList_inj.1
  simp [List.extract_eq_take_drop]
theorem Own.st_bk (h : Own B w L) {b : Nat} {t : TypeId} {vs : List Value} (i : Nat) (hi : L[i]? = some (bk b t vs)) {ty : TypeId} {o : Nat} {x : Value} (ht : tsz P ty = some x.cells.size) (hx : x.cells.toList.all one = true)
    (hl : o + x.cells.size ≤ vs.length) {k : Value → World → Prop} (hk : ∀ w', Own B w' (L.set i (bk b t (updL vs o x.cells.toList))) → k undef w') : ST P ty (.pointer (some ⟨b, o, none⟩)) x w k := by
  unfold ST
  refine Rn.mk (run_storeAt' ht (h.blk hi).1 hx hl) (hk _ ?_)
  refine h.modify hi fun g hg => ⟨⟨_, hg⟩, ?_⟩
  simp [bk]
theorem Own.al (h : Own B w L) {t : TypeId} {vs : Array Value} {k : Value → World → Prop} (hk : ∀ b w', B.N ≤ b → Own B w' (bk b t vs.toList :: L) → k (.pointer (some ⟨b, 0, none⟩)) w') : AL (.cells vs t) w k := by
  rintro v w' rfl rfl
  exact hk w.heap.size _ h.size (h.new _ fun g hg => hg)
theorem Own.dr (h : Own B w L) {k : World → Prop} (hk : ∀ w', Own B w' L → k w') : Dr w k := by
  rintro w' rfl
  exact hk _ h.drew
/-! slices -/
theorem Own.slGet (h : Own B w L) {i : Nat} {t : TypeId} {sz n : Nat} {v : Value} {cs : List Value} (hi : L[i]? = some (sl t sz v n cs)) :
    (v = .slice none 0 0 ∧ n = 0 ∧ cs = []) ∨ ∃ b cap sp, v = .slice (some ⟨b, 0, none⟩) n cap ∧ n ≤ cap ∧ cs.length = n * sz ∧ sp.length = (cap - n) * sz ∧ w.heap[b]? = some (.cells (cs ++ sp).toArray t (0, 0)) := by
  obtain ⟨D, hA⟩ := h.get hi
  rcases hA with hA | ⟨b, cap, sp, h1, h2, h3, h4, h5⟩
  · exact .inl hA
  · exact .inr ⟨b, cap, sp, h1, h2, h3, h4, (hp_some h5).1⟩
theorem Own.slLen (h : Own B w L) {t : TypeId} {sz n : Nat} {v : Value} {cs : List Value} (i : Nat) (hi : L[i]? = some (sl t sz v n cs)) : lenS v = some (.int .i64 n) := by
  rcases h.slGet hi with ⟨rfl, rfl, _⟩ | ⟨b, cap, sp, rfl, _⟩ <;> rfl
theorem Own.slCells (h : Own B w L) {t : TypeId} {sz n : Nat} {v : Value} {cs : List Value} (i : Nat) (hi : L[i]? = some (sl t sz v n cs)) : cs.length = n * sz := by
  rcases h.slGet hi with ⟨rfl, rfl, rfl⟩ | ⟨b, cap, sp, _, _, h3, _⟩
  · simp
  · exact h3
theorem Own.slShape (h : Own B w L) {t : TypeId} {sz n : Nat} {v : Value} {cs : List Value} (i : Nat) (hi : L[i]? = some (sl t sz v n cs)) (hn : 0 < n) : ∃ b cap, v = .slice (some ⟨b, 0, none⟩) n cap := by
  rcases h.slGet hi with ⟨rfl, rfl, _⟩ | ⟨b, cap, sp, rfl, _⟩
  · omega
  · exact ⟨b, cap, rfl⟩
/-- an element's address -/
theorem Own.slIdx (h : Own B w L) {t : TypeId} {sz n : Nat} {v : Value} {cs : List Value} (i : Nat) (hi : L[i]? = some (sl t sz v n cs)) {k : IntKind} {j : Int} (h0 : 0 ≤ j) (hj : j < n) :
    ∃ b cap, v = .slice (some ⟨b, 0, none⟩) n cap ∧ iS sz v (.int k j) = some (.pointer (some ⟨b, j.toNat * sz, none⟩)) := by
  obtain ⟨b, cap, rfl⟩ := h.slShape i hi (by omega)
  refine ⟨b, cap, rfl, ?_⟩
  simp only [iS]
  rw [if_pos ⟨h0, hj⟩, Nat.zero_add]
theorem Own.rd1_sl (h : Own B w L) {b n cap : Nat} {t : TypeId} {sz : Nat} {cs : List Value} (i : Nat) (hi : L[i]? = some (sl t sz (.slice (some ⟨b, 0, none⟩) n cap) n cs)) {o : Nat} {x : Value} (hv : cs[o]? = some x) :
    rd1 (.pointer (some ⟨b, o, none⟩)) w = some x := by
  rcases h.slGet hi with ⟨h1, _⟩ | ⟨b', cap', sp, h1, h2, h3, h4, h5⟩
  · cases h1
  · cases h1
    have hlt : o < cs.length := by
      rcases Nat.lt_or_ge o cs.length with h' | h'
      · exact h'
      · simp [List.getElem?_eq_none h'] at hv
    simp only [rd1, h5]
    simp only [List.getElem?_toArray, List.getElem?_append_left hlt, hv]
theorem Own.rdN_sl (h : Own B w L) {b n cap : Nat} {t : TypeId} {sz : Nat} {cs : List Value} (i : Nat) (hi : L[i]? = some (sl t sz (.slice (some ⟨b, 0, none⟩) n cap) n cs)) {o m : Nat} (hl : o + m ≤ cs.length) :
    rdN m (.pointer (some ⟨b, o, none⟩)) w = some (.agg ((cs.drop o).take m).toArray) := by
  rcases h.slGet hi with ⟨h1, _⟩ | ⟨b', cap', sp, h1, h2, h3, h4, h5⟩
  · cases h1
  · cases h1
    simp only [rdN, h5]
    rw [if_pos (by simp; omega)]
    simp only [Option.some.injEq, Value.agg.injEq]
    apply Array.toList_inj.1
    simp only [Array.toList_extract, List.extract_eq_take_drop]
    simp only [show o + m - o = m from by omega]
    rw [List.drop_append_of_le_length (by omega), List.take_append_of_le_length (by simp; omega)]
theorem updL_append {cs sp xs : List Value} {o : Nat} (h : o + xs.length ≤ cs.length) : updL (cs ++ sp) o xs = updL cs o xs ++ sp := by
  unfold updL
  rw [List.take_append_of_le_length (by omega), List.drop_append_of_le_length h]
  simp
theorem Own.st_sl (h : Own B w L) {b n cap : Nat} {t : TypeId} {sz : Nat} {cs : List Value} (i : Nat) (hi : L[i]? = some (sl t sz (.slice (some ⟨b, 0, none⟩) n cap) n cs)) {ty : TypeId} {o : Nat} {x : Value}
    (ht : tsz P ty = some x.cells.size) (hx : x.cells.toList.all one = true) (hl : o + x.cells.size ≤ cs.length) {k : Value → World → Prop}
    (hk : ∀ w', Own B w' (L.set i (sl t sz (.slice (some ⟨b, 0, none⟩) n cap) n (updL cs o x.cells.toList))) → k undef w') : ST P ty (.pointer (some ⟨b, o, none⟩)) x w k := by
  rcases h.slGet hi with ⟨h1, _⟩ | ⟨b', cap', sp, h1, h2, h3, h4, h5⟩
  · cases h1
  · cases h1
    unfold ST
    refine Rn.mk (run_storeAt' ht h5 hx (by simp; omega)) (hk _ ?_)
    refine h.modify hi fun g hg => ?_
    rcases hg with ⟨h1, _⟩ | ⟨b', cap', sp', h1, h2, h3, h4', h5'⟩
    · cases h1
    · cases h1
      refine ⟨⟨_, h5'⟩, .inr ⟨b, cap, sp, rfl, h2, by rw [updL_length (by simpa using hl)]; exact h3, h4, ?_⟩⟩
      simp only [if_true]
      rw [updL_append (by simpa using hl)]
theorem set_same {L : List Atom} {i : Nat} {A : Atom} (hi : L[i]? = some A) : L.set i A = L := by
  apply List.ext_getElem?
  intro j
  by_cases hij : i = j
  · subst hij
    have hlt : i < L.length := by
      rcases Nat.lt_or_ge i L.length with h' | h'
      · exact h'
      · simp [List.getElem?_eq_none h'] at hi
    rw [List.getElem?_set_self hlt, hi]
  · rw [List.getElem?_set_ne hij]
/-- what the tables say of a slice's type -/
structure SlT (P : Program) (sT elem sz bytes : Nat) (z : Value) : Prop where
  under : P.underlying sT = some (.slice elem)
  size : tsz P elem = some sz
  byt : (P.info? elem).map (·.bytes) = some bytes
  zero : zer P elem = some z
  cells : z.cells.size = sz
  pos : 0 < sz
  bpos : 0 < bytes
theorem SlT.info {sT elem sz bytes : Nat} {z : Value} (h : SlT P sT elem sz bytes z) : ∃ i, P.info? elem = some i ∧ i.bytes = bytes := by
  have := h.byt
  cases hi : P.info? elem with
  | none => rw [hi] at this; cases this
  | some i => rw [hi] at this; exact ⟨i, rfl, Option.some.inj this⟩
theorem run_firstCells_blk {b o : Nat} {c : Array Value} {e : TypeId} {f : Nat × Nat} {sz n len cap : Nat} {cs : List Value} (h : w.heap[b]? = some (.cells c e f)) (hl : cs.length = n * sz)
    (hc : ∀ j, j < n * sz → c[o + j]? = cs[j]?) : (Builtin.firstCells sz n (.slice (some ⟨b, o, none⟩) len cap)).run P w = .ok cs.toArray w := by
  refine run_firstCells_some w sz n ⟨b, o, none⟩ len cap cs hl ?_
  intro j v hv
  have hj : j < cs.length := by
    rcases Nat.lt_or_ge j cs.length with h' | h'
    · exact h'
    · simp [List.getElem?_eq_none h'] at hv
  rw [add_spot, cell?_of_heap h, hc j (by omega), hv]
theorem run_append' {sT xT elem ty sz bytes n m capm : Nat} {z v : Value} {a : Option Addr} {cs news : List Value} (hT : SlT P sT elem sz bytes z) (hxT : ∃ e', P.underlying xT = some (.slice e'))
    (hv : (v = .slice none 0 0 ∧ n = 0 ∧ cs = []) ∨ ∃ b cap sp, v = .slice (some ⟨b, 0, none⟩) n cap ∧ n ≤ cap ∧ cs.length = n * sz ∧ sp.length = (cap - n) * sz ∧ w.heap[b]? = some (.cells (cs ++ sp).toArray elem (0, 0)))
    (hsrc : (Builtin.firstCells sz m (.slice a m capm)).run P w = .ok news.toArray w) (hsrc' : (Builtin.firstCells sz m (.slice a m capm)).run P w.drew = .ok news.toArray w.drew)
    (hnl : news.length = m * sz) (hone : news.all one = true) (hb : (n + m) * bytes ≤ 2 ^ 47) :
    (∃ b cap sp, v = .slice (some ⟨b, 0, none⟩) n cap ∧ n + m ≤ cap ∧ sp.length = (cap - n) * sz ∧ w.heap[b]? = some (.cells (cs ++ sp).toArray elem (0, 0)) ∧
      (Builtin.append_ #[sT, xT] ty #[v, .slice a m capm]).run P w = .ok (.slice (some ⟨b, 0, none⟩) (n + m) cap) (World.setBlk w b (.cells (updL (cs ++ sp) (n * sz) news).toArray elem (0, 0)))) ∨
    (v = .slice none 0 0 ∧ n = 0 ∧ m = 0 ∧ cs = [] ∧ news = [] ∧ (Builtin.append_ #[sT, xT] ty #[v, .slice a m capm]).run P w = .ok (.slice none 0 0) w) ∨
    (∃ cap sp, n + m ≤ cap ∧ sp.length = (cap - (n + m)) * sz ∧ (Builtin.append_ #[sT, xT] ty #[v, .slice a m capm]).run P w = .ok (.slice (some ⟨w.heap.size, 0, none⟩) (n + m) cap) (w.drew.alloc (.cells (cs ++ news ++ sp).toArray elem (0, 0)))) := by
  obtain ⟨inf, hinf, hbytes⟩ := hT.info
  obtain ⟨e', hx'⟩ := hxT
  have hbp := hT.bpos
  have hle : n + m ≤ 2 ^ 47 := Nat.le_trans (Nat.le_mul_of_pos_right _ hbp) hb
  have hvs : ∃ base cap, v = .slice base n cap ∧ n ≤ cap := by
    rcases hv with ⟨rfl, rfl, _⟩ | ⟨b, cap, sp, rfl, h, _⟩
    · exact ⟨none, 0, rfl, by omega⟩
    · exact ⟨_, cap, rfl, h⟩
  obtain ⟨base, cap, hvv, hncap⟩ := hvs
  have hlenOf : ∀ w : World, (Builtin.lenOf (.slice a m capm)).run P w = .ok m w := fun _ => rfl
  have hrun : (Builtin.append_ #[sT, xT] ty #[v, .slice a m capm]).run P w =
      (if n + m ≤ cap then (do
        let new ← Builtin.firstCells sz m (.slice a m capm)
        if let some a := base then storeCells (a.add (n * sz)) new.toList
        pure (.slice base (n + m) cap) : Sem Value)
      else (do
        let newCap ← choose (.appendCap (n + m) cap elem)
        askRoom (newCap * bytes)
        let old ← Builtin.firstCells sz n v
        let new ← Builtin.firstCells sz m (.slice a m capm)
        let rest := Builtin.zeroCells z.cells (newCap - (n + m))
        pure (.slice (some (← newRow elem (old ++ new ++ rest))) (n + m) newCap) : Sem Value)).run P w := by
    unfold Builtin.append_
    simp only [show (#[sT, xT] : Array TypeId)[0]? = some sT from rfl, show (#[sT, xT] : Array TypeId)[1]? = some xT from rfl, show (#[v, Value.slice a m capm] : Array Value)[0]? = some v from rfl,
      show (#[v, Value.slice a m capm] : Array Value)[1]? = some (.slice a m capm) from rfl]
    rw [run_bind_ok (run_underlying' hT.under)]
    simp only [hvv]
    rw [run_bind_ok (run_sizeOf' hT.size), run_bind_ok (run_underlying' hx'), run_bind_ok (run_pure' _ _)]
    simp only [Bool.false_eq_true, if_false]
    rw [run_bind_ok (hlenOf _)]
    by_cases hc : n + m ≤ cap
    · rw [if_pos hc, if_pos hc]
      simp only [Bool.not_false, if_true]
      rfl
    · rw [if_neg hc, if_neg hc]
      rw [run_bind_ok (run_typeInfo' hinf)]
      have e1 : ¬ (((n + m : Nat) : Int) > IntKind.i64.max ∧ (False ∨ inf.bytes = 0)) := by
        rintro ⟨_, h | h⟩
        · exact h
        · omega
      simp only [e1, if_false]
      rw [run_bind_ok (run_typeInfo' hinf)]
      have e2 : ¬ (Builtin.nextslicecap (n + m) cap * inf.bytes > 2 ^ 48) := by
        have := growslice_fits (need := n + m) (old := cap) (bytes := bytes) (by omega) (by simpa using hb)
        rw [hbytes]; omega
      rw [if_neg e2]
      rw [run_bind, run_bind]
      cases (choose (.appendCap (n + m) cap elem)).run P w with
      | halt x w' => rfl
      | ok newCap w' =>
        simp only
        rw [run_bind_ok (run_typeInfo' hinf), hbytes]
        rw [run_bind, run_bind]
        cases (askRoom (newCap * bytes)).run P w' with
        | halt x w'' => rfl
        | ok u w'' =>
          simp only
          rw [run_bind, run_bind]
          cases (Builtin.firstCells sz n (.slice base n cap)).run P w'' with
          | halt x w3 => rfl
          | ok old w3 =>
            simp only [Bool.not_false, if_true]
            rw [run_bind, run_bind]
            cases (Builtin.firstCells sz m (.slice a m capm)).run P w3 with
            | halt x w4 => rfl
            | ok new w4 =>
              simp only
              rw [run_bind_ok (run_zeroValue' hT.zero)]
  by_cases hc : n + m ≤ cap
  · rw [if_pos hc] at hrun
    rcases hv with ⟨h1, h2, h3⟩ | ⟨b, cap', sp, h1, h2, h3, h4, h5⟩
    · rw [h1] at hvv; cases hvv
      right; left
      have hm : m = 0 := by omega
      subst hm
      have hnews : news = [] := by
        have : news.length = 0 := by omega
        exact List.eq_nil_of_length_eq_zero this
      refine ⟨h1, rfl, rfl, h3, hnews, ?_⟩
      rw [hrun, run_bind_ok hsrc]
      rfl
    · rw [h1] at hvv; cases hvv
      left
      refine ⟨b, cap, sp, h1, hc, h4, h5, ?_⟩
      rw [hrun, run_bind_ok hsrc]
      simp only
      rw [add_spot, Nat.zero_add]
      have := run_storeCells' (P := P) (b := b) (e := elem) (o := n * sz) news 0 w (cs ++ sp) h5 hone (by
        simp only [List.length_append, h3, h4, hnl, Nat.add_zero]
        rw [← Nat.add_mul, ← Nat.add_mul]
        exact Nat.mul_le_mul_right _ (by omega))
      rw [Nat.add_zero] at this
      rw [run_bind_ok this]
      rfl
  · rw [if_neg hc] at hrun
    right; right
    have hold : (Builtin.firstCells sz n v).run P w.drew = .ok cs.toArray w.drew := by
      rcases hv with ⟨rfl, rfl, rfl⟩ | ⟨b, cap', sp, rfl, h2, h3, h4, h5⟩
      · exact run_firstCells_none _ _ _ _ _
      · refine run_firstCells_blk (w := w.drew) (c := (cs ++ sp).toArray) h5 h3 ?_
        intro j hj
        rw [Nat.zero_add]
        simp only [List.getElem?_toArray]
        exact List.getElem?_append_left (by omega)
    obtain ⟨newCap, hcap, hch⟩ : ∃ newCap, n + m ≤ newCap ∧ (choose (.appendCap (n + m) cap elem)).run P w = .ok newCap w.drew := by
      refine ⟨(Question.appendCap (n + m) cap elem).cut (w.tape w.drawn (.appendCap (n + m) cap elem)), ?_, rfl⟩
      simp only [Question.cut]; omega
    refine ⟨newCap, (Builtin.zeroCells z.cells (newCap - (n + m))).toList, hcap, ?_, ?_⟩
    · simp only [Builtin.zeroCells, hT.cells]; simp
    · rw [hrun, run_bind_ok hch, run_bind_ok (v := ()) (w' := w.drew) (by unfold askRoom; split <;> rfl), run_bind_ok hold, run_bind_ok hsrc']
      simp only
      rw [run_bind_ok (run_newRow _ _), run_pure']
      congr 3
      apply Array.toList_inj.1
      simp
/-- an append to a slice of one's own -/
theorem Own.ap (h : Own B w L) {sT xT elem ty sz bytes n m capm : Nat} {z v : Value} {a : Option Addr} {cs news : List Value} (hT : SlT P sT elem sz bytes z) (hxT : ∃ e', P.underlying xT = some (.slice e'))
    (i : Nat) (hi : L[i]? = some (sl elem sz v n cs)) (hsrc : ∀ w', w'.heap = w.heap → (Builtin.firstCells sz m (.slice a m capm)).run P w' = .ok news.toArray w') (hnl : news.length = m * sz) (hone : news.all one = true)
    (hb : (n + m) * bytes ≤ 2 ^ 47) {k : Value → World → Prop} (hk : ∀ v' w', Own B w' (L.set i (sl elem sz v' (n + m) (cs ++ news))) → k v' w') : AP P #[sT, xT] ty [v, .slice a m capm] w k := by
  unfold AP
  have hcs := h.slCells i hi
  rcases run_append' (ty := ty) hT hxT (h.slGet hi) (hsrc w rfl) (hsrc w.drew rfl) hnl hone hb with ⟨b, cap, sp, rfl, h2, h3, h4, h5⟩ | ⟨rfl, rfl, rfl, rfl, rfl, h5⟩ | ⟨cap, sp, h2, h3, h5⟩
  · refine Rn.mk h5 (hk _ _ (h.modify hi fun g hg => ?_))
    rcases hg with ⟨h1, _⟩ | ⟨b', cap', sp', h1, h2', h3', h4', h5'⟩
    · cases h1
    · cases h1
      refine ⟨⟨_, h5'⟩, .inr ⟨b, cap, sp.drop (m * sz), rfl, h2, by simp [hcs, hnl, Nat.add_mul], ?_, ?_⟩⟩
      · simp only [List.length_drop, h3]
        rw [← Nat.sub_mul]; congr 1; omega
      · simp only [if_true]
        have : updL (cs ++ sp) (n * sz) news = cs ++ news ++ sp.drop (m * sz) := by
          unfold updL
          rw [List.take_append_of_le_length (by omega), List.take_of_length_le (by omega), hnl, List.drop_append]
          rw [List.drop_of_length_le (by omega)]
          simp only [List.nil_append, List.append_assoc]
          congr 3; omega
        rw [this]
  · refine Rn.mk h5 (hk _ _ ?_)
    have e : L.set i (sl elem sz (.slice none 0 0) (0 + 0) ([] ++ [])) = L := by
      exact set_same hi
    rw [e]; exact h
  · refine Rn.mk h5 (hk _ _ ?_)
    refine Own.perm ?_ (perm_set hi)
    refine ((h.drop i).drew).new _ fun g hg => .inr ⟨w.heap.size, cap, sp, rfl, h2, by simp [hcs, hnl, Nat.add_mul], h3, ?_⟩
    exact hg
end
end Go.Proofs.Ytedcfkigfcobaaa
end
/- Steps of a walk through a printed body. -/
section
namespace Go.Proofs.Ytedcfkigfcobaaa
open Go Go.Proofs

theorem nC_p {a : Addr} : nC (.pointer (some a)) = some (.pointer (some a)) := rfl
theorem fA_0 {n b : Nat} : fA n (.pointer (some ⟨b, 0, none⟩)) = some (.pointer (some ⟨b, n, none⟩)) := by simp [fA]
theorem fA_p {n b o : Nat} : fA n (.pointer (some ⟨b, o, none⟩)) = some (.pointer (some ⟨b, o + n, none⟩)) := rfl
theorem iS_0 {sz b n cap : Nat} {k : IntKind} {j : Int} (h0 : 0 ≤ j) (h1 : j < n) : iS sz (.slice (some ⟨b, 0, none⟩) n cap) (.int k j) = some (.pointer (some ⟨b, j.toNat * sz, none⟩)) := by
  simp only [iS]; rw [if_pos ⟨h0, h1⟩, Nat.zero_add]
theorem lenS_s {a : Option Addr} {n cap : Nat} : lenS (.slice a n cap) = some (.int .i64 n) := rfl
theorem wrap_in {a : Int} (h : -9223372036854775808 ≤ a ∧ a < 9223372036854775808) : IntKind.i64.wrap a = a := by rw [IntKind.wrap_i64]; omega
theorem bi_add {a b : Int} (h : -9223372036854775808 ≤ a + b ∧ a + b < 9223372036854775808) : bi .add (.int .i64 a) (.int .i64 b) = some (.int .i64 (a + b)) := by simp [bi, biI, wrap_in h]
theorem bi_sub {a b : Int} (h : -9223372036854775808 ≤ a - b ∧ a - b < 9223372036854775808) : bi .sub (.int .i64 a) (.int .i64 b) = some (.int .i64 (a - b)) := by simp [bi, biI, wrap_in h]
theorem O.add {a b : Int} {k : Value → Prop} (h : -9223372036854775808 ≤ a + b ∧ a + b < 9223372036854775808) (hk : k (.int .i64 (a + b))) : O (bi .add (.int .i64 a) (.int .i64 b)) k := O.mk (bi_add h) hk
theorem O.sub {a b : Int} {k : Value → Prop} (h : -9223372036854775808 ≤ a - b ∧ a - b < 9223372036854775808) (hk : k (.int .i64 (a - b))) : O (bi .sub (.int .i64 a) (.int .i64 b)) k := O.mk (bi_sub h) hk
theorem O.rd {a v : Value} {w : World} {k : Value → Prop} (h : rd1 a w = some v) (hk : k v) : O (rd1 a w) k := O.mk h hk
theorem bi_addw {k : IntKind} {a b : Int} : bi .add (.int k a) (.int k b) = some (.int k (k.wrap (a + b))) := by simp [bi, biI]
theorem bi_subw {k : IntKind} {a b : Int} : bi .sub (.int k a) (.int k b) = some (.int k (k.wrap (a - b))) := by simp [bi, biI]
theorem bi_mulw {k : IntKind} {a b : Int} : bi .mul (.int k a) (.int k b) = some (.int k (k.wrap (a * b))) := by simp [bi, biI]
theorem bi_lss {k : IntKind} {a b : Int} : bi .lss (.int k a) (.int k b) = some (.bool (decide (a < b))) := by simp [bi, biI]
theorem bi_leq {k : IntKind} {a b : Int} : bi .leq (.int k a) (.int k b) = some (.bool (decide (a ≤ b))) := by simp [bi, biI]
theorem bi_gtr {k : IntKind} {a b : Int} : bi .gtr (.int k a) (.int k b) = some (.bool (decide (b < a))) := by simp [bi, biI]
theorem bi_geq {k : IntKind} {a b : Int} : bi .geq (.int k a) (.int k b) = some (.bool (decide (b ≤ a))) := by simp [bi, biI]
theorem bi_eql {k : IntKind} {a b : Int} : bi .eql (.int k a) (.int k b) = some (.bool (decide (a = b))) := by
  simp only [bi, biI, if_true]; congr 2
theorem bi_neq {k : IntKind} {a b : Int} : bi .neq (.int k a) (.int k b) = some (.bool (decide (a ≠ b))) := by
  simp only [bi, biI, if_true, bne]; congr 2; exact Bool.eq_iff_iff.2 (by simp)
theorem un_not {p : Prop} [Decidable p] : un .not (.bool (decide p)) = some (.bool (decide (¬ p))) := by simp [un]
theorem un_notb {b : Bool} : un .not (.bool b) = some (.bool (!b)) := rfl
theorem Bc_dec {p : Prop} [Decidable p] {A B : Prop} (ha : p → A) (hb : ¬ p → B) : Bc (.bool (decide p)) A B := by
  by_cases h : p
  · simp only [h, decide_true]; exact ha h
  · simp only [h, decide_false]; exact hb h
theorem Bc_b {b : Bool} {A B : Prop} (ha : b = true → A) (hb : b = false → B) : Bc (.bool b) A B := by
  cases b
  · exact hb rfl
  · exact ha rfl
theorem Bc_t {A B : Prop} (ha : A) : Bc (.bool true) A B := ha
theorem Bc_f {A B : Prop} (hb : B) : Bc (.bool false) A B := hb
/-- a call, by what is known of it -/
theorem Cl.use {P : Program} {f : FuncId} {args : List Value} {w : World} {R k : Value → World → Prop} (h : Cl P f args w R) (hk : ∀ v w', R v w' → k v w') : Cl P f args w k := h.mono hk

/-! ## Cells of a list's elements -/
theorem flat_get {α : Type} {enc : α → List Value} {sz : Nat} (hsz : ∀ x, (enc x).length = sz) : ∀ {xs : List α} {i j : Nat} {x : α} {v : Value}, xs[i]? = some x → (enc x)[j]? = some v → (xs.flatMap enc)[i * sz + j]? = some v := by
  intro xs
  induction xs with
  | nil => intro i j x v h; simp at h
  | cons y xs ih =>
    intro i j x v hx hv
    have hj : j < sz := by
      rw [← hsz x]
      rcases Nat.lt_or_ge j (enc x).length with h' | h'
      · exact h'
      · simp [List.getElem?_eq_none h'] at hv
    rw [List.flatMap_cons]
    cases i with
    | zero =>
      simp only [List.getElem?_cons_zero, Option.some.injEq] at hx
      subst hx
      rw [Nat.zero_mul, Nat.zero_add, List.getElem?_append_left (by rw [hsz]; exact hj)]
      exact hv
    | succ i =>
      simp only [List.getElem?_cons_succ] at hx
      rw [List.getElem?_append_right (by rw [hsz, Nat.add_mul]; omega), hsz]
      rw [show (i + 1) * sz + j - sz = i * sz + j from by rw [Nat.add_mul]; omega]
      exact ih hx hv
theorem flat_drop {α : Type} {enc : α → List Value} {sz : Nat} (hsz : ∀ x, (enc x).length = sz) : ∀ {xs : List α} {i : Nat} {x : α}, xs[i]? = some x → ((xs.flatMap enc).drop (i * sz)).take sz = enc x := by
  intro xs
  induction xs with
  | nil => intro i x h; simp at h
  | cons y xs ih =>
    intro i x hx
    rw [List.flatMap_cons]
    cases i with
    | zero =>
      simp only [List.getElem?_cons_zero, Option.some.injEq] at hx
      subst hx
      rw [Nat.zero_mul, List.drop_zero, List.take_append_of_le_length (by rw [hsz]; omega), List.take_of_length_le (by rw [hsz]; omega)]
    | succ i =>
      simp only [List.getElem?_cons_succ] at hx
      rw [show (i + 1) * sz = (enc y).length + i * sz from by rw [hsz, Nat.add_mul]; omega, List.drop_append]
      simp only [Nat.add_sub_cancel_left]
      rw [List.drop_of_length_le (by omega), List.nil_append]
      exact ih hx
theorem flat_len {α : Type} {enc : α → List Value} {sz : Nat} (hsz : ∀ x, (enc x).length = sz) (xs : List α) : (xs.flatMap enc).length = xs.length * sz := by
  induction xs with
  | nil => simp
  | cons y xs ih => rw [List.flatMap_cons, List.length_append, hsz, ih, List.length_cons, Nat.add_mul]; omega
theorem flat_upd {α : Type} {enc : α → List Value} {sz : Nat} (hsz : ∀ x, (enc x).length = sz) : ∀ {xs : List α} {i j : Nat} {x x' : α} {ys : List Value}, xs[i]? = some x → j + ys.length ≤ sz → updL (enc x) j ys = enc x' →
    updL (xs.flatMap enc) (i * sz + j) ys = (xs.set i x').flatMap enc := by
  intro xs
  induction xs with
  | nil => intro i j x x' ys h; simp at h
  | cons y xs ih =>
    intro i j x x' ys hx hj hu
    cases i with
    | zero =>
      simp only [List.getElem?_cons_zero, Option.some.injEq] at hx
      subst hx
      rw [List.flatMap_cons, List.set_cons_zero, List.flatMap_cons, Nat.zero_mul, Nat.zero_add, updL_append (by rw [hsz]; exact hj), hu]
    | succ i =>
      simp only [List.getElem?_cons_succ] at hx
      rw [List.flatMap_cons, List.set_cons_succ, List.flatMap_cons, ← ih hx hj hu]
      unfold updL
      have e : (i + 1) * sz + j = (enc y).length + (i * sz + j) := by rw [hsz, Nat.add_mul]; omega
      rw [e, List.take_append, Nat.add_assoc, List.drop_append]
      simp only [Nat.add_sub_cancel_left]
      rw [List.take_of_length_le (by omega), List.drop_of_length_le (by omega)]
      simp
def ints (l : List Int) : List Value := l.map (.int .i64 ·)
def bools (l : List Bool) : List Value := l.map (.bool ·)
theorem ints_get {l : List Int} {i : Nat} {x : Int} (h : l[i]? = some x) : (ints l)[i]? = some (.int .i64 x) := by simp [ints, h]
theorem bools_get {l : List Bool} {i : Nat} {x : Bool} (h : l[i]? = some x) : (bools l)[i]? = some (.bool x) := by simp [bools, h]
theorem ints_upd {l : List Int} {i : Nat} {x : Int} (h : i < l.length) : updL (ints l) i [.int .i64 x] = ints (l.set i x) := by
  unfold updL ints
  rw [List.map_set, List.set_eq_take_append_cons_drop, if_pos (by simpa using h)]
  simp
theorem bools_upd {l : List Bool} {i : Nat} {x : Bool} (h : i < l.length) : updL (bools l) i [.bool x] = bools (l.set i x) := by
  unfold updL bools
  rw [List.map_set, List.set_eq_take_append_cons_drop, if_pos (by simpa using h)]
  simp
theorem int_get {l : List Int} {j : Int} (h0 : 0 ≤ j) (h1 : j < l.length) : ∃ x, l[j.toNat]? = some x := ⟨_, List.getElem?_eq_getElem (by omega)⟩
theorem list_get {α : Type} {l : List α} {j : Nat} (h1 : j < l.length) : ∃ x, l[j]? = some x := ⟨_, List.getElem?_eq_getElem h1⟩
theorem list_lt {α : Type} {l : List α} {j : Nat} {x : α} (h : l[j]? = some x) : j < l.length := by
  rcases Nat.lt_or_ge j l.length with h' | h'
  · exact h'
  · simp [List.getElem?_eq_none h'] at h

/-! ## One of many -/
section
variable {B : Base} {w : World} {L : List Atom} {α : Type}
theorem perm_pull' {xs : List α} {f : α → Atom} {k : Nat} {x : α} (hk : xs[k]? = some x) : (xs.map f).Perm (f x :: (xs.eraseIdx k).map f) := by
  have h := perm_pull (L := xs.map f) (i := k) (A := f x) (by simp [hk])
  have e : ∀ (xs : List α) (k : Nat), (xs.map f).eraseIdx k = (xs.eraseIdx k).map f := by
    intro xs
    induction xs with
    | nil => intro k; rfl
    | cons y xs ih => intro k; cases k with
      | zero => rfl
      | succ k => simp [ih]
  rw [e] at h
  exact h
/-- take one of many out -/
theorem Own.out (h : Own B w L) {i : Nat} {xs : List α} {f : α → Atom} (hi : L[i]? = some (sep (xs.map f))) {k : Nat} {x : α} (hk : xs[k]? = some x) :
    Own B w (f x :: sep ((xs.eraseIdx k).map f) :: L.eraseIdx i) := by
  have h1 := (h.pull i hi).unfold (L1 := xs.map f)
  have h2 : Own B w (f x :: (xs.eraseIdx k).map f ++ L.eraseIdx i) := h1.perm ((perm_pull' hk).append_right _)
  have h3 : Own B w (((xs.eraseIdx k).map f ++ L.eraseIdx i) ++ [f x]) := h2.perm (by
    rw [List.cons_append]
    exact (List.perm_append_comm (l₁ := [f x]) (l₂ := (xs.eraseIdx k).map f ++ L.eraseIdx i)))
  rw [List.append_assoc] at h3
  have h4 := h3.fold
  exact h4.perm (by
    have : (sep ((xs.eraseIdx k).map f) :: (L.eraseIdx i ++ [f x])).Perm (sep ((xs.eraseIdx k).map f) :: (f x :: L.eraseIdx i)) := List.Perm.cons _ (List.perm_append_comm (l₁ := L.eraseIdx i) (l₂ := [f x]))
    exact this.trans (.swap _ _ _))
/-- put it, turned perhaps, back -/
theorem Own.back {xs : List α} {f : α → Atom} {k : Nat} {x' : α} (hk : k < xs.length) {F : List Atom} (h : Own B w (f x' :: sep ((xs.eraseIdx k).map f) :: F)) :
    Own B w (sep ((xs.set k x').map f) :: F) := by
  have h1 : Own B w (sep ((xs.eraseIdx k).map f) :: (F ++ [f x'])) := h.perm ((List.Perm.swap _ _ _).trans (List.Perm.cons _ (List.perm_append_comm (l₁ := [f x']) (l₂ := F))))
  have h2 := h1.unfold (L1 := (xs.eraseIdx k).map f)
  have h3 : Own B w ((xs.set k x').map f ++ F) := h2.perm (by
    have e : ((xs.set k x').map f).Perm (f x' :: (xs.eraseIdx k).map f) := by
      have := perm_pull' (xs := xs.set k x') (f := f) (k := k) (x := x') (by simp [hk])
      rwa [List.eraseIdx_set_eq] at this
    have : ((xs.eraseIdx k).map f ++ (F ++ [f x'])).Perm (f x' :: ((xs.eraseIdx k).map f ++ F)) := by
      rw [← List.append_assoc]
      exact List.perm_append_comm (l₁ := (xs.eraseIdx k).map f ++ F) (l₂ := [f x'])
    refine this.trans ?_
    rw [← List.cons_append]
    exact (e.symm).append_right F)
  exact h3.fold
end
/-! The pure steps by their shape: a walk takes them by three words. -/
class Ps {α : Type} (e : Option α) (v : outParam α) : Prop where
  eq : e = some v
instance {a : Addr} : Ps (nC (.pointer (some a))) (.pointer (some a)) := ⟨nC_p⟩
instance {n b o : Nat} : Ps (fA n (.pointer (some ⟨b, o, none⟩))) (.pointer (some ⟨b, o + n, none⟩)) := ⟨fA_p⟩
instance {n b : Nat} : Ps (fA n (.pointer (some ⟨b, 0, none⟩))) (.pointer (some ⟨b, n, none⟩)) := ⟨fA_0⟩
instance {a : Option Addr} {n cap : Nat} : Ps (lenS (.slice a n cap)) (.int .i64 n) := ⟨lenS_s⟩
instance {k : IntKind} {a b : Int} : Ps (bi .lss (.int k a) (.int k b)) (.bool (decide (a < b))) := ⟨bi_lss⟩
instance {k : IntKind} {a b : Int} : Ps (bi .leq (.int k a) (.int k b)) (.bool (decide (a ≤ b))) := ⟨bi_leq⟩
instance {k : IntKind} {a b : Int} : Ps (bi .gtr (.int k a) (.int k b)) (.bool (decide (b < a))) := ⟨bi_gtr⟩
instance {k : IntKind} {a b : Int} : Ps (bi .geq (.int k a) (.int k b)) (.bool (decide (b ≤ a))) := ⟨bi_geq⟩
instance {k : IntKind} {a b : Int} : Ps (bi .eql (.int k a) (.int k b)) (.bool (decide (a = b))) := ⟨bi_eql⟩
instance {k : IntKind} {a b : Int} : Ps (bi .neq (.int k a) (.int k b)) (.bool (decide (a ≠ b))) := ⟨bi_neq⟩
instance {b : Bool} : Ps (un .not (.bool b)) (.bool (!b)) := ⟨un_notb⟩
instance {p : Prop} [Decidable p] : Ps (un .not (.bool (decide p))) (.bool (decide (¬ p))) := ⟨un_not⟩
theorem qq {α : Type} {e : Option α} {v : α} [h : Ps e v] {k : α → Prop} (hk : k v) : O e k := O.mk h.eq hk
class Pb (b : Value) (A B : Prop) (C : outParam Prop) : Prop where
  of : C → Bc b A B
instance {A B : Prop} : Pb (.bool true) A B A := ⟨Bc_t⟩
instance {A B : Prop} : Pb (.bool false) A B B := ⟨Bc_f⟩
theorem qr {b : Value} {A B C : Prop} [h : Pb b A B C] (hc : C) : Bc b A B := h.of hc
class Pc (e : Option Value) (c : outParam Prop) (v : outParam Value) : Prop where
  eq : c → e = some v
instance {a b : Int} : Pc (bi .add (.int .i64 a) (.int .i64 b)) (-9223372036854775808 ≤ a + b ∧ a + b < 9223372036854775808) (.int .i64 (a + b)) := ⟨bi_add⟩
instance {a b : Int} : Pc (bi .sub (.int .i64 a) (.int .i64 b)) (-9223372036854775808 ≤ a - b ∧ a - b < 9223372036854775808) (.int .i64 (a - b)) := ⟨bi_sub⟩
theorem qs {e : Option Value} {c : Prop} {v : Value} [h : Pc e c v] {k : Value → Prop} (hk : k v) (hc : c := by omega) : O e k := O.mk (h.eq hc) hk
theorem Own.l {B : Base} {w : World} {L : List Atom} {b : Nat} {t : TypeId} {vs : List Value} {o : Nat} {v : Value} {k : Value → Prop} (h : Own B w L) (i : Nat) (hk : k v)
    (hi : L[i]? = some (bk b t vs) := by with_unfolding_all rfl) (hv : vs[o]? = some v := by with_unfolding_all rfl) : O (rd1 (.pointer (some ⟨b, o, none⟩)) w) k := O.mk (h.rd1_bk i hi hv) hk
end Go.Proofs.Ytedcfkigfcobaaa
end
/- Printed by wip/tools/gen.py: the bodies of functions 5 34 33 14 35 15 16 with named temporaries, tied to the loaded program. -/
section
set_option maxRecDepth 100000
namespace Go.Proofs.Ytedcfkigfcobaaa
open Go Go.Proofs
def j5_1 (R : Value → World → Prop) (t1 : Value) (t4 : Value) (t5 : Value) (t3_1 : Value) (I1 : Value → Value → World → Prop) (μ1 : Value → Value → World → Nat) (wh1 : World) (I0 : Value → Value → World → Prop) (μ0 : Value → Value → World → Nat) (t3 : Value) (wh0 : World) (t65 : Value) (w : World) : Prop :=
 Bc t65
 (O (fA 3 t1) fun t69 =>
 O (rd1 t69 w) fun t70 =>
 O (iS 4 t70 t4) fun t72 =>
 O (fA 3 t72) fun t73 =>
 O (rd1 t73 w) fun t74 =>
 O (iS 8 t74 t5) fun t76 =>
 O (fA 5 t76) fun t77 =>
 O (rd1 t77 w) fun t78 =>
 O (lenS t78) fun t79 =>
 O (bi .add t3_1 t79) fun t80 =>
 O (bi .add t5 (.int .i64 1)) fun t67 =>
 I1 t80 t67 w ∧ μ1 t80 t67 w < μ1 t3_1 t5 wh1)
 (O (bi .add t4 (.int .i64 1)) fun t43 =>
 I0 t3_1 t43 w ∧ μ0 t3_1 t43 w < μ0 t3 t4 wh0)
def j5_0 (R : Value → World → Prop) (t1 : Value) (t4 : Value) (t3 : Value) (I0 : Value → Value → World → Prop) (μ0 : Value → Value → World → Nat) (wh0 : World) (t41 : Value) (w : World) : Prop :=
 Bc t41
 (O (fA 3 t1) fun t45 =>
 O (rd1 t45 w) fun t46 =>
 O (iS 4 t46 t4) fun t48 =>
 O (fA 3 t48) fun t49 =>
 O (rd1 t49 w) fun t50 =>
 O (lenS t50) fun t51 =>
 O (bi .add t3 t51) fun t52 =>
 ∃ (I1 : Value → Value → World → Prop) (μ1 : Value → Value → World → Nat), I1 t52 (.int .i64 0) w ∧ ∀ (t3_1 : Value) (t5 : Value) wh1, I1 t3_1 t5 wh1 →
 O (fA 3 t1) fun t54 =>
 O (rd1 t54 wh1) fun t55 =>
 O (iS 4 t55 t4) fun t57 =>
 O (fA 3 t57) fun t58 =>
 O (rd1 t58 wh1) fun t59 =>
 O (lenS t59) fun t60 =>
 O (bi .lss t5 t60) fun t61 =>
 Bc t61
 (O (bi .lss t5 (.int .i64 3000)) fun t64 =>
 j5_1 R t1 t4 t5 t3_1 I1 μ1 wh1 I0 μ0 t3 wh0 t64 wh1)
 (j5_1 R t1 t4 t5 t3_1 I1 μ1 wh1 I0 μ0 t3 wh0 (.bool false) wh1))
 (O (bi .gtr t3 (.int .i64 3000)) fun t82 =>
 R t82 w)
def c5 (R : Value → World → Prop) (t0 : Value) (w : World) : Prop :=
 AL (.cells (Value.cells t0) 30) w fun t1 w =>
 O (fA 0 t1) fun t6 =>
 O (rd1 t6 w) fun t7 =>
 O (lenS t7) fun t8 =>
 O (fA 1 t1) fun t9 =>
 O (rd1 t9 w) fun t10 =>
 O (lenS t10) fun t11 =>
 O (bi .add t8 t11) fun t12 =>
 O (fA 2 t1) fun t13 =>
 O (rd1 t13 w) fun t14 =>
 O (lenS t14) fun t15 =>
 O (bi .add t12 t15) fun t16 =>
 O (fA 4 t1) fun t17 =>
 O (rd1 t17 w) fun t18 =>
 O (lenS t18) fun t19 =>
 O (bi .add t16 t19) fun t20 =>
 O (fA 5 t1) fun t21 =>
 O (rd1 t21 w) fun t22 =>
 O (lenS t22) fun t23 =>
 O (bi .add t20 t23) fun t24 =>
 O (fA 3 t1) fun t25 =>
 O (rd1 t25 w) fun t26 =>
 O (lenS t26) fun t27 =>
 O (bi .add t24 t27) fun t28 =>
 O (fA 7 t1) fun t29 =>
 O (rd1 t29 w) fun t30 =>
 O (lenS t30) fun t31 =>
 O (bi .add t28 t31) fun t32 =>
 ∃ (I0 : Value → Value → World → Prop) (μ0 : Value → Value → World → Nat), I0 t32 (.int .i64 0) w ∧ ∀ (t3 : Value) (t4 : Value) wh0, I0 t3 t4 wh0 →
 O (fA 3 t1) fun t34 =>
 O (rd1 t34 wh0) fun t35 =>
 O (lenS t35) fun t36 =>
 O (bi .lss t4 t36) fun t37 =>
 Bc t37
 (O (bi .lss t4 (.int .i64 200)) fun t40 =>
 j5_0 R t1 t4 t3 I0 μ0 wh0 t40 wh0)
 (j5_0 R t1 t4 t3 I0 μ0 wh0 (.bool false) wh0)
def p5 : Plan := .seq (.leaf) (.seq (.leaf) (.seq (.seq (.leaf) (.block (.loop [3, 4] [1] (.seq (.join [41] [1, 3, 4] (.leaf) (.cond (.leaf) (.leaf))) (.seq (.block (.seq (.leaf) (.seq (.leaf) (.block (.loop [3, 5] [1, 4] (.seq (.join [65] [1, 3, 4, 5] (.leaf) (.cond (.leaf) (.leaf))) (.seq (.block (.leaf)) (.leaf)))))))) (.leaf)))))) (.seq (.leaf) (.leaf))))
theorem e5 (R : Value → World → Prop) (t0 : Value) (w : World) : cw Try.prog 83 p5 (Try.f5.body.getD .skip) (fnQ Try.prog Try.f5.results.toList R) (argE 0 [t0]) w = c5 R t0 w := by kernel_rfl
theorem b5 : Try.f5.body = some (Try.f5.body.getD .skip) := by kernel_rfl
theorem s5 {R : Value → World → Prop} {t0 : Value} {w : World} (h : c5 R t0 w) : Cl Try.prog 5 [t0] w R :=
  calls_of_cw mixed p5 Try.func5 b5 Try.ntmps5 (by simp) (by rw [e5]; exact h)
def c34 (R : Value → World → Prop) (t0 : Value) (t1 : Value) (w : World) : Prop :=
 O (bi .geq t0 (.int .i64 0)) fun t6 =>
 Bc t6
 (O (bi .lss t0 t1) fun t10 =>
 R t10 w)
 (R (.bool false) w)
def p34 : Plan := .seq (.leaf) (.seq (.leaf) (.leaf))
theorem e34 (R : Value → World → Prop) (t0 : Value) (t1 : Value) (w : World) : cw Try.prog 12 p34 (Try.f34.body.getD .skip) (fnQ Try.prog Try.f34.results.toList R) (argE 0 [t0, t1]) w = c34 R t0 t1 w := by kernel_rfl
theorem b34 : Try.f34.body = some (Try.f34.body.getD .skip) := by kernel_rfl
theorem s34 {R : Value → World → Prop} {t0 : Value} {t1 : Value} {w : World} (h : c34 R t0 t1 w) : Cl Try.prog 34 [t0, t1] w R :=
  calls_of_cw mixed p34 Try.func34 b34 Try.ntmps34 (by simp) (by rw [e34]; exact h)
def c33 (R : Value → World → Prop) (t0 : Value) (t1 : Value) (w : World) : Prop :=
 AL (.cells (Value.cells t0) 30) w fun t2 w =>
 O (fA 3 t2) fun t6 =>
 O (rd1 t6 w) fun t7 =>
 O (lenS t7) fun t8 =>
 Cl Try.prog 34 [t1, t8] w fun t9 w =>
 Bc t9
 (O (fA 3 t2) fun t11 =>
 O (rd1 t11 w) fun t12 =>
 O (iS 4 t12 t1) fun t14 =>
 O (fA 1 t14) fun t15 =>
 O (rd1 t15 w) fun t16 =>
 O (bi .eql t16 (.int .i64 0)) fun t17 =>
 R t17 w)
 (R (.bool false) w)
def p33 : Plan := .seq (.leaf) (.seq (.leaf) (.leaf))
theorem e33 (R : Value → World → Prop) (t0 : Value) (t1 : Value) (w : World) : cw Try.prog 19 p33 (Try.f33.body.getD .skip) (fnQ Try.prog Try.f33.results.toList R) (argE 0 [t0, t1]) w = c33 R t0 t1 w := by kernel_rfl
theorem b33 : Try.f33.body = some (Try.f33.body.getD .skip) := by kernel_rfl
theorem s33 {R : Value → World → Prop} {t0 : Value} {t1 : Value} {w : World} (h : c33 R t0 t1 w) : Cl Try.prog 33 [t0, t1] w R :=
  calls_of_cw mixed p33 Try.func33 b33 Try.ntmps33 (by simp) (by rw [e33]; exact h)
def j14_1 (R : Value → World → Prop) (t3 : Value) (I0 : Value → World → Prop) (μ0 : Value → World → Nat) (wh0 : World) (t91 : Value) (w : World) : Prop :=
 Bc t91
 (R (.bool false) w)
 (O (bi .add t3 (.int .i64 1)) fun t66 =>
 I0 t66 w ∧ μ0 t66 w < μ0 t3 wh0)
def j14_2 (R : Value → World → Prop) (t5 : Value) (I2 : Value → World → Prop) (μ2 : Value → World → Nat) (wh2 : World) (t124 : Value) (w : World) : Prop :=
 Bc t124
 (R (.bool false) w)
 (O (bi .add t5 (.int .i64 1)) fun t102 =>
 I2 t102 w ∧ μ2 t102 w < μ2 t5 wh2)
def j14_3 (R : Value → World → Prop) (t6 : Value) (I3 : Value → World → Prop) (μ3 : Value → World → Nat) (wh3 : World) (t164 : Value) (w : World) : Prop :=
 Bc t164
 (R (.bool false) w)
 (O (bi .add t6 (.int .i64 1)) fun t142 =>
 I3 t142 w ∧ μ3 t142 w < μ3 t6 wh3)
def j14_0 (R : Value → World → Prop) (t1 : Value) (t59 : Value) (w : World) : Prop :=
 Bc t59
 (R (.bool false) w)
 (∃ (I0 : Value → World → Prop) (μ0 : Value → World → Nat), I0 (.int .i64 0) w ∧ ∀ (t3 : Value) wh0, I0 t3 wh0 →
 O (fA 1 t1) fun t61 =>
 O (rd1 t61 wh0) fun t62 =>
 O (lenS t62) fun t63 =>
 O (bi .lss t3 t63) fun t64 =>
 Bc t64
 (Dr wh0 fun w =>
 O (fA 1 t1) fun t67 =>
 O (rd1 t67 w) fun t68 =>
 O (iS 3 t68 t3) fun t70 =>
 O (fA 2 t70) fun t71 =>
 O (rd1 t71 w) fun t72 =>
 O (lenS t72) fun t73 =>
 O (bi .gtr t73 (.int .i64 8)) fun t74 =>
 Bc t74
 (j14_1 R t3 I0 μ0 wh0 (.bool true) w)
 (O (fA 1 t1) fun t76 =>
 O (rd1 t76 w) fun t77 =>
 O (iS 3 t77 t3) fun t79 =>
 O (fA 1 t79) fun t80 =>
 O (rd1 t80 w) fun t81 =>
 O (lenS t81) fun t82 =>
 O (fA 1 t1) fun t83 =>
 O (rd1 t83 w) fun t84 =>
 O (iS 3 t84 t3) fun t86 =>
 O (fA 2 t86) fun t87 =>
 O (rd1 t87 w) fun t88 =>
 O (lenS t88) fun t89 =>
 O (bi .neq t82 t89) fun t90 =>
 j14_1 R t3 I0 μ0 wh0 t90 w))
 (∃ (I1 : Value → World → Prop) (μ1 : Value → World → Nat), I1 (.int .i64 0) wh0 ∧ ∀ (t4 : Value) wh1, I1 t4 wh1 →
 O (fA 4 t1) fun t93 =>
 O (rd1 t93 wh1) fun t94 =>
 O (lenS t94) fun t95 =>
 O (bi .lss t4 t95) fun t96 =>
 Bc t96
 (∃ (I2 : Value → World → Prop) (μ2 : Value → World → Nat), I2 (.int .i64 0) wh1 ∧ ∀ (t5 : Value) wh2, I2 t5 wh2 →
 O (bi .lss t5 (.int .i64 4)) fun t100 =>
 Bc t100
 (Dr wh2 fun w =>
 O (fA 4 t1) fun t103 =>
 O (rd1 t103 w) fun t104 =>
 O (iS 6 t104 t4) fun t107 =>
 O (fA 2 t107) fun t108 =>
 O (iA 4 1 t108 t5) fun t109 =>
 O (rd1 t109 w) fun t110 =>
 O (bi .geq t110 (.int .i64 0)) fun t111 =>
 Bc t111
 (O (rdN 8 t1 w) fun t113 =>
 O (fA 4 t1) fun t114 =>
 O (rd1 t114 w) fun t115 =>
 O (iS 6 t115 t4) fun t118 =>
 O (fA 2 t118) fun t119 =>
 O (iA 4 1 t119 t5) fun t120 =>
 O (rd1 t120 w) fun t121 =>
 Cl Try.prog 33 [t113, t121] w fun t122 w =>
 O (un .not t122) fun t123 =>
 j14_2 R t5 I2 μ2 wh2 t123 w)
 (j14_2 R t5 I2 μ2 wh2 (.bool false) w))
 (Dr wh2 fun w =>
 O (fA 4 t1) fun t125 =>
 O (rd1 t125 w) fun t126 =>
 O (iS 6 t126 t4) fun t128 =>
 O (fA 1 t128) fun t129 =>
 O (rd1 t129 w) fun t130 =>
 O (fA 0 t1) fun t131 =>
 O (rd1 t131 w) fun t132 =>
 O (lenS t132) fun t133 =>
 Cl Try.prog 34 [t130, t133] w fun t134 w =>
 O (un .not t134) fun t135 =>
 Bc t135
 (R (.bool false) w)
 (O (bi .add t4 (.int .i64 1)) fun t98 =>
 I1 t98 w ∧ μ1 t98 w < μ1 t4 wh1)))
 (∃ (I3 : Value → World → Prop) (μ3 : Value → World → Nat), I3 (.int .i64 0) wh1 ∧ ∀ (t6 : Value) wh3, I3 t6 wh3 →
 O (fA 5 t1) fun t137 =>
 O (rd1 t137 wh3) fun t138 =>
 O (lenS t138) fun t139 =>
 O (bi .lss t6 t139) fun t140 =>
 Bc t140
 (Dr wh3 fun w =>
 O (fA 5 t1) fun t143 =>
 O (rd1 t143 w) fun t144 =>
 O (iS 4 t144 t6) fun t146 =>
 O (fA 1 t146) fun t147 =>
 O (rd1 t147 w) fun t148 =>
 O (fA 0 t1) fun t149 =>
 O (rd1 t149 w) fun t150 =>
 O (lenS t150) fun t151 =>
 Cl Try.prog 34 [t148, t151] w fun t152 w =>
 O (un .not t152) fun t153 =>
 Bc t153
 (j14_3 R t6 I3 μ3 wh3 (.bool true) w)
 (O (rdN 8 t1 w) fun t155 =>
 O (fA 5 t1) fun t156 =>
 O (rd1 t156 w) fun t157 =>
 O (iS 4 t157 t6) fun t159 =>
 O (fA 3 t159) fun t160 =>
 O (rd1 t160 w) fun t161 =>
 Cl Try.prog 33 [t155, t161] w fun t162 w =>
 O (un .not t162) fun t163 =>
 j14_3 R t6 I3 μ3 wh3 t163 w))
 (R (.bool true) wh3))))
def c14 (R : Value → World → Prop) (t0 : Value) (w : World) : Prop :=
 AL (.cells (Value.cells t0) 30) w fun t1 w =>
 O (fA 0 t1) fun t7 =>
 O (rd1 t7 w) fun t8 =>
 O (lenS t8) fun t9 =>
 O (bi .lss t9 (.int .i64 1)) fun t10 =>
 Bc t10
 (j14_0 R t1 (.bool true) w)
 (O (fA 0 t1) fun t12 =>
 O (rd1 t12 w) fun t13 =>
 O (lenS t13) fun t14 =>
 O (bi .gtr t14 (.int .i64 8)) fun t15 =>
 Bc t15
 (j14_0 R t1 (.bool true) w)
 (O (fA 1 t1) fun t18 =>
 O (rd1 t18 w) fun t19 =>
 O (lenS t19) fun t20 =>
 O (bi .gtr t20 (.int .i64 16)) fun t21 =>
 Bc t21
 (j14_0 R t1 (.bool true) w)
 (O (fA 2 t1) fun t24 =>
 O (rd1 t24 w) fun t25 =>
 O (lenS t25) fun t26 =>
 O (bi .gtr t26 (.int .i64 32)) fun t27 =>
 Bc t27
 (j14_0 R t1 (.bool true) w)
 (O (fA 4 t1) fun t30 =>
 O (rd1 t30 w) fun t31 =>
 O (lenS t31) fun t32 =>
 O (bi .gtr t32 (.int .i64 8)) fun t33 =>
 Bc t33
 (j14_0 R t1 (.bool true) w)
 (O (fA 5 t1) fun t36 =>
 O (rd1 t36 w) fun t37 =>
 O (lenS t37) fun t38 =>
 O (bi .gtr t38 (.int .i64 8)) fun t39 =>
 Bc t39
 (j14_0 R t1 (.bool true) w)
 (O (fA 3 t1) fun t42 =>
 O (rd1 t42 w) fun t43 =>
 O (lenS t43) fun t44 =>
 O (bi .lss t44 (.int .i64 1)) fun t45 =>
 Bc t45
 (j14_0 R t1 (.bool true) w)
 (O (fA 3 t1) fun t48 =>
 O (rd1 t48 w) fun t49 =>
 O (lenS t49) fun t50 =>
 O (bi .gtr t50 (.int .i64 64)) fun t51 =>
 Bc t51
 (j14_0 R t1 (.bool true) w)
 (O (rdN 8 t1 w) fun t54 =>
 O (fA 6 t1) fun t55 =>
 O (rd1 t55 w) fun t56 =>
 Cl Try.prog 33 [t54, t56] w fun t57 w =>
 O (un .not t57) fun t58 =>
 j14_0 R t1 t58 w))))))))
def p14 : Plan := .seq (.leaf) (.seq (.join [59] [1] (.leaf) (.cond (.seq (.leaf) (.leaf)) (.leaf))) (.seq (.seq (.leaf) (.block (.loop [3] [1] (.seq (.seq (.leaf) (.cond (.leaf) (.leaf))) (.seq (.block (.join [91] [1, 3] (.ord [0, 1, 0, 7, 15, 31, 63, 127, 255, 511, 1023, 511, 4095, 8191, 16383, 32767, 511, 66047, 511, 459263, 983551, 2032127, 4129279, 8388607, 16777215]) (.cond (.seq (.leaf) (.leaf)) (.leaf)))) (.leaf)))))) (.seq (.seq (.leaf) (.block (.loop [4] [1] (.seq (.seq (.leaf) (.cond (.leaf) (.leaf))) (.seq (.block (.seq (.seq (.leaf) (.block (.loop [5] [1, 4] (.seq (.seq (.leaf) (.cond (.leaf) (.leaf))) (.seq (.block (.join [124] [1, 4, 5] (.ord [0, 1, 0, 0, 7, 23, 63, 127, 255, 511, 1023, 1023, 3071, 1023, 1023, 15359, 48127, 130047, 261119, 524287, 1048575, 2097151]) (.cond (.seq (.leaf) (.leaf)) (.leaf)))) (.leaf)))))) (.seq (.ord [0, 1, 0, 7, 15, 31, 0, 64, 192, 511, 1023]) (.cond (.seq (.leaf) (.leaf)) (.leaf))))) (.leaf)))))) (.seq (.seq (.leaf) (.block (.loop [6] [1] (.seq (.seq (.leaf) (.cond (.leaf) (.leaf))) (.seq (.block (.join [164] [1, 6] (.ord [0, 1, 0, 7, 15, 31, 0, 64, 192, 511, 1023, 2047, 4095, 4095, 12287, 4095, 61439, 126975, 258047, 524287, 1048575, 2097151]) (.cond (.seq (.leaf) (.leaf)) (.leaf)))) (.leaf)))))) (.seq (.leaf) (.leaf))))))
theorem e14 (R : Value → World → Prop) (t0 : Value) (w : World) : cw Try.prog 165 p14 (Try.f14.body.getD .skip) (fnQ Try.prog Try.f14.results.toList R) (argE 0 [t0]) w = c14 R t0 w := by kernel_rfl
theorem b14 : Try.f14.body = some (Try.f14.body.getD .skip) := by kernel_rfl
theorem s14 {R : Value → World → Prop} {t0 : Value} {w : World} (h : c14 R t0 w) : Cl Try.prog 14 [t0] w R :=
  calls_of_cw mixed p14 Try.func14 b14 Try.ntmps14 (by simp) (by rw [e14]; exact h)
def j35_2 (R : Value → World → Prop) (t22 : Value) (w : World) : Prop :=
 Bc t22
 (R (.int .i64 3) w)
 (R (.int .i64 2) w)
def j35_1 (R : Value → World → Prop) (t0 : Value) (t9 : Value) (w : World) : Prop :=
 Bc t9
 (R (.int .i64 1) w)
 (O (bi .eql t0 (.int .i64 3)) fun t23 =>
 Bc t23
 (j35_2 R (.bool true) w)
 (O (bi .eql t0 (.int .i64 4)) fun t24 =>
 Bc t24
 (j35_2 R (.bool true) w)
 (O (bi .eql t0 (.int .i64 5)) fun t25 =>
 Bc t25
 (j35_2 R (.bool true) w)
 (O (bi .eql t0 (.int .i64 6)) fun t26 =>
 Bc t26
 (j35_2 R (.bool true) w)
 (O (bi .eql t0 (.int .i64 7)) fun t27 =>
 Bc t27
 (j35_2 R (.bool true) w)
 (O (bi .eql t0 (.int .i64 18)) fun t28 =>
 Bc t28
 (j35_2 R (.bool true) w)
 (O (bi .eql t0 (.int .i64 19)) fun t29 =>
 j35_2 R t29 w)))))))
def j35_0 (R : Value → World → Prop) (t0 : Value) (t4 : Value) (w : World) : Prop :=
 Bc t4
 (R (.int .i64 0) w)
 (O (bi .eql t0 (.int .i64 1)) fun t10 =>
 Bc t10
 (j35_1 R t0 (.bool true) w)
 (O (bi .eql t0 (.int .i64 8)) fun t11 =>
 Bc t11
 (j35_1 R t0 (.bool true) w)
 (O (bi .eql t0 (.int .i64 9)) fun t12 =>
 Bc t12
 (j35_1 R t0 (.bool true) w)
 (O (bi .eql t0 (.int .i64 10)) fun t13 =>
 Bc t13
 (j35_1 R t0 (.bool true) w)
 (O (bi .eql t0 (.int .i64 11)) fun t14 =>
 Bc t14
 (j35_1 R t0 (.bool true) w)
 (O (bi .eql t0 (.int .i64 14)) fun t15 =>
 Bc t15
 (j35_1 R t0 (.bool true) w)
 (O (bi .eql t0 (.int .i64 21)) fun t16 =>
 Bc t16
 (j35_1 R t0 (.bool true) w)
 (O (bi .eql t0 (.int .i64 22)) fun t17 =>
 Bc t17
 (j35_1 R t0 (.bool true) w)
 (O (bi .eql t0 (.int .i64 25)) fun t18 =>
 Bc t18
 (j35_1 R t0 (.bool true) w)
 (O (bi .eql t0 (.int .i64 29)) fun t19 =>
 Bc t19
 (j35_1 R t0 (.bool true) w)
 (O (bi .eql t0 (.int .i64 30)) fun t20 =>
 Bc t20
 (j35_1 R t0 (.bool true) w)
 (O (bi .eql t0 (.int .i64 32)) fun t21 =>
 j35_1 R t0 t21 w))))))))))))
def c35 (R : Value → World → Prop) (t0 : Value) (w : World) : Prop :=
 O (bi .eql t0 (.int .i64 26)) fun t5 =>
 Bc t5
 (j35_0 R t0 (.bool true) w)
 (O (bi .eql t0 (.int .i64 27)) fun t6 =>
 Bc t6
 (j35_0 R t0 (.bool true) w)
 (O (bi .eql t0 (.int .i64 31)) fun t7 =>
 Bc t7
 (j35_0 R t0 (.bool true) w)
 (O (bi .eql t0 (.int .i64 33)) fun t8 =>
 j35_0 R t0 t8 w)))
def p35 : Plan := .seq (.leaf) (.seq (.seq (.leaf) (.block (.join [4] [3] (.seq (.leaf) (.cond (.leaf) (.seq (.leaf) (.cond (.leaf) (.seq (.leaf) (.cond (.leaf) (.leaf))))))) (.cond (.seq (.leaf) (.leaf)) (.join [9] [3] (.seq (.leaf) (.cond (.leaf) (.seq (.leaf) (.cond (.leaf) (.seq (.leaf) (.cond (.leaf) (.seq (.leaf) (.cond (.leaf) (.seq (.leaf) (.cond (.leaf) (.seq (.leaf) (.cond (.leaf) (.seq (.leaf) (.cond (.leaf) (.seq (.leaf) (.cond (.leaf) (.seq (.leaf) (.cond (.leaf) (.seq (.leaf) (.cond (.leaf) (.seq (.leaf) (.cond (.leaf) (.leaf))))))))))))))))))))))) (.cond (.seq (.leaf) (.leaf)) (.join [22] [] (.seq (.leaf) (.cond (.leaf) (.seq (.leaf) (.cond (.leaf) (.seq (.leaf) (.cond (.leaf) (.seq (.leaf) (.cond (.leaf) (.seq (.leaf) (.cond (.leaf) (.seq (.leaf) (.cond (.leaf) (.leaf))))))))))))) (.cond (.seq (.leaf) (.leaf)) (.leaf))))))))) (.seq (.leaf) (.leaf)))
theorem e35 (R : Value → World → Prop) (t0 : Value) (w : World) : cw Try.prog 30 p35 (Try.f35.body.getD .skip) (fnQ Try.prog Try.f35.results.toList R) (argE 0 [t0]) w = c35 R t0 w := by kernel_rfl
theorem b35 : Try.f35.body = some (Try.f35.body.getD .skip) := by kernel_rfl
theorem s35 {R : Value → World → Prop} {t0 : Value} {w : World} (h : c35 R t0 w) : Cl Try.prog 35 [t0] w R :=
  calls_of_cw mixed p35 Try.func35 b35 Try.ntmps35 (by simp) (by rw [e35]; exact h)
def j15_1 (R : Value → World → Prop) (t9 : Value) (I1 : Value → World → Prop) (μ1 : Value → World → Nat) (wh1 : World) (t60 : Value) (w : World) : Prop :=
 Bc t60
 (R (.bool false) w)
 (O (bi .add t9 (.int .i64 1)) fun t46 =>
 I1 t46 w ∧ μ1 t46 w < μ1 t9 wh1)
def j15_4 (R : Value → World → Prop) (t5 : Value) (t4 : Value) (t131 : Value) (w : World) : Prop :=
 Bc t131
 (O (fA 4 t5) fun t134 =>
 O (rd1 t134 w) fun t135 =>
 O (fA 3 t4) fun t136 =>
 O (rd1 t136 w) fun t137 =>
 O (lenS t137) fun t138 =>
 Cl Try.prog 34 [t135, t138] w fun t139 w =>
 R t139 w)
 (R (.bool true) w)
def j15_3 (R : Value → World → Prop) (t5 : Value) (t3 : Value) (t62 : Value) (t4 : Value) (t122 : Value) (w : World) : Prop :=
 Bc t122
 (O (fA 4 t5) fun t125 =>
 O (rd1 t125 w) fun t126 =>
 O (fA 5 t3) fun t127 =>
 O (rd1 t127 w) fun t128 =>
 O (lenS t128) fun t129 =>
 Cl Try.prog 34 [t126, t129] w fun t130 w =>
 R t130 w)
 (O (bi .eql t62 (.int .i64 31)) fun t132 =>
 Bc t132
 (j15_4 R t5 t4 (.bool true) w)
 (O (bi .eql t62 (.int .i64 32)) fun t133 =>
 j15_4 R t5 t4 t133 w))
def j15_2 (R : Value → World → Prop) (t5 : Value) (t3 : Value) (t62 : Value) (t4 : Value) (t63 : Value) (w : World) : Prop :=
 Bc t63
 (O (fA 4 t5) fun t66 =>
 O (rd1 t66 w) fun t67 =>
 O (fA 2 t3) fun t68 =>
 O (rd1 t68 w) fun t69 =>
 O (lenS t69) fun t70 =>
 Cl Try.prog 34 [t67, t70] w fun t71 w =>
 R t71 w)
 (O (bi .eql t62 (.int .i64 14)) fun t73 =>
 Bc t73
 (O (fA 4 t5) fun t74 =>
 O (rd1 t74 w) fun t75 =>
 O (fA 1 t3) fun t76 =>
 O (rd1 t76 w) fun t77 =>
 O (lenS t77) fun t78 =>
 Cl Try.prog 34 [t75, t78] w fun t79 w =>
 R t79 w)
 (O (bi .eql t62 (.int .i64 21)) fun t81 =>
 Bc t81
 (Dr w fun w =>
 O (fA 4 t5) fun t82 =>
 O (rd1 t82 w) fun t83 =>
 O (fA 3 t3) fun t84 =>
 O (rd1 t84 w) fun t85 =>
 O (lenS t85) fun t86 =>
 Cl Try.prog 34 [t83, t86] w fun t87 w =>
 Bc t87
 (O (fA 3 t3) fun t89 =>
 O (rd1 t89 w) fun t90 =>
 O (fA 4 t5) fun t91 =>
 O (rd1 t91 w) fun t92 =>
 O (iS 4 t90 t92) fun t93 =>
 O (fA 1 t93) fun t94 =>
 O (rd1 t94 w) fun t95 =>
 O (fA 5 t5) fun t96 =>
 O (rd1 t96 w) fun t97 =>
 O (lenS t97) fun t98 =>
 O (bi .eql t95 t98) fun t99 =>
 R t99 w)
 (R (.bool false) w))
 (O (bi .eql t62 (.int .i64 23)) fun t102 =>
 Bc t102
 (O (fA 3 t5) fun t103 =>
 O (rd1 t103 w) fun t104 =>
 O (fA 0 t3) fun t105 =>
 O (rd1 t105 w) fun t106 =>
 O (lenS t106) fun t107 =>
 Cl Try.prog 34 [t104, t107] w fun t108 w =>
 Bc t108
 (O (fA 4 t5) fun t110 =>
 O (rd1 t110 w) fun t111 =>
 Cl Try.prog 34 [t111, (.int .i64 1000001)] w fun t112 w =>
 R t112 w)
 (R (.bool false) w))
 (O (bi .eql t62 (.int .i64 24)) fun t115 =>
 Bc t115
 (O (fA 3 t5) fun t116 =>
 O (rd1 t116 w) fun t117 =>
 O (fA 0 t3) fun t118 =>
 O (rd1 t118 w) fun t119 =>
 O (lenS t119) fun t120 =>
 Cl Try.prog 34 [t117, t120] w fun t121 w =>
 R t121 w)
 (O (bi .eql t62 (.int .i64 26)) fun t123 =>
 Bc t123
 (j15_3 R t5 t3 t62 t4 (.bool true) w)
 (O (bi .eql t62 (.int .i64 27)) fun t124 =>
 j15_3 R t5 t3 t62 t4 t124 w))))))
def j15_0 (R : Value → World → Prop) (t5 : Value) (t4 : Value) (t3 : Value) (t17 : Value) (w : World) : Prop :=
 Bc t17
 (R (.bool false) w)
 (O (fA 1 t5) fun t18 =>
 O (rd1 t18 w) fun t19 =>
 O (fA 2 t5) fun t20 =>
 O (rd1 t20 w) fun t21 =>
 O (fA 3 t5) fun t22 =>
 O (rd1 t22 w) fun t23 =>
 BS 3 1 3 (.int .i64 0) [(0, t19), (1, t21), (2, t23)] w fun t24 w =>
 ∃ (I0 : Value → World → Prop) (μ0 : Value → World → Nat), I0 (.int .i64 0) w ∧ ∀ (t8 : Value) wh0, I0 t8 wh0 →
 O (fA 0 t5) fun t26 =>
 O (rd1 t26 wh0) fun t27 =>
 Cl Try.prog 35 [t27] wh0 fun t28 w =>
 O (bi .lss t8 t28) fun t29 =>
 Bc t29
 (Dr w fun w =>
 O (iS 1 t24 t8) fun t34 =>
 O (rd1 t34 w) fun t35 =>
 O (fA 2 t4) fun t36 =>
 O (rd1 t36 w) fun t37 =>
 Cl Try.prog 34 [t35, t37] w fun t38 w =>
 O (un .not t38) fun t39 =>
 Bc t39
 (R (.bool false) w)
 (O (bi .add t8 (.int .i64 1)) fun t31 =>
 I0 t31 w ∧ μ0 t31 w < μ0 t8 wh0))
 (∃ (I1 : Value → World → Prop) (μ1 : Value → World → Nat), I1 (.int .i64 0) w ∧ ∀ (t9 : Value) wh1, I1 t9 wh1 →
 O (fA 5 t5) fun t41 =>
 O (rd1 t41 wh1) fun t42 =>
 O (lenS t42) fun t43 =>
 O (bi .lss t9 t43) fun t44 =>
 Bc t44
 (Dr wh1 fun w =>
 O (fA 0 t5) fun t47 =>
 O (rd1 t47 w) fun t48 =>
 O (bi .neq t48 (.int .i64 21)) fun t49 =>
 Bc t49
 (j15_1 R t9 I1 μ1 wh1 (.bool true) w)
 (O (fA 5 t5) fun t51 =>
 O (rd1 t51 w) fun t52 =>
 O (iS 1 t52 t9) fun t54 =>
 O (rd1 t54 w) fun t55 =>
 O (fA 2 t4) fun t56 =>
 O (rd1 t56 w) fun t57 =>
 Cl Try.prog 34 [t55, t57] w fun t58 w =>
 O (un .not t58) fun t59 =>
 j15_1 R t9 I1 μ1 wh1 t59 w))
 (O (fA 0 t5) fun t61 =>
 O (rd1 t61 wh1) fun t62 =>
 O (bi .eql t62 (.int .i64 9)) fun t64 =>
 Bc t64
 (j15_2 R t5 t3 t62 t4 (.bool true) wh1)
 (O (bi .eql t62 (.int .i64 10)) fun t65 =>
 j15_2 R t5 t3 t62 t4 t65 wh1))))
def c15 (R : Value → World → Prop) (t0 : Value) (t1 : Value) (t2 : Value) (w : World) : Prop :=
 AL (.cells (Value.cells t0) 30) w fun t3 w =>
 AL (.cells (Value.cells t1) 76) w fun t4 w =>
 AL (.cells (Value.cells t2) 79) w fun t5 w =>
 O (fA 0 t5) fun t10 =>
 O (rd1 t10 w) fun t11 =>
 O (bi .lss t11 (.int .i64 1)) fun t12 =>
 Bc t12
 (j15_0 R t5 t4 t3 (.bool true) w)
 (O (fA 0 t5) fun t14 =>
 O (rd1 t14 w) fun t15 =>
 O (bi .gtr t15 (.int .i64 33)) fun t16 =>
 j15_0 R t5 t4 t3 t16 w)
def p15 : Plan := .seq (.leaf) (.seq (.join [17] [3, 4, 5] (.leaf) (.cond (.seq (.leaf) (.leaf)) (.leaf))) (.seq (.leaf) (.seq (.seq (.leaf) (.block (.loop [8] [3, 4, 5, 7] (.seq (.seq (.leaf) (.cond (.leaf) (.leaf))) (.seq (.block (.seq (.ord [0, 0, 3, 7, 0, 16, 63, 127]) (.cond (.seq (.leaf) (.leaf)) (.leaf)))) (.leaf)))))) (.seq (.seq (.leaf) (.block (.loop [9] [3, 4, 5] (.seq (.seq (.leaf) (.cond (.leaf) (.leaf))) (.seq (.block (.join [60] [3, 4, 5, 9] (.ord [0, 1, 3, 7, 15, 31, 15, 127, 255, 15, 527, 2047, 4095, 8191]) (.cond (.seq (.leaf) (.leaf)) (.leaf)))) (.leaf)))))) (.seq (.seq (.leaf) (.block (.join [63] [3, 4, 5, 62] (.seq (.leaf) (.cond (.leaf) (.leaf))) (.cond (.seq (.leaf) (.leaf)) (.seq (.leaf) (.cond (.seq (.leaf) (.leaf)) (.seq (.leaf) (.cond (.seq (.ord [0, 1, 0, 4, 12, 31, 63, 127, 255, 127, 639, 2047, 4095, 8191, 127, 16511, 49279, 131071, 262143, 524287]) (.leaf)) (.seq (.leaf) (.cond (.seq (.leaf) (.leaf)) (.seq (.leaf) (.cond (.seq (.leaf) (.leaf)) (.join [122] [3, 4, 5, 62] (.seq (.leaf) (.cond (.leaf) (.leaf))) (.cond (.seq (.leaf) (.leaf)) (.join [131] [4, 5] (.seq (.leaf) (.cond (.leaf) (.leaf))) (.cond (.seq (.leaf) (.leaf)) (.leaf))))))))))))))))) (.seq (.leaf) (.leaf)))))))
theorem e15 (R : Value → World → Prop) (t0 : Value) (t1 : Value) (t2 : Value) (w : World) : cw Try.prog 140 p15 (Try.f15.body.getD .skip) (fnQ Try.prog Try.f15.results.toList R) (argE 0 [t0, t1, t2]) w = c15 R t0 t1 t2 w := by kernel_rfl
theorem b15 : Try.f15.body = some (Try.f15.body.getD .skip) := by kernel_rfl
theorem s15 {R : Value → World → Prop} {t0 : Value} {t1 : Value} {t2 : Value} {w : World} (h : c15 R t0 t1 t2 w) : Cl Try.prog 15 [t0, t1, t2] w R :=
  calls_of_cw mixed p15 Try.func15 b15 Try.ntmps15 (by simp) (by rw [e15]; exact h)
def c16 (R : Value → World → Prop) (t0 : Value) (w : World) : Prop :=
 O (bi .geq t0 (.int .i64 9)) fun t4 =>
 Bc t4
 (O (bi .leq t0 (.int .i64 30)) fun t7 =>
 Bc t7
 (O (bi .neq t0 (.int .i64 20)) fun t11 =>
 R t11 w)
 (R (.bool false) w))
 (R (.bool false) w)
def p16 : Plan := .seq (.leaf) (.seq (.leaf) (.leaf))
theorem e16 (R : Value → World → Prop) (t0 : Value) (w : World) : cw Try.prog 13 p16 (Try.f16.body.getD .skip) (fnQ Try.prog Try.f16.results.toList R) (argE 0 [t0]) w = c16 R t0 w := by kernel_rfl
theorem b16 : Try.f16.body = some (Try.f16.body.getD .skip) := by kernel_rfl
theorem s16 {R : Value → World → Prop} {t0 : Value} {w : World} (h : c16 R t0 w) : Cl Try.prog 16 [t0] w R :=
  calls_of_cw mixed p16 Try.func16 b16 Try.ntmps16 (by simp) (by rw [e16]; exact h)

end Go.Proofs.Ytedcfkigfcobaaa
end
/- Printed by wip/tools/gen.py: the bodies of functions 6 95 77 78 79 80 with named temporaries, tied to the loaded program. -/
section
set_option maxRecDepth 100000
namespace Go.Proofs.Ytedcfkigfcobaaa
open Go Go.Proofs
def j6_1 (R : Value → World → Prop) (t6 : Value) (I1 : Value → Value → World → Prop) (μ1 : Value → Value → World → Nat) (t3_1 : Value) (wh1 : World) (t3_2 : Value) (w : World) : Prop :=
 O (bi .add t6 (.int .i64 1)) fun t62 =>
 I1 t3_2 t62 w ∧ μ1 t3_2 t62 w < μ1 t3_1 t6 wh1
def j6_2 (R : Value → World → Prop) (t3_1 : Value) (t6 : Value) (I1 : Value → Value → World → Prop) (μ1 : Value → Value → World → Nat) (wh1 : World) (t101 : Value) (w : World) : Prop :=
 Bc t101
 (R (.bool false) w)
 (O (bi .add t3_1 (.int .i64 1)) fun t103 =>
 j6_1 R t6 I1 μ1 t3_1 wh1 t103 w)
def j6_3 (R : Value → World → Prop) (t4 : Value) (I0 : Value → Value → World → Prop) (t3_1 : Value) (μ0 : Value → Value → World → Nat) (t3 : Value) (wh0 : World) (t118 : Value) (w : World) : Prop :=
 Bc t118
 (R (.bool false) w)
 (O (bi .add t4 (.int .i64 1)) fun t18 =>
 I0 t3_1 t18 w ∧ μ0 t3_1 t18 w < μ0 t3 t4 wh0)
def j6_0 (R : Value → World → Prop) (t3 : Value) (t5 : Value) (t1 : Value) (t4 : Value) (I0 : Value → Value → World → Prop) (μ0 : Value → Value → World → Nat) (wh0 : World) (t55 : Value) (w : World) : Prop :=
 Bc t55
 (R (.bool false) w)
 (∃ (I1 : Value → Value → World → Prop) (μ1 : Value → Value → World → Nat), I1 t3 (.int .i64 0) w ∧ ∀ (t3_1 : Value) (t6 : Value) wh1, I1 t3_1 t6 wh1 →
 O (fA 3 t5) fun t57 =>
 O (rd1 t57 wh1) fun t58 =>
 O (lenS t58) fun t59 =>
 O (bi .lss t6 t59) fun t60 =>
 Bc t60
 (O (fA 3 t5) fun t63 =>
 O (rd1 t63 wh1) fun t64 =>
 O (iS 8 t64 t6) fun t66 =>
 O (rdN 8 t66 wh1) fun t67 =>
 AL (.cells #[.int .i64 0, .int .i64 0, .int .i64 0, .int .i64 0, .int .i64 0, .slice none 0 0, .int .i64 0, .int .i64 0] 79) wh1 fun t7 w =>
 ST Try.prog 79 t7 t67 w fun _ w =>
 O (rdN 8 t1 w) fun t68 =>
 O (rdN 4 t5 w) fun t69 =>
 O (rdN 8 t7 w) fun t70 =>
 Cl Try.prog 15 [t68, t69, t70] w fun t71 w =>
 O (un .not t71) fun t72 =>
 Bc t72
 (R (.bool false) w)
 (O (fA 0 t7) fun t73 =>
 O (rd1 t73 w) fun t74 =>
 Cl Try.prog 16 [t74] w fun t75 w =>
 O (un .not t75) fun t76 =>
 Bc t76
 (O (fA 6 t7) fun t77 =>
 O (rd1 t77 w) fun t78 =>
 O (bi .neq t78 (.int .i64 (-1))) fun t79 =>
 Bc t79
 (R (.bool false) w)
 (j6_1 R t6 I1 μ1 t3_1 wh1 t3_1 w))
 (O (fA 6 t7) fun t80 =>
 O (rd1 t80 w) fun t81 =>
 O (bi .neq t81 t3_1) fun t83 =>
 Bc t83
 (j6_2 R t3_1 t6 I1 μ1 wh1 (.bool true) w)
 (O (fA 7 t1) fun t86 =>
 O (rd1 t86 w) fun t87 =>
 O (lenS t87) fun t88 =>
 O (bi .geq t3_1 t88) fun t89 =>
 Bc t89
 (j6_2 R t3_1 t6 I1 μ1 wh1 (.bool true) w)
 (O (fA 7 t1) fun t92 =>
 O (rd1 t92 w) fun t93 =>
 O (iS 2 t93 t3_1) fun t95 =>
 O (rdN 2 t95 w) fun t96 =>
 O ((fillW Try.prog 83 [(0, t4), (1, t6)]).map .agg) fun t99 =>
 O (be 2 .neq t96 t99) fun t100 =>
 j6_2 R t3_1 t6 I1 μ1 wh1 t100 w)))))
 (O (fA 3 t5) fun t104 =>
 O (rd1 t104 wh1) fun t105 =>
 O (fA 3 t5) fun t106 =>
 O (rd1 t106 wh1) fun t107 =>
 O (lenS t107) fun t108 =>
 O (bi .sub t108 (.int .i64 1)) fun t109 =>
 O (iS 8 t105 t109) fun t110 =>
 O (fA 0 t110) fun t111 =>
 O (rd1 t111 wh1) fun t112 =>
 O (bi .neq t112 (.int .i64 33)) fun t114 =>
 Bc t114
 (O (bi .neq t112 (.int .i64 31)) fun t117 =>
 j6_3 R t4 I0 t3_1 μ0 t3 wh0 t117 wh1)
 (j6_3 R t4 I0 t3_1 μ0 t3 wh0 (.bool false) wh1)))
def c6 (R : Value → World → Prop) (t0 : Value) (w : World) : Prop :=
 AL (.cells (Value.cells t0) 30) w fun t1 w =>
 O (rdN 8 t1 w) fun t9 =>
 Cl Try.prog 14 [t9] w fun t10 w =>
 O (un .not t10) fun t11 =>
 Bc t11
 (R (.bool false) w)
 (∃ (I0 : Value → Value → World → Prop) (μ0 : Value → Value → World → Nat), I0 (.int .i64 0) (.int .i64 0) w ∧ ∀ (t3 : Value) (t4 : Value) wh0, I0 t3 t4 wh0 →
 O (fA 3 t1) fun t13 =>
 O (rd1 t13 wh0) fun t14 =>
 O (lenS t14) fun t15 =>
 O (bi .lss t4 t15) fun t16 =>
 Bc t16
 (O (fA 3 t1) fun t19 =>
 O (rd1 t19 wh0) fun t20 =>
 O (iS 4 t20 t4) fun t22 =>
 O (rdN 4 t22 wh0) fun t23 =>
 AL (.cells #[.string ByteArray.empty, .int .i64 0, .int .i64 0, .slice none 0 0] 76) wh0 fun t5 w =>
 ST Try.prog 76 t5 t23 w fun _ w =>
 O (fA 2 t5) fun t24 =>
 O (rd1 t24 w) fun t25 =>
 O (bi .lss t25 (.int .i64 0)) fun t26 =>
 Bc t26
 (j6_0 R t3 t5 t1 t4 I0 μ0 wh0 (.bool true) w)
 (O (fA 2 t5) fun t28 =>
 O (rd1 t28 w) fun t29 =>
 O (bi .gtr t29 (.int .i64 256)) fun t30 =>
 Bc t30
 (j6_0 R t3 t5 t1 t4 I0 μ0 wh0 (.bool true) w)
 (O (fA 1 t5) fun t33 =>
 O (rd1 t33 w) fun t34 =>
 O (bi .lss t34 (.int .i64 0)) fun t35 =>
 Bc t35
 (j6_0 R t3 t5 t1 t4 I0 μ0 wh0 (.bool true) w)
 (O (fA 1 t5) fun t38 =>
 O (rd1 t38 w) fun t39 =>
 O (fA 2 t5) fun t40 =>
 O (rd1 t40 w) fun t41 =>
 O (bi .gtr t39 t41) fun t42 =>
 Bc t42
 (j6_0 R t3 t5 t1 t4 I0 μ0 wh0 (.bool true) w)
 (O (fA 3 t5) fun t45 =>
 O (rd1 t45 w) fun t46 =>
 O (lenS t46) fun t47 =>
 O (bi .lss t47 (.int .i64 1)) fun t48 =>
 Bc t48
 (j6_0 R t3 t5 t1 t4 I0 μ0 wh0 (.bool true) w)
 (O (fA 3 t5) fun t51 =>
 O (rd1 t51 w) fun t52 =>
 O (lenS t52) fun t53 =>
 O (bi .gtr t53 (.int .i64 512)) fun t54 =>
 j6_0 R t3 t5 t1 t4 I0 μ0 wh0 t54 w))))))
 (O (fA 7 t1) fun t120 =>
 O (rd1 t120 wh0) fun t121 =>
 O (lenS t121) fun t122 =>
 O (bi .eql t3 t122) fun t123 =>
 Bc t123
 (O (bi .leq t3 (.int .i64 512)) fun t126 =>
 R t126 wh0)
 (R (.bool false) wh0)))
def p6 : Plan := .seq (.leaf) (.seq (.seq (.leaf) (.cond (.seq (.leaf) (.leaf)) (.leaf))) (.seq (.leaf) (.seq (.seq (.leaf) (.block (.loop [3, 4] [1] (.seq (.seq (.leaf) (.cond (.leaf) (.leaf))) (.seq (.block (.seq (.leaf) (.seq (.join [55] [1, 3, 4, 5] (.leaf) (.cond (.seq (.leaf) (.leaf)) (.leaf))) (.seq (.seq (.leaf) (.block (.loop [3, 6] [1, 4, 5] (.seq (.seq (.leaf) (.cond (.leaf) (.leaf))) (.join [3] [1, 4, 5, 6] (.block (.seq (.leaf) (.seq (.seq (.leaf) (.cond (.seq (.leaf) (.leaf)) (.leaf))) (.seq (.seq (.leaf) (.cond (.seq (.seq (.leaf) (.cond (.seq (.leaf) (.leaf)) (.leaf))) (.leaf)) (.leaf))) (.seq (.join [101] [1, 3, 4, 5, 6] (.leaf) (.cond (.seq (.leaf) (.leaf)) (.leaf))) (.leaf)))))) (.leaf)))))) (.seq (.leaf) (.join [118] [1, 3, 4] (.leaf) (.cond (.seq (.leaf) (.leaf)) (.leaf)))))))) (.leaf)))))) (.seq (.leaf) (.leaf)))))
theorem e6 (R : Value → World → Prop) (t0 : Value) (w : World) : cw Try.prog 128 p6 (Try.f6.body.getD .skip) (fnQ Try.prog Try.f6.results.toList R) (argE 0 [t0]) w = c6 R t0 w := by kernel_rfl
theorem b6 : Try.f6.body = some (Try.f6.body.getD .skip) := by kernel_rfl
theorem s6 {R : Value → World → Prop} {t0 : Value} {w : World} (h : c6 R t0 w) : Cl Try.prog 6 [t0] w R :=
  calls_of_cw mixed p6 Try.func6 b6 Try.ntmps6 (by simp) (by rw [e6]; exact h)
def c95 (R : Value → World → Prop) (t0 : Value) (t1 : Value) (w : World) : Prop :=
 AL (.cells (Value.cells t0) 52) w fun t2 w =>
 O (bi .geq t1 (.int .i64 1)) fun t6 =>
 Bc t6
 (O (fA 0 t2) fun t9 =>
 O (rd1 t9 w) fun t10 =>
 O (lenS t10) fun t11 =>
 O (bi .leq t1 t11) fun t12 =>
 R t12 w)
 (R (.bool false) w)
def p95 : Plan := .seq (.leaf) (.seq (.leaf) (.leaf))
theorem e95 (R : Value → World → Prop) (t0 : Value) (t1 : Value) (w : World) : cw Try.prog 14 p95 (Try.f95.body.getD .skip) (fnQ Try.prog Try.f95.results.toList R) (argE 0 [t0, t1]) w = c95 R t0 t1 w := by kernel_rfl
theorem b95 : Try.f95.body = some (Try.f95.body.getD .skip) := by kernel_rfl
theorem s95 {R : Value → World → Prop} {t0 : Value} {t1 : Value} {w : World} (h : c95 R t0 t1 w) : Cl Try.prog 95 [t0, t1] w R :=
  calls_of_cw mixed p95 Try.func95 b95 Try.ntmps95 (by simp) (by rw [e95]; exact h)
def j77_2 (R : Value → World → Prop) (t0 : Value) (t5 : Value) (t1 : Value) (t87 : Value) (w : World) : Prop :=
 Bc t87
 (R (.bool false) w)
 (Dr w fun w =>
 O (nC t0) fun t89 =>
 O (fA 0 t89) fun t90 =>
 O (fA 0 t90) fun t91 =>
 O (rd1 t91 w) fun t92 =>
 O (fA 2 t5) fun t93 =>
 O (rd1 t93 w) fun t94 =>
 O (bi .sub t94 (.int .i64 1)) fun t95 =>
 O (iS 15 t92 t95) fun t96 =>
 O (rdN 15 t96 w) fun t97 =>
 AL (.cells #[.int .i64 0, .int .i64 0, .int .i64 0, .int .i64 0, .int .i64 0, .int .i64 0, .int .i64 0, .bool false, .int .i64 0, .int .i64 0, .int .i64 0, .int .i64 0, .int .i64 0, .int .i64 0, .int .i64 0] 73) w fun t7 w =>
 ST Try.prog 73 t7 t97 w fun _ w =>
 O (fA 5 t7) fun t98 =>
 O (rd1 t98 w) fun t99 =>
 O (fA 1 t5) fun t100 =>
 O (rd1 t100 w) fun t101 =>
 O (bi .eql t99 t101) fun t102 =>
 Bc t102
 (O (fA 1 t5) fun t104 =>
 O (rd1 t104 w) fun t105 =>
 O (fA 2 t5) fun t106 =>
 O (rd1 t106 w) fun t107 =>
 O (bi .lss t105 t107) fun t108 =>
 Bc t108
 (O (fA 13 t7) fun t111 =>
 O (rd1 t111 w) fun t112 =>
 O (bi .eql t112 t1) fun t114 =>
 Bc t114
 (O (fA 0 t5) fun t117 =>
 O (rd1 t117 w) fun t118 =>
 O (bi .eql t118 (.int .i64 4)) fun t119 =>
 O (fA 0 t7) fun t120 =>
 O (rd1 t120 w) fun t121 =>
 O (bi .eql t121 (.int .i64 4)) fun t122 =>
 O (bb .eql t119 t122) fun t123 =>
 Bc t123
 (O (fA 0 t5) fun t126 =>
 O (rd1 t126 w) fun t127 =>
 O (bi .eql t127 (.int .i64 5)) fun t128 =>
 O (fA 0 t7) fun t129 =>
 O (rd1 t129 w) fun t130 =>
 O (bi .eql t130 (.int .i64 5)) fun t131 =>
 O (bb .eql t128 t131) fun t132 =>
 R t132 w)
 (R (.bool false) w))
 (R (.bool false) w))
 (R (.bool false) w))
 (R (.bool false) w))
def j77_1 (R : Value → World → Prop) (t0 : Value) (t5 : Value) (t1 : Value) (t43 : Value) (t66 : Value) (w : World) : Prop :=
 Bc t66
 (Dr w fun w =>
 O (nC t0) fun t70 =>
 O (fA 0 t70) fun t71 =>
 O (rdN 2 t71 w) fun t72 =>
 O (fA 2 t5) fun t73 =>
 O (rd1 t73 w) fun t74 =>
 Cl Try.prog 95 [t72, t74] w fun t75 w =>
 O (un .not t75) fun t76 =>
 Bc t76
 (j77_2 R t0 t5 t1 (.bool true) w)
 (O (nC t0) fun t79 =>
 O (fA 2 t79) fun t80 =>
 O (rd1 t80 w) fun t81 =>
 O (fA 2 t5) fun t82 =>
 O (rd1 t82 w) fun t83 =>
 O (iS 1 t81 t83) fun t84 =>
 O (rd1 t84 w) fun t85 =>
 O (bi .geq t85 (.int .i64 0)) fun t86 =>
 j77_2 R t0 t5 t1 t86 w))
 (O (bi .eql t43 (.int .i64 6)) fun t135 =>
 Bc t135
 (Dr w fun w =>
 O (nC t0) fun t137 =>
 O (fA 0 t137) fun t138 =>
 O (rdN 2 t138 w) fun t139 =>
 O (fA 2 t5) fun t140 =>
 O (rd1 t140 w) fun t141 =>
 Cl Try.prog 95 [t139, t141] w fun t142 w =>
 Bc t142
 (O (nC t0) fun t145 =>
 O (fA 0 t145) fun t146 =>
 O (fA 0 t146) fun t147 =>
 O (rd1 t147 w) fun t148 =>
 O (fA 2 t5) fun t149 =>
 O (rd1 t149 w) fun t150 =>
 O (bi .sub t150 (.int .i64 1)) fun t151 =>
 O (iS 15 t148 t151) fun t152 =>
 O (fA 0 t152) fun t153 =>
 O (rd1 t153 w) fun t154 =>
 O (bi .eql t154 (.int .i64 5)) fun t155 =>
 Bc t155
 (O (nC t0) fun t159 =>
 O (fA 3 t159) fun t160 =>
 O (rd1 t160 w) fun t161 =>
 O (fA 2 t5) fun t162 =>
 O (rd1 t162 w) fun t163 =>
 O (iS 1 t161 t163) fun t164 =>
 O (rd1 t164 w) fun t165 =>
 O (bi .geq t165 (.int .i64 0)) fun t166 =>
 R t166 w)
 (R (.bool false) w))
 (R (.bool false) w))
 (O (bi .eql t43 (.int .i64 7)) fun t169 =>
 Bc t169
 (O (fA 2 t5) fun t170 =>
 O (rd1 t170 w) fun t171 =>
 O (bi .geq t171 (.int .i64 0)) fun t172 =>
 R t172 w)
 (R (.bool false) w)))
def j77_0 (R : Value → World → Prop) (t5 : Value) (t0 : Value) (t1 : Value) (t41 : Value) (w : World) : Prop :=
 Bc t41
 (R (.bool false) w)
 (O (fA 0 t5) fun t42 =>
 O (rd1 t42 w) fun t43 =>
 O (bi .eql t43 (.int .i64 1)) fun t45 =>
 Bc t45
 (Dr w fun w =>
 O (nC t0) fun t47 =>
 O (fA 2 t47) fun t48 =>
 O (rd1 t48 w) fun t49 =>
 O (fA 1 t5) fun t50 =>
 O (rd1 t50 w) fun t51 =>
 O (iS 1 t49 t51) fun t53 =>
 ST Try.prog 3 t53 t1 w fun _ w =>
 R (.bool true) w)
 (O (bi .eql t43 (.int .i64 2)) fun t55 =>
 Bc t55
 (Dr w fun w =>
 O (nC t0) fun t57 =>
 O (fA 3 t57) fun t58 =>
 O (rd1 t58 w) fun t59 =>
 O (fA 1 t5) fun t60 =>
 O (rd1 t60 w) fun t61 =>
 O (iS 1 t59 t61) fun t63 =>
 ST Try.prog 3 t63 t1 w fun _ w =>
 R (.bool true) w)
 (O (bi .eql t43 (.int .i64 3)) fun t65 =>
 Bc t65
 (R (.bool true) w)
 (O (bi .eql t43 (.int .i64 4)) fun t67 =>
 Bc t67
 (j77_1 R t0 t5 t1 t43 (.bool true) w)
 (O (bi .eql t43 (.int .i64 5)) fun t68 =>
 j77_1 R t0 t5 t1 t43 t68 w)))))
def c77 (R : Value → World → Prop) (t0 : Value) (t1 : Value) (t2 : Value) (w : World) : Prop :=
 AL (.cells (Value.cells t2) 67) w fun t5 w =>
 Dr w fun w =>
 O (nC t0) fun t9 =>
 O (fA 0 t9) fun t10 =>
 O (rdN 2 t10 w) fun t11 =>
 O (fA 1 t5) fun t12 =>
 O (rd1 t12 w) fun t13 =>
 Cl Try.prog 95 [t11, t13] w fun t14 w =>
 O (un .not t14) fun t15 =>
 Bc t15
 (j77_0 R t5 t0 t1 (.bool true) w)
 (O (fA 0 t5) fun t17 =>
 O (rd1 t17 w) fun t18 =>
 O (bi .eql t18 (.int .i64 1)) fun t19 =>
 O (nC t0) fun t21 =>
 O (fA 2 t21) fun t22 =>
 O (rd1 t22 w) fun t23 =>
 O (fA 1 t5) fun t24 =>
 O (rd1 t24 w) fun t25 =>
 O (iS 1 t23 t25) fun t26 =>
 O (rd1 t26 w) fun t27 =>
 O (bi .lss t27 (.int .i64 0)) fun t28 =>
 O (bb .neq t19 t28) fun t29 =>
 Bc t29
 (j77_0 R t5 t0 t1 (.bool true) w)
 (O (nC t0) fun t33 =>
 O (fA 3 t33) fun t34 =>
 O (rd1 t34 w) fun t35 =>
 O (fA 1 t5) fun t36 =>
 O (rd1 t36 w) fun t37 =>
 O (iS 1 t35 t37) fun t38 =>
 O (rd1 t38 w) fun t39 =>
 O (bi .geq t39 (.int .i64 0)) fun t40 =>
 j77_0 R t5 t0 t1 t40 w))
def p77 : Plan := .seq (.leaf) (.seq (.join [41] [0, 1, 5] (.ord [0, 1, 3, 7, 0, 16, 63, 127, 255, 511, 1023, 2047, 511, 4607, 12799, 29183, 511, 66047, 258559, 520703, 1044991, 2097151, 4194303, 8388607, 16777215, 33554431, 67108863, 134217727, 16777215, 285212671, 1073741823, 2147483647, 4294967295, 8589934591]) (.cond (.seq (.leaf) (.leaf)) (.leaf))) (.seq (.seq (.leaf) (.block (.seq (.leaf) (.cond (.ord [0, 1, 3, 7, 0, 16, 0, 127, 255]) (.seq (.leaf) (.cond (.ord [0, 1, 3, 7, 0, 16, 0, 127, 255]) (.seq (.leaf) (.cond (.leaf) (.join [66] [0, 1, 5, 43] (.seq (.leaf) (.cond (.leaf) (.leaf))) (.cond (.seq (.join [87] [0, 1, 5] (.ord [0, 1, 3, 7, 0, 16, 63, 127, 255, 511, 1023, 2047, 4095, 511, 8703, 32767, 65535, 131071, 262143]) (.cond (.seq (.leaf) (.leaf)) (.leaf))) (.seq (.ord [0, 1, 3, 7, 15, 0, 32, 96, 255, 511, 0, 2047]) (.seq (.leaf) (.leaf)))) (.seq (.leaf) (.cond (.seq (.ord [0, 1, 3, 7, 0, 16, 63, 127, 255, 511, 1023, 2047, 4095, 255, 8447, 24831, 65535, 131071, 262143, 524287, 1048575, 2097151, 4194303, 8388607, 16777215, 33554431, 4194303, 71303167, 268435455, 536870911, 1073741823, 2147483647, 4294967295]) (.leaf)) (.seq (.leaf) (.cond (.seq (.leaf) (.leaf)) (.seq (.leaf) (.leaf)))))))))))))))) (.seq (.leaf) (.leaf))))
theorem e77 (R : Value → World → Prop) (t0 : Value) (t1 : Value) (t2 : Value) (w : World) : cw Try.prog 173 p77 (Try.f77.body.getD .skip) (fnQ Try.prog Try.f77.results.toList R) (argE 0 [t0, t1, t2]) w = c77 R t0 t1 t2 w := by kernel_rfl
theorem b77 : Try.f77.body = some (Try.f77.body.getD .skip) := by kernel_rfl
theorem s77 {R : Value → World → Prop} {t0 : Value} {t1 : Value} {t2 : Value} {w : World} (h : c77 R t0 t1 t2 w) : Cl Try.prog 77 [t0, t1, t2] w R :=
  calls_of_cw mixed p77 Try.func77 b77 Try.ntmps77 (by simp) (by rw [e77]; exact h)
def j78_0 (R : Value → World → Prop) (t0 : Value) (t5 : Value) (t1 : Value) (t49 : Value) (w : World) : Prop :=
 Bc t49
 (R (.bool false) w)
 (Dr w fun w =>
 O (nC t0) fun t51 =>
 O (fA 0 t51) fun t52 =>
 O (fA 1 t52) fun t53 =>
 O (rd1 t53 w) fun t54 =>
 O (fA 13 t5) fun t55 =>
 O (rd1 t55 w) fun t56 =>
 O (iS 8 t54 t56) fun t57 =>
 O (rdN 8 t57 w) fun t58 =>
 AL (.cells #[.int .i64 0, .int .i64 0, .int .i64 0, .int .i64 0, .int .i64 0, .int .i64 0, .int .i64 0, .bool false] 67) w fun t7 w =>
 ST Try.prog 67 t7 t58 w fun _ w =>
 O (fA 0 t5) fun t59 =>
 O (rd1 t59 w) fun t60 =>
 O (bi .eql t60 (.int .i64 4)) fun t62 =>
 Bc t62
 (O (fA 0 t7) fun t63 =>
 O (rd1 t63 w) fun t64 =>
 O (bi .eql t64 (.int .i64 4)) fun t65 =>
 Bc t65
 (O (fA 2 t7) fun t67 =>
 O (rd1 t67 w) fun t68 =>
 O (bi .eql t68 t1) fun t70 =>
 R t70 w)
 (R (.bool false) w))
 (O (bi .eql t60 (.int .i64 5)) fun t73 =>
 Bc t73
 (O (fA 0 t7) fun t74 =>
 O (rd1 t74 w) fun t75 =>
 O (bi .eql t75 (.int .i64 5)) fun t76 =>
 Bc t76
 (O (fA 2 t7) fun t78 =>
 O (rd1 t78 w) fun t79 =>
 O (bi .eql t79 t1) fun t81 =>
 R t81 w)
 (R (.bool false) w))
 (O (bi .eql t60 (.int .i64 3)) fun t84 =>
 Bc t84
 (O (fA 0 t7) fun t85 =>
 O (rd1 t85 w) fun t86 =>
 O (bi .eql t86 (.int .i64 7)) fun t87 =>
 Bc t87
 (O (fA 2 t7) fun t89 =>
 O (rd1 t89 w) fun t90 =>
 O (fA 1 t5) fun t91 =>
 O (rd1 t91 w) fun t92 =>
 O (bi .eql t90 t92) fun t93 =>
 R t93 w)
 (R (.bool false) w))
 (R (.bool false) w))))
def c78 (R : Value → World → Prop) (t0 : Value) (t1 : Value) (t2 : Value) (w : World) : Prop :=
 AL (.cells (Value.cells t2) 73) w fun t5 w =>
 O (fA 13 t5) fun t8 =>
 O (rd1 t8 w) fun t9 =>
 O (bi .lss t9 (.int .i64 0)) fun t10 =>
 Bc t10
 (O (fA 0 t5) fun t11 =>
 O (rd1 t11 w) fun t12 =>
 O (bi .neq t12 (.int .i64 4)) fun t13 =>
 Bc t13
 (O (fA 0 t5) fun t15 =>
 O (rd1 t15 w) fun t16 =>
 O (bi .neq t16 (.int .i64 5)) fun t17 =>
 R t17 w)
 (R (.bool false) w))
 (Dr w fun w =>
 O (fA 13 t5) fun t19 =>
 O (rd1 t19 w) fun t20 =>
 O (nC t0) fun t22 =>
 O (fA 0 t22) fun t23 =>
 O (fA 1 t23) fun t24 =>
 O (rd1 t24 w) fun t25 =>
 O (lenS t25) fun t26 =>
 O (bi .geq t20 t26) fun t27 =>
 Bc t27
 (j78_0 R t0 t5 t1 (.bool true) w)
 (O (nC t0) fun t30 =>
 O (fA 2 t30) fun t31 =>
 O (rd1 t31 w) fun t32 =>
 O (iS 1 t32 t1) fun t34 =>
 O (rd1 t34 w) fun t35 =>
 O (bi .geq t35 (.int .i64 0)) fun t36 =>
 Bc t36
 (O (fA 13 t5) fun t38 =>
 O (rd1 t38 w) fun t39 =>
 O (nC t0) fun t41 =>
 O (fA 2 t41) fun t42 =>
 O (rd1 t42 w) fun t43 =>
 O (iS 1 t43 t1) fun t45 =>
 O (rd1 t45 w) fun t46 =>
 O (bi .geq t39 t46) fun t47 =>
 j78_0 R t0 t5 t1 t47 w)
 (j78_0 R t0 t5 t1 (.bool false) w)))
def p78 : Plan := .seq (.leaf) (.seq (.seq (.leaf) (.cond (.seq (.leaf) (.leaf)) (.leaf))) (.seq (.join [49] [0, 1, 5] (.ord [0, 1, 0, 4, 12, 28, 60, 124, 255, 511, 1023, 2047, 4095, 8191, 1023, 32767, 65535, 131071, 262143, 524287, 1048575, 524287, 2621439, 6815743, 15204351, 524287, 65535999, 132644863, 268435455, 536870911, 1073741823]) (.cond (.seq (.leaf) (.leaf)) (.leaf))) (.seq (.ord [0, 1, 3, 7, 15, 0, 32, 127, 255, 0, 1023]) (.seq (.seq (.leaf) (.block (.seq (.leaf) (.cond (.seq (.leaf) (.leaf)) (.seq (.leaf) (.cond (.seq (.leaf) (.leaf)) (.seq (.leaf) (.cond (.seq (.leaf) (.leaf)) (.leaf))))))))) (.seq (.leaf) (.leaf))))))
theorem e78 (R : Value → World → Prop) (t0 : Value) (t1 : Value) (t2 : Value) (w : World) : cw Try.prog 95 p78 (Try.f78.body.getD .skip) (fnQ Try.prog Try.f78.results.toList R) (argE 0 [t0, t1, t2]) w = c78 R t0 t1 t2 w := by kernel_rfl
theorem b78 : Try.f78.body = some (Try.f78.body.getD .skip) := by kernel_rfl
theorem s78 {R : Value → World → Prop} {t0 : Value} {t1 : Value} {t2 : Value} {w : World} (h : c78 R t0 t1 t2 w) : Cl Try.prog 78 [t0, t1, t2] w R :=
  calls_of_cw mixed p78 Try.func78 b78 Try.ntmps78 (by simp) (by rw [e78]; exact h)
def j79_0 (R : Value → World → Prop) (t0 : Value) (t5 : Value) (t1 : Value) (t29 : Value) (w : World) : Prop :=
 Bc t29
 (R (.bool false) w)
 (Dr w fun w =>
 O (nC t0) fun t31 =>
 O (fA 0 t31) fun t32 =>
 O (fA 0 t32) fun t33 =>
 O (rd1 t33 w) fun t34 =>
 O (fA 14 t5) fun t35 =>
 O (rd1 t35 w) fun t36 =>
 O (bi .sub t36 (.int .i64 1)) fun t37 =>
 O (iS 15 t34 t37) fun t38 =>
 O (rdN 15 t38 w) fun t39 =>
 AL (.cells #[.int .i64 0, .int .i64 0, .int .i64 0, .int .i64 0, .int .i64 0, .int .i64 0, .int .i64 0, .bool false, .int .i64 0, .int .i64 0, .int .i64 0, .int .i64 0, .int .i64 0, .int .i64 0, .int .i64 0] 73) w fun t7 w =>
 ST Try.prog 73 t7 t39 w fun _ w =>
 Dr w fun w =>
 O (fA 0 t7) fun t40 =>
 O (rd1 t40 w) fun t41 =>
 O (fA 0 t5) fun t42 =>
 O (rd1 t42 w) fun t43 =>
 O (bi .eql t41 t43) fun t44 =>
 Bc t44
 (O (fA 1 t7) fun t46 =>
 O (rd1 t46 w) fun t47 =>
 O (fA 1 t5) fun t48 =>
 O (rd1 t48 w) fun t49 =>
 O (bi .eql t47 t49) fun t50 =>
 Bc t50
 (O (fA 4 t7) fun t53 =>
 O (rd1 t53 w) fun t54 =>
 O (fA 4 t5) fun t55 =>
 O (rd1 t55 w) fun t56 =>
 O (bi .eql t54 t56) fun t57 =>
 Bc t57
 (O (nC t0) fun t61 =>
 O (fA 2 t61) fun t62 =>
 O (rd1 t62 w) fun t63 =>
 O (iS 1 t63 t1) fun t65 =>
 O (rd1 t65 w) fun t66 =>
 O (bi .lss t66 (.int .i64 0)) fun t67 =>
 Bc t67
 (R (.bool true) w)
 (O (nC t0) fun t70 =>
 O (fA 3 t70) fun t71 =>
 O (rd1 t71 w) fun t72 =>
 O (fA 14 t5) fun t73 =>
 O (rd1 t73 w) fun t74 =>
 O (iS 1 t72 t74) fun t75 =>
 O (rd1 t75 w) fun t76 =>
 O (bi .geq t76 (.int .i64 0)) fun t77 =>
 Bc t77
 (O (nC t0) fun t80 =>
 O (fA 3 t80) fun t81 =>
 O (rd1 t81 w) fun t82 =>
 O (fA 14 t5) fun t83 =>
 O (rd1 t83 w) fun t84 =>
 O (iS 1 t82 t84) fun t85 =>
 O (rd1 t85 w) fun t86 =>
 O (nC t0) fun t88 =>
 O (fA 2 t88) fun t89 =>
 O (rd1 t89 w) fun t90 =>
 O (iS 1 t90 t1) fun t92 =>
 O (rd1 t92 w) fun t93 =>
 O (bi .lss t86 t93) fun t94 =>
 R t94 w)
 (R (.bool false) w)))
 (R (.bool false) w))
 (R (.bool false) w))
 (R (.bool false) w))
def c79 (R : Value → World → Prop) (t0 : Value) (t1 : Value) (t2 : Value) (w : World) : Prop :=
 AL (.cells (Value.cells t2) 73) w fun t5 w =>
 O (fA 14 t5) fun t8 =>
 O (rd1 t8 w) fun t9 =>
 O (bi .eql t9 (.int .i64 0)) fun t10 =>
 Bc t10
 (R (.bool true) w)
 (O (fA 14 t5) fun t11 =>
 O (rd1 t11 w) fun t12 =>
 O (bi .lss t12 (.int .i64 1)) fun t13 =>
 Bc t13
 (j79_0 R t0 t5 t1 (.bool true) w)
 (O (fA 14 t5) fun t15 =>
 O (rd1 t15 w) fun t16 =>
 O (bi .geq t16 t1) fun t18 =>
 Bc t18
 (j79_0 R t0 t5 t1 (.bool true) w)
 (O (fA 0 t5) fun t21 =>
 O (rd1 t21 w) fun t22 =>
 O (bi .neq t22 (.int .i64 2)) fun t23 =>
 Bc t23
 (O (fA 0 t5) fun t25 =>
 O (rd1 t25 w) fun t26 =>
 O (bi .neq t26 (.int .i64 3)) fun t27 =>
 j79_0 R t0 t5 t1 t27 w)
 (j79_0 R t0 t5 t1 (.bool false) w))))
def p79 : Plan := .seq (.leaf) (.seq (.seq (.leaf) (.cond (.seq (.leaf) (.leaf)) (.leaf))) (.seq (.join [29] [0, 1, 5] (.leaf) (.cond (.seq (.leaf) (.leaf)) (.leaf))) (.seq (.ord [0, 1, 3, 7, 15, 0, 32, 96, 255, 511, 0, 2047]) (.seq (.ord [0, 1, 0, 4, 15, 31, 63, 127, 63, 319, 1023, 2047, 4095, 8191, 16383, 8191, 40959, 131071, 262143, 524287, 1048575, 2097151, 4194303, 8388607, 1048575, 33554431, 67108863, 134217727, 268435455, 536870911, 1073741823, 2147483647, 4294967295, 536870911, 9126805503, 34359738367, 68719476735, 137438953471, 274877906943, 549755813887, 1099511627775, 2199023255551, 4398046511103, 549755813887, 9345848836095, 35184372088831, 70368744177663, 549755813887, 141287244169215, 422762220879871, 985712174301183, 549755813887, 4363411894829055, 8867011522199551, 18014398509481983, 36028797018963967, 72057594037927935, 144115188075855871, 288230376151711743]) (.leaf)))))
theorem e79 (R : Value → World → Prop) (t0 : Value) (t1 : Value) (t2 : Value) (w : World) : cw Try.prog 98 p79 (Try.f79.body.getD .skip) (fnQ Try.prog Try.f79.results.toList R) (argE 0 [t0, t1, t2]) w = c79 R t0 t1 t2 w := by kernel_rfl
theorem b79 : Try.f79.body = some (Try.f79.body.getD .skip) := by kernel_rfl
theorem s79 {R : Value → World → Prop} {t0 : Value} {t1 : Value} {t2 : Value} {w : World} (h : c79 R t0 t1 t2 w) : Cl Try.prog 79 [t0, t1, t2] w R :=
  calls_of_cw mixed p79 Try.func79 b79 Try.ntmps79 (by simp) (by rw [e79]; exact h)
def j80_0 (R : Value → World → Prop) (t15 : Value) (I0 : Value → World → Prop) (μ0 : Value → World → Nat) (wh0 : World) (w : World) : Prop :=
 O (bi .add t15 (.int .i64 1)) fun t74 =>
 I0 t74 w ∧ μ0 t74 w < μ0 t15 wh0
def j80_2 (R : Value → World → Prop) (t5 : Value) (t8 : Value) (t29 : Value) (t15 : Value) (I0 : Value → World → Prop) (μ0 : Value → World → Nat) (wh0 : World) (t69 : Value) (w : World) : Prop :=
 Bc t69
 (R (.bool false) w)
 (O (fA 1 t5) fun t72 =>
 O (rd1 t72 w) fun t73 =>
 Rn Try.prog (Instr.mapUpdate 172 t8 t29 t73) w fun _ w =>
 j80_0 R t15 I0 μ0 wh0 w)
def j80_1 (R : Value → World → Prop) (t15 : Value) (I0 : Value → World → Prop) (μ0 : Value → World → Nat) (wh0 : World) (t8 : Value) (t29 : Value) (t0 : Value) (t5 : Value) (t36 : Value) (w : World) : Prop :=
 Bc t36
 (j80_0 R t15 I0 μ0 wh0 w)
 (Rn Try.prog (Instr.lookup 172 t8 t29 false) w fun t39 w =>
 Dr w fun w =>
 O (bi .gtr t39 (.int .i64 0)) fun t41 =>
 Bc t41
 (O (nC t0) fun t44 =>
 O (fA 3 t44) fun t45 =>
 O (rd1 t45 w) fun t46 =>
 O (iS 1 t46 t39) fun t48 =>
 O (rd1 t48 w) fun t49 =>
 O (bi .lss t49 (.int .i64 0)) fun t50 =>
 Bc t50
 (j80_2 R t5 t8 t29 t15 I0 μ0 wh0 (.bool true) w)
 (O (nC t0) fun t53 =>
 O (fA 3 t53) fun t54 =>
 O (rd1 t54 w) fun t55 =>
 O (iS 1 t55 t39) fun t57 =>
 O (rd1 t57 w) fun t58 =>
 O (nC t0) fun t60 =>
 O (fA 2 t60) fun t61 =>
 O (rd1 t61 w) fun t62 =>
 O (fA 1 t5) fun t63 =>
 O (rd1 t63 w) fun t64 =>
 O (iS 1 t62 t64) fun t65 =>
 O (rd1 t65 w) fun t66 =>
 O (bi .gtr t58 t66) fun t67 =>
 j80_2 R t5 t8 t29 t15 I0 μ0 wh0 t67 w))
 (j80_2 R t5 t8 t29 t15 I0 μ0 wh0 (.bool false) w))
def c80 (R : Value → World → Prop) (t0 : Value) (w : World) : Prop :=
 MM w fun t8 w =>
 O (nC t0) fun t10 =>
 O (fA 0 t10) fun t11 =>
 O (fA 1 t11) fun t12 =>
 O (rd1 t12 w) fun t13 =>
 O (lenS t13) fun t14 =>
 ∃ (I0 : Value → World → Prop) (μ0 : Value → World → Nat), I0 (.int .i64 0) w ∧ ∀ (t15 : Value) wh0, I0 t15 wh0 →
 O (bi .lss t15 t14) fun t16 =>
 Bc t16
 (O (iS 8 t13 t15) fun t17 =>
 O (rdN 8 t17 wh0) fun t18 =>
 AL (.cells #[.int .i64 0, .int .i64 0, .int .i64 0, .int .i64 0, .int .i64 0, .int .i64 0, .int .i64 0, .bool false] 67) wh0 fun t5 w =>
 ST Try.prog 67 t5 t18 w fun _ w =>
 Dr w fun w =>
 O (nC t0) fun t20 =>
 O (fA 0 t20) fun t21 =>
 O (fA 0 t21) fun t22 =>
 O (rd1 t22 w) fun t23 =>
 O (fA 1 t5) fun t24 =>
 O (rd1 t24 w) fun t25 =>
 O (bi .sub t25 (.int .i64 1)) fun t26 =>
 O (iS 15 t23 t26) fun t27 =>
 O (fA 4 t27) fun t28 =>
 O (rd1 t28 w) fun t29 =>
 O (fA 0 t5) fun t30 =>
 O (rd1 t30 w) fun t31 =>
 O (bi .neq t31 (.int .i64 1)) fun t32 =>
 Bc t32
 (j80_1 R t15 I0 μ0 wh0 t8 t29 t0 t5 (.bool true) w)
 (O (bi .lss t29 (.int .i64 0)) fun t35 =>
 j80_1 R t15 I0 μ0 wh0 t8 t29 t0 t5 t35 w))
 (R (.bool true) wh0)
def p80 : Plan := .seq (.leaf) (.seq (.leaf) (.seq (.seq (.leaf) (.block (.loop [15] [0, 3, 13, 14] (.seq (.leaf) (.seq (.cond (.leaf) (.leaf)) (.join [] [0, 3, 13, 14, 15] (.block (.seq (.leaf) (.seq (.ord [0, 1, 3, 7, 15, 0, 32, 96, 255, 511, 1023, 2047]) (.seq (.join [36] [0, 3, 5, 6, 13, 14, 15] (.leaf) (.cond (.leaf) (.leaf))) (.seq (.seq (.leaf) (.join [69] [0, 3, 5, 6, 13, 14, 15] (.ord [0, 1, 3, 7, 15, 31, 63, 7, 255, 511, 1023, 2047, 4095, 8191, 16383, 32767, 4095, 131071, 262143, 4095, 528383, 1576959, 3674111, 4095, 8392703, 33034239, 66588671, 134217727, 268435455, 536870911]) (.cond (.seq (.leaf) (.leaf)) (.leaf)))) (.leaf)))))) (.leaf))))))) (.seq (.leaf) (.leaf))))
theorem e80 (R : Value → World → Prop) (t0 : Value) (w : World) : cw Try.prog 75 p80 (Try.f80.body.getD .skip) (fnQ Try.prog Try.f80.results.toList R) (argE 0 [t0]) w = c80 R t0 w := by kernel_rfl
theorem b80 : Try.f80.body = some (Try.f80.body.getD .skip) := by kernel_rfl
theorem s80 {R : Value → World → Prop} {t0 : Value} {w : World} (h : c80 R t0 w) : Cl Try.prog 80 [t0] w R :=
  calls_of_cw mixed p80 Try.func80 b80 Try.ntmps80 (by simp) (by rw [e80]; exact h)

end Go.Proofs.Ytedcfkigfcobaaa
end
