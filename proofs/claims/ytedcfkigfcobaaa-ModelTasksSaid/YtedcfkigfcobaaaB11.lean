/-
  A part of the proof that the statement on the tasks of a machine returns true for every input: no condition is asked beyond those of the theorems below.
-/
import Derived.Test.YtedcfkigfcobaaaB10
set_option linter.unusedVariables false
set_option linter.unusedSimpArgs false
set_option linter.unusedSectionVars false
/- Contracts: the pairs of marks that conflict. -/
section
namespace Go.Proofs.Ytedcfkigfcobaaa
open Go Go.Proofs
attribute [local irreducible] Bc O AL BS MS MM ST AP CV Cl
def locOf (m : MK) : Loc := ⟨m.lk, m.a, m.b⟩
def confl (M : List MK) (a b : Nat) : Bool := match M[a]?, M[b]? with
  | some x, some y => decide (x.kind = 3 ∧ y.kind = 3 ∧ x.task ≠ y.task ∧ locOf x = locOf y ∧ (x.write = true ∨ y.write = true))
  | _, _ => false
def encPr (q : Nat × Nat) : List Value := [.int .i64 q.1, .int .i64 q.2]
theorem encPr_len (q : Nat × Nat) : (encPr q).length = 2 := rfl
def confRow (M : List MK) (b : Nat) : List (Nat × Nat) := ((List.range b).filter fun a => confl M a b).map fun a => (a, b)
def confs (M : List MK) (n : Nat) : List (Nat × Nat) := (List.range n).flatMap (confRow M)
def isAcc (M : List MK) (x : Loc) (a : Nat) : Bool := match M[a]? with | some m => decide (m.kind = 3 ∧ locOf m = x) | none => false
def accs (M : List MK) (x : Loc) (i : Nat) : List Nat := (List.range i).filter (isAcc M x)
theorem accs_succ {M : List MK} {x : Loc} {i : Nat} : accs M x (i + 1) = accs M x i ++ if isAcc M x i then [i] else [] := by
  unfold accs
  rw [List.range_succ, List.filter_append]
  congr 1
  rw [List.filter_cons]
  split <;> simp
theorem accs_lt {M : List MK} {x : Loc} {i a : Nat} (h : a ∈ accs M x i) : a < i ∧ ∃ m, M[a]? = some m ∧ m.kind = 3 ∧ locOf m = x := by
  unfold accs at h
  rw [List.mem_filter, List.mem_range] at h
  refine ⟨h.1, ?_⟩
  have h2 := h.2
  unfold isAcc at h2
  rcases hm : M[a]? with _ | m
  · rw [hm] at h2; cases h2
  · rw [hm] at h2
    exact ⟨m, rfl, of_decide_eq_true h2⟩
/-- a mark that conflicts with one of that place -/
def condB (M : List MK) (m : MK) (a : Nat) : Bool := match M[a]? with | some y => decide (y.task ≠ m.task ∧ (m.write = true ∨ y.write = true)) | none => false
theorem confRow_acc {M : List MK} {i : Nat} {m : MK} (hm : M[i]? = some m) (hk : m.kind = 3) : confRow M i = ((accs M (locOf m) i).filter (condB M m)).map fun a => (a, i) := by
  unfold confRow accs
  rw [List.filter_filter]
  congr 1
  apply List.filter_congr
  intro a ha
  unfold confl condB isAcc
  rw [hm]
  rcases hy : M[a]? with _ | y
  · rfl
  · simp only
    rw [← Bool.decide_and, decide_eq_decide]
    constructor
    · rintro ⟨h1, _, h3, h4, h5⟩; exact ⟨⟨h3, h5.symm⟩, h1, h4⟩
    · rintro ⟨⟨h3, h5⟩, h1, h4⟩; exact ⟨h1, hk, h3, h4, h5.symm⟩
theorem confRow_no {M : List MK} {i : Nat} {m : MK} (hm : M[i]? = some m) (hk : m.kind ≠ 3) : confRow M i = [] := by
  unfold confRow
  rw [List.map_eq_nil_iff, List.filter_eq_nil_iff]
  intro a ha
  unfold confl
  rw [hm]
  rcases hy : M[a]? with _ | y
  · simp
  · simp only
    rw [decide_eq_true_eq]
    exact fun h => hk h.2.1
theorem confs_succ {M : List MK} {i : Nat} : confs M (i + 1) = confs M i ++ confRow M i := by
  unfold confs
  rw [List.range_succ, List.flatMap_append]
  simp
structure LE where
  loc : Loc
  v : Value
  l : List Nat
def natI (l : List Nat) : List Int := l.map fun (n : Nat) => (n : Int)
def leA (e : LE) : Atom := sl 3 1 e.v (natI e.l).length (ints (natI e.l))
structure KInv (M : List MK) (i : Nat) (g : Loc → Option Value) (ks : List LE) : Prop where
  val : ∀ (k : Nat) e, ks[k]? = some e → g e.loc = some e.v
  all : ∀ x v, g x = some v → ∃ (k : Nat) (e : LE), ks[k]? = some e ∧ e.loc = x
  lst : ∀ (k : Nat) e, ks[k]? = some e → e.l = accs M e.loc i
  non : ∀ x, g x = none → accs M x i = []
  uniq : ∀ (k k' : Nat) e e', ks[k]? = some e → ks[k']? = some e' → e.loc = e'.loc → k = k'
theorem KInv.skip {M : List MK} {i : Nat} {g : Loc → Option Value} {ks : List LE} (h : KInv M i g ks) {m : MK} (hm : M[i]? = some m) (hk : m.kind ≠ 3) : KInv M (i + 1) g ks := by
  have e : ∀ x, accs M x (i + 1) = accs M x i := fun x => by
    rw [accs_succ]
    have : isAcc M x i = false := by
      unfold isAcc; rw [hm]; exact decide_eq_false fun h => hk h.1
    rw [this]; simp
  exact ⟨h.val, h.all, fun k e' he => by rw [e]; exact h.lst k e' he, fun x hx => by rw [e]; exact h.non x hx, h.uniq⟩
section
variable {i : Nat} {M : List MK} {g : Loc → Option Value} {ks : List LE} {m : MK}
theorem accs_this (hm : M[i]? = some m) (hk : m.kind = 3) : accs M (locOf m) (i + 1) = accs M (locOf m) i ++ [i] := by
  rw [accs_succ]
  have : isAcc M (locOf m) i = true := by unfold isAcc; rw [hm]; exact decide_eq_true ⟨hk, rfl⟩
  rw [this]; rfl
theorem accs_that (hm : M[i]? = some m) {x : Loc} (hx : x ≠ locOf m) : accs M x (i + 1) = accs M x i := by
  rw [accs_succ]
  have : isAcc M x i = false := by unfold isAcc; rw [hm]; exact decide_eq_false fun h => hx h.2.symm
  rw [this]; simp
theorem KInv.put (h : KInv M i g ks) (hm : M[i]? = some m) (hk : m.kind = 3) {k : Nat} {e : LE} (he : ks[k]? = some e) (hl : e.loc = locOf m) (v : Value) : KInv M (i + 1) (upd g (locOf m) v) (ks.set k ⟨locOf m, v, accs M (locOf m) i ++ [i]⟩) := by
  refine ⟨fun j e' he' => ?_, fun x u hx => ?_, fun j e' he' => ?_, fun x hx => ?_, fun j j' e1 e2 h1 h2 h3 => ?_⟩
  · rcases set_get he he' with ⟨_, rfl⟩ | ⟨hne, h1⟩
    · unfold upd; rw [if_pos rfl]
    · unfold upd
      rw [if_neg (fun h2 => hne (h.uniq j k e' e h1 he (h2.trans hl.symm)))]
      exact h.val j e' h1
  · unfold upd at hx
    by_cases hxm : x = locOf m
    · exact ⟨k, _, set_self he, hxm.symm⟩
    · rw [if_neg hxm] at hx
      obtain ⟨j, e', h1, h2⟩ := h.all x u hx
      refine ⟨j, e', get_set (fun h3 => ?_) h1, h2⟩
      subst h3; rw [he] at h1; cases h1
      exact hxm (h2.symm.trans hl)
  · rcases set_get he he' with ⟨_, rfl⟩ | ⟨hne, h1⟩
    · exact (accs_this hm hk).symm
    · rw [accs_that hm (fun h2 => hne (h.uniq j k e' e h1 he (h2.trans hl.symm)))]
      exact h.lst j e' h1
  · unfold upd at hx
    by_cases hxm : x = locOf m
    · rw [if_pos hxm] at hx; cases hx
    · rw [if_neg hxm] at hx
      rw [accs_that hm hxm]; exact h.non x hx
  · have loc : ∀ (j : Nat) e', (ks.set k ⟨locOf m, v, accs M (locOf m) i ++ [i]⟩)[j]? = some e' → ∃ e0, ks[j]? = some e0 ∧ e0.loc = e'.loc := fun j e' h' => by
      rcases set_get he h' with ⟨rfl, rfl⟩ | ⟨_, h1⟩
      · exact ⟨e, he, hl⟩
      · exact ⟨e', h1, rfl⟩
    obtain ⟨a1, b1, c1⟩ := loc j e1 h1
    obtain ⟨a2, b2, c2⟩ := loc j' e2 h2
    exact h.uniq j j' a1 a2 b1 b2 (by rw [c1, c2, h3])
theorem KInv.push (h : KInv M i g ks) (hm : M[i]? = some m) (hk : m.kind = 3) (hg : g (locOf m) = none) (v : Value) : KInv M (i + 1) (upd g (locOf m) v) (ks ++ [⟨locOf m, v, accs M (locOf m) i ++ [i]⟩]) := by
  have hno : ∀ (j : Nat) e, ks[j]? = some e → e.loc ≠ locOf m := fun j e he h' => by
    have := h.val j e he
    rw [h', hg] at this; cases this
  refine ⟨fun j e' he' => ?_, fun x u hx => ?_, fun j e' he' => ?_, fun x hx => ?_, fun j j' e1 e2 h1 h2 h3 => ?_⟩
  · rcases app_get.1 he' with h1 | ⟨_, rfl⟩
    · unfold upd; rw [if_neg (hno j e' h1)]; exact h.val j e' h1
    · unfold upd; rw [if_pos rfl]
  · unfold upd at hx
    by_cases hxm : x = locOf m
    · exact ⟨ks.length, _, app_get.2 (.inr ⟨rfl, rfl⟩), hxm.symm⟩
    · rw [if_neg hxm] at hx
      obtain ⟨j, e', h1, h2⟩ := h.all x u hx
      exact ⟨j, e', app_old h1, h2⟩
  · rcases app_get.1 he' with h1 | ⟨_, rfl⟩
    · rw [accs_that hm (hno j e' h1)]; exact h.lst j e' h1
    · exact (accs_this hm hk).symm
  · unfold upd at hx
    by_cases hxm : x = locOf m
    · rw [if_pos hxm] at hx; cases hx
    · rw [if_neg hxm] at hx
      rw [accs_that hm hxm]; exact h.non x hx
  · rcases app_get.1 h1 with h4 | ⟨h4, rfl⟩ <;> rcases app_get.1 h2 with h5 | ⟨h5, rfl⟩
    · exact h.uniq j j' e1 e2 h4 h5 h3
    · exact absurd h3 (hno j e1 h4)
    · exact absurd h3.symm (hno j' e2 h5)
    · omega
end
theorem und150 : Try.prog.underlying 150 = some (.map 63 39) := by kernel_rfl
theorem eq63 : eqT Try.prog 63 = some 3 := by kernel_rfl
theorem zer39 : zer Try.prog 39 = some (.slice none 0 0) := by kernel_rfl
theorem fill89 (a b : Int) : (fillW Try.prog 89 [(0, .int .i64 a), (1, .int .i64 b)]).map Value.agg = some (.agg #[.int .i64 a, .int .i64 b]) := by kernel_rfl
end Go.Proofs.Ytedcfkigfcobaaa
end
/- Contracts: conflicts. -/
section
namespace Go.Proofs.Ytedcfkigfcobaaa
open Go Go.Proofs
attribute [local irreducible] Bc O AL BS MS MM ST AP CV Cl
theorem natI_get {l : List Nat} {k a : Nat} (h : l[k]? = some a) : (natI l)[k]? = some (a : Int) := by unfold natI; rw [List.getElem?_map, h]; rfl
theorem natI_len (l : List Nat) : (natI l).length = l.length := by simp [natI]
theorem take_filter {l : List Nat} {p : Nat → Bool} {k a : Nat} (h : l[k]? = some a) : (l.take (k + 1)).filter p = (l.take k).filter p ++ if p a then [a] else [] := by
  rw [List.take_add_one, h, List.filter_append]
  congr 1
  show List.filter p [a] = _
  rw [List.filter_cons]
  split <;> simp
section
variable {B : Base} {w : World} {L : List Atom} {tv mv : Value} {T : List TK} {M : List MK}
/-- a pair behind the pairs -/
theorem Own.pair (hw : Own B w L) {pv : Value} {ps : List (Nat × Nat)} (j : Nat) (hj : L[j]? = some (sl 89 2 pv ps.length (ps.flatMap encPr))) (hp : ps.length < 2 ^ 40) (a b : Nat) {K : Value → World → Prop} (hK : ∀ v' w', Own B w' (L.set j (sl 89 2 v' (ps ++ [(a, b)]).length ((ps ++ [(a, b)]).flatMap encPr))) → K v' w') :
    BS 89 2 1 (.agg #[.int .i64 0, .int .i64 0]) [(0, .agg #[.int .i64 a, .int .i64 b])] w fun t w => AP Try.prog #[84, 84] 84 [pv, t] w K := by
  refine hw.app (x := .agg #[.int .i64 a, .int .i64 b]) (xs := encPr (a, b)) T84 ⟨_, T84.under⟩ j hj (by decide) rfl rfl rfl (by omega) fun v' w' hw' => hK v' w' ?_
  rw [List.length_append, List.flatMap_append]
  simpa using hw'
set_option maxHeartbeats 4000000 in
set_option maxRecDepth 8000 in
theorem k36 (hw : Own B w (rA tv mv T M ++ L)) (hn : M.length ≤ 1200) (hmv1 : one tv = true) :
    Cl Try.prog 36 [runV tv mv] w fun v w' => Own B w' (rA tv mv T M ++ (sl 89 2 v (confs M M.length).length ((confs M M.length).flatMap encPr) :: L)) := by
  obtain ⟨R, hR⟩ : ∃ R : Value → World → Prop, R = fun v w' => Own B w' (rA tv mv T M ++ (sl 89 2 v (confs M M.length).length ((confs M M.length).flatMap encPr) :: L)) := ⟨_, rfl⟩
  rw [← hR]
  refine s36 ?_
  unfold c36
  refine hw.al fun b1 w1 hb1 hw1' => ?_
  have hw1 : Own B w1 (rA tv mv T M ++ (bk b1 52 [tv, mv] :: L)) := hw1'.perm (List.perm_middle (l₁ := rA tv mv T M)).symm
  clear hw1' hw
  refine hw1.mm encL (fun v : Value => v) fun mb w2 hw2 => ?_
  clear hw1
  (repeat with_reducible first | refine qq ?_ | refine qr ?_ | refine qs ?_ | refine hw2.l 3 ?_)
  refine O.mk (hw2.slLen 2 rfl) ?_
  have clen : ∀ i, i ≤ M.length → (confs M i).length ≤ i * 1200 := by
    intro i
    induction i with
    | zero => intro _; simp [confs]
    | succ i ih =>
      intro hi
      rw [confs_succ, List.length_append]
      have h1 := ih (by omega)
      have h2 : (confRow M i).length ≤ i := by
        unfold confRow
        rw [List.length_map]
        refine Nat.le_trans (List.length_filter_le _ _) ?_
        simp
      rw [Nat.add_mul]; omega
  obtain ⟨I0, hI⟩ : ∃ I : Value → Value → World → Prop, I = fun pv v2 w' => ∃ (i : Nat) (g : Loc → Option Value) (ks : List LE), v2 = .int .i64 i ∧ i ≤ M.length ∧ KInv M i g ks ∧ Own B w' (sep (ks.map leA) :: mpA encL (fun v : Value => v) mb g :: sl 89 2 pv (confs M i).length ((confs M i).flatMap encPr) :: (rA tv mv T M ++ (bk b1 52 [tv, mv] :: L))) := ⟨_, rfl⟩
  obtain ⟨m0, hm⟩ : ∃ m : Value → Value → World → Nat, m = fun _ v _ => match v with | .int _ i => (M.length - i).toNat | _ => 0 := ⟨_, rfl⟩
  refine ⟨I0, m0, ?_, ?_⟩
  · rw [hI]
    refine ⟨0, fun _ => none, [], rfl, by omega, ⟨(fun k e h => by cases h), (fun x v h => by cases h), (fun k e h => by cases h), fun x _ => rfl, (fun k k' e e' h => by cases h)⟩, ?_⟩
    exact (hw2.perm (List.Perm.refl _)).nilSl 89 2 |>.perm (List.Perm.swap _ _ _) |>.sep0
  clear hw2
  intro pv t14 wh0 h0
  rw [hI] at h0
  obtain ⟨i, g, ks, rfl, hi, hK, hw3⟩ := h0
  (repeat with_reducible first | refine qq ?_ | refine qr ?_ | refine qs ?_)
  refine Bc_dec (fun hlt => ?_) (fun hge => ?_)
  · obtain ⟨m, hmm⟩ := list_get (l := M) (j := i) (by omega)
    obtain ⟨bm, hixm, hrdm, hrdN⟩ := hw3.el 4 rfl encMK_len hmm
    refine O.mk (hixm _ _ (by omega) (by omega)) ?_
    rw [show ((i : Int)).toNat = i by omega]
    refine O.mk hrdN ?_
    refine hw3.al fun b6 w4 hb6 hw4 => ?_
    clear hrdm hrdN hixm hw3
    refine hw4.st_bk (x := .agg (encMK m).toArray) 0 rfl (by kernel_rfl) (encMK_one m) (Nat.le_refl 8) fun w5 hw5 => ?_
    clear hw4
    replace hw5 : Own B w5 (bk b6 67 (encMK m) :: sep (ks.map leA) :: mpA encL (fun v : Value => v) mb g :: sl 89 2 pv (confs M i).length ((confs M i).flatMap encPr) :: (rA tv mv T M ++ (bk b1 52 [tv, mv] :: L))) := hw5
    have JN : ∀ (pv' : Value) g' ks' w', KInv M (i + 1) g' ks' → Own B w' (sep (ks'.map leA) :: mpA encL (fun v : Value => v) mb g' :: sl 89 2 pv' (confs M (i + 1)).length ((confs M (i + 1)).flatMap encPr) :: (rA tv mv T M ++ (bk b1 52 [tv, mv] :: L))) → j36_0 R (.int .i64 i) I0 m0 pv wh0 pv' w' := by
      intro pv' g' ks' w' h1 h2
      unfold j36_0
      refine O.mk (bi_addb (a := i) (b := 1) (by omega)) ?_
      rw [hI, hm]
      exact ⟨⟨i + 1, g', ks', rfl, by omega, h1, h2⟩, by simp only; omega⟩
    (repeat with_reducible first | refine qq ?_ | refine qr ?_ | refine qs ?_ | refine hw5.l 0 ?_)
    refine Bc_dec (fun k3 => ?_) (fun k3 => ?_)
    · refine JN pv g ks w5 (hK.skip hmm k3) ?_
      have : confs M (i + 1) = confs M i := by rw [confs_succ, confRow_no hmm k3, List.append_nil]
      rw [this]
      exact hw5.tail
    have k3' : m.kind = 3 := by omega
    (repeat with_reducible first | refine qq ?_ | refine qr ?_ | refine qs ?_)
    refine O.mk (v := encL (locOf m)) (hw5.rdN_bk 0 rfl (by show 3 + 1 + 3 ≤ 8; decide)) ?_
    refine hw5.mlook 2 rfl (locKey eq63) und150 zer39 (locOf m) false ?_
    -- the slice of that place, apart
    obtain ⟨vx, ksR, hvx, hE, hput⟩ : ∃ (vx : Value) (ksR : List LE), ((g (locOf m)).map (fun v : Value => v)).getD (.slice none 0 0) = vx ∧ Own B w5 (sl 3 1 vx (natI (accs M (locOf m) i)).length (ints (natI (accs M (locOf m) i))) :: sep (ksR.map leA) :: bk b6 67 (encMK m) :: mpA encL (fun v : Value => v) mb g :: sl 89 2 pv (confs M i).length ((confs M i).flatMap encPr) :: (rA tv mv T M ++ (bk b1 52 [tv, mv] :: L))) ∧
        ∀ (v' : Value) w' (F : List Atom), Own B w' (sl 3 1 v' (natI (accs M (locOf m) i ++ [i])).length (ints (natI (accs M (locOf m) i ++ [i]))) :: sep (ksR.map leA) :: F) → ∃ ks2, KInv M (i + 1) (upd g (locOf m) v') ks2 ∧ Own B w' (sep (ks2.map leA) :: F) := by
      rcases hg : g (locOf m) with _ | v
      · refine ⟨.slice none 0 0, ks, rfl, ?_, fun v' w' F h => ⟨ks ++ [⟨locOf m, v', accs M (locOf m) i ++ [i]⟩], hK.push hmm k3' hg v', ?_⟩⟩
        · have he := hK.non _ hg
          rw [he]
          exact (hw5.nilSl 3 1).perm (List.Perm.cons _ (List.Perm.swap _ _ _))
        · exact Own.grow (f := leA) (x := ⟨locOf m, v', accs M (locOf m) i ++ [i]⟩) h
      · obtain ⟨k, e, he, hl⟩ := hK.all _ _ hg
        have hev : e.v = v := by
          have := hK.val k e he
          rw [hl, hg] at this
          exact (Option.some.inj this).symm
        have hel := hK.lst k e he
        rw [hl] at hel
        refine ⟨v, ks.eraseIdx k, rfl, ?_, fun v' w' F h => ⟨ks.set k ⟨locOf m, v', accs M (locOf m) i ++ [i]⟩, hK.put hmm k3' he hl v', ?_⟩⟩
        · have h1 := hw5.out (i := 1) rfl he
          have h2 : Own B w5 (leA e :: sep ((ks.eraseIdx k).map leA) :: bk b6 67 (encMK m) :: mpA encL (fun v : Value => v) mb g :: sl 89 2 pv (confs M i).length ((confs M i).flatMap encPr) :: (rA tv mv T M ++ (bk b1 52 [tv, mv] :: L))) := h1
          unfold leA at h2
          rw [hev, hel] at h2
          exact h2
        · exact Own.back (f := leA) (x' := ⟨locOf m, v', accs M (locOf m) i ++ [i]⟩) (list_lt he) h
    show O (lenS (((g (locOf m)).map (fun v : Value => v)).getD (.slice none 0 0))) _
    rw [hvx]
    refine O.mk (hE.slLen 0 rfl) ?_
    have hvx2 : (g (locOf m)).getD (.slice none 0 0) = vx := by rw [← hvx]; cases g (locOf m) <;> rfl
    obtain ⟨base, hbase⟩ : ∃ base, base = confs M i := ⟨_, rfl⟩
    obtain ⟨I1, hI1⟩ : ∃ I : Value → Value → World → Prop, I = fun pv2 v2 w' => ∃ (k : Nat), v2 = .int .i64 k ∧ k ≤ (accs M (locOf m) i).length ∧ Own B w' (sl 3 1 vx (natI (accs M (locOf m) i)).length (ints (natI (accs M (locOf m) i))) :: sep (ksR.map leA) :: bk b6 67 (encMK m) :: mpA encL (fun v : Value => v) mb g ::
        sl 89 2 pv2 (base ++ (((accs M (locOf m) i).take k).filter (condB M m)).map fun a => (a, i)).length ((base ++ (((accs M (locOf m) i).take k).filter (condB M m)).map fun a => (a, i)).flatMap encPr) :: (rA tv mv T M ++ (bk b1 52 [tv, mv] :: L))) := ⟨_, rfl⟩
    obtain ⟨m1, hm1⟩ : ∃ m' : Value → Value → World → Nat, m' = fun _ v _ => match v with | .int _ q => ((accs M (locOf m) i).length - q).toNat | _ => 0 := ⟨_, rfl⟩
    refine ⟨I1, m1, ?_, ?_⟩
    · rw [hI1]
      refine ⟨0, rfl, by omega, ?_⟩
      rw [hbase]
      simpa using hE
    clear hE hw5
    intro pv2 t28 wh1 h1
    rw [hI1] at h1
    obtain ⟨k, rfl, hk, hw6⟩ := h1
    have hal : (accs M (locOf m) i).length ≤ i := by
      unfold accs
      refine Nat.le_trans (List.length_filter_le _ _) ?_
      simp
    rw [natI_len]
    (repeat with_reducible first | refine qq ?_ | refine qr ?_ | refine qs ?_)
    refine Bc_dec (fun hlk => ?_) (fun hgk => ?_)
    · obtain ⟨a, ha⟩ := list_get (l := accs M (locOf m) i) (j := k) (by omega)
      obtain ⟨hai, y, hy, hy3, hyl⟩ := accs_lt (List.mem_of_getElem? ha)
      obtain ⟨bx, hix, hrd⟩ := hw6.eli 0 rfl (natI_get ha)
      refine O.mk (hix _ _ (by omega) (by omega)) ?_
      rw [show ((k : Int)).toNat = k by omega]
      refine O.mk hrd ?_
      obtain ⟨bm, hixm, hrdm, hrdN⟩ := hw6.el 6 rfl encMK_len hy
      (repeat with_reducible first | refine qq ?_ | refine qr ?_ | refine qs ?_ | refine hw6.l 7 ?_)
      refine O.mk (hixm _ _ (by omega) (by omega)) ?_
      rw [show ((a : Int)).toNat = a by omega]
      refine O.mk hrdN ?_
      refine hw6.al fun b9 w7 hb9 hw7 => ?_
      clear hrdm hrdN hixm hrd hix hw6
      refine hw7.st_bk (x := .agg (encMK y).toArray) 0 rfl (by kernel_rfl) (encMK_one y) (Nat.le_refl 8) fun w8 hw8 => ?_
      clear hw7
      replace hw8 : Own B w8 (bk b9 67 (encMK y) :: sl 3 1 vx (natI (accs M (locOf m) i)).length (ints (natI (accs M (locOf m) i))) :: sep (ksR.map leA) :: bk b6 67 (encMK m) :: mpA encL (fun v : Value => v) mb g ::
        sl 89 2 pv2 (base ++ (((accs M (locOf m) i).take k).filter (condB M m)).map fun a => (a, i)).length ((base ++ (((accs M (locOf m) i).take k).filter (condB M m)).map fun a => (a, i)).flatMap encPr) :: (rA tv mv T M ++ (bk b1 52 [tv, mv] :: L))) := hw8
      have hcond : condB M m a = decide (y.task ≠ m.task ∧ (m.write = true ∨ y.write = true)) := by unfold condB; rw [hy]
      have JS : ∀ (pv3 : Value) w', Own B w' (bk b9 67 (encMK y) :: sl 3 1 vx (natI (accs M (locOf m) i)).length (ints (natI (accs M (locOf m) i))) :: sep (ksR.map leA) :: bk b6 67 (encMK m) :: mpA encL (fun v : Value => v) mb g ::
        sl 89 2 pv3 (base ++ (((accs M (locOf m) i).take (k + 1)).filter (condB M m)).map fun a => (a, i)).length ((base ++ (((accs M (locOf m) i).take (k + 1)).filter (condB M m)).map fun a => (a, i)).flatMap encPr) :: (rA tv mv T M ++ (bk b1 52 [tv, mv] :: L))) → j36_1 R (.int .i64 k) I1 m1 pv2 wh1 pv3 w' := by
        intro pv3 w' h
        unfold j36_1
        refine O.mk (bi_addb (a := k) (b := 1) (by omega)) ?_
        rw [hI1, hm1]
        exact ⟨⟨k + 1, rfl, by omega, h.tail⟩, by simp only; omega⟩
      have J2 : ∀ c, c = condB M m a → j36_2 R (.int .i64 a) (.int .i64 i) pv2 (.int .i64 k) I1 m1 wh1 (.bool c) w8 := by
        intro c hc
        unfold j36_2
        refine Bc_b (fun h => ?_) (fun h => ?_)
        · refine O.mk (fill89 _ _) ?_
          have hps : (base ++ (((accs M (locOf m) i).take k).filter (condB M m)).map fun a => (a, i)).length < 2 ^ 40 := by
            have h1 := clen i hi
            have h2 : (((accs M (locOf m) i).take k).filter (condB M m)).length ≤ k := by
              refine Nat.le_trans (List.length_filter_le _ _) ?_
              simp; omega
            rw [List.length_append, List.length_map, hbase]
            omega
          refine hw8.pair 5 rfl hps a i fun v' w9 hw9 => JS v' w9 ?_
          rw [take_filter ha, if_pos (by rw [← hc, h])]
          rw [List.map_append, ← List.append_assoc]
          exact hw9
        · refine JS pv2 w8 ?_
          rw [take_filter ha, if_neg (by rw [← hc, h]; decide), List.append_nil]
          exact hw8
      (repeat with_reducible first | refine qq ?_ | refine qr ?_ | refine qs ?_ | refine hw8.l 0 ?_ | refine hw8.l 3 ?_)
      refine Bc_dec (fun g1 => ?_) (fun g1 => J2 false (by rw [hcond, decide_eq_false (fun h => g1 h.1)]))
      (repeat with_reducible first | refine qq ?_ | refine qr ?_ | refine qs ?_ | refine hw8.l 0 ?_ | refine hw8.l 3 ?_)
      refine Bc_b (fun g2 => J2 true (by rw [hcond, decide_eq_true ⟨g1, .inl g2⟩])) (fun g2 => ?_)
      (repeat with_reducible first | refine qq ?_ | refine qr ?_ | refine qs ?_ | refine hw8.l 0 ?_ | refine hw8.l 3 ?_)
      refine J2 _ ?_
      rw [hcond]
      rcases hyw : y.write with _ | _
      · have hnn : ¬ (y.task ≠ m.task ∧ (m.write = true ∨ false = true)) := fun h => by
          rcases h.2 with h' | h'
          · rw [h'] at g2; cases g2
          · cases h'
        rw [decide_eq_false hnn]
      · rw [decide_eq_true ⟨g1, .inr rfl⟩]
    · have hke : k = (accs M (locOf m) i).length := by omega
      rw [hke, List.take_length] at hw6
      have hrow : base ++ ((accs M (locOf m) i).filter (condB M m)).map (fun a => (a, i)) = confs M (i + 1) := by
        rw [confs_succ, confRow_acc hmm k3', hbase]
      rw [hrow] at hw6
      clear hke hk hgk
      (repeat with_reducible first | refine qq ?_ | refine qr ?_ | refine qs ?_ | refine hw6.l 2 ?_)
      refine O.mk (v := encL (locOf m)) (hw6.rdN_bk 2 rfl (by show 3 + 1 + 3 ≤ 8; decide)) ?_
      have hbs : bsx 3 1 1 (.int .i64 0) [(0, .int .i64 (i : Int))] = some (.cells [Value.int .i64 (i : Int)].toArray 3, fun n => .slice (some ⟨n, 0, none⟩) 1 1) := bsx_one (by decide) (by decide) rfl rfl rfl
      refine hw6.bs hbs fun bn w7 hbn hw7 => ?_
      clear hw6
      refine hw7.mentry 4 rfl (locKey eq63) und150 (z := .slice none 0 0) zer39 (locOf m) fun w8 st hw8 => ?_
      clear hw7
      rw [hvx2] at hw8
      show O (exv (.tuple #[(g (locOf m)).getD (.slice none 0 0), .int .i64 st]) 0) _
      rw [hvx2]
      refine O.mk (v := vx) rfl ?_
      refine Own.ap (P := Try.prog) hw8 (news := [.int .i64 (i : Int)]) (ty := 39) T39 ⟨_, T39.under⟩ 1 rfl (hw8.src_bk 0 rfl rfl) rfl rfl (by rw [natI_len]; omega) fun v' w9 hw9 => ?_
      clear hw8
      refine O.mk (v := .int .i64 st) rfl ?_
      have hw10 : Own B w9 (bk bn 3 [.int .i64 (i : Int)] :: sl 3 1 v' (natI (accs M (locOf m) i ++ [i])).length (ints (natI (accs M (locOf m) i ++ [i]))) :: sep (ksR.map leA) :: bk b6 67 (encMK m) :: mpE encL (fun v : Value => v) mb (upd g (locOf m) vx) (locOf m) st :: sl 89 2 pv2 (confs M (i + 1)).length ((confs M (i + 1)).flatMap encPr) :: (rA tv mv T M ++ (bk b1 52 [tv, mv] :: L))) := by
        have e1 : natI (accs M (locOf m) i ++ [i]) = natI (accs M (locOf m) i) ++ [(i : Int)] := by simp [natI]
        have e2 : ints (natI (accs M (locOf m) i) ++ [(i : Int)]) = ints (natI (accs M (locOf m) i)) ++ [.int .i64 (i : Int)] := by simp [ints]
        rw [e1, e2, List.length_append]
        exact hw9
      clear hw9
      refine hw10.mstore 4 rfl (locKey eq63) (v := v') fun w11 hw11 => ?_
      clear hw10
      have e3 : upd (upd g (locOf m) vx) (locOf m) v' = upd g (locOf m) v' := by
        funext x
        unfold upd
        split <;> rfl
      rw [e3] at hw11
      obtain ⟨ks2, hK2, hw12⟩ := hput v' w11 (bk b6 67 (encMK m) :: mpA encL (fun v : Value => v) mb (upd g (locOf m) v') :: sl 89 2 pv2 (confs M (i + 1)).length ((confs M (i + 1)).flatMap encPr) :: (rA tv mv T M ++ (bk b1 52 [tv, mv] :: L))) hw11.tail
      exact JN pv2 _ ks2 w11 hK2 (hw12.drop 1)
  · have hie : i = M.length := by omega
    rw [hie] at hw3
    rw [hR]
    have h1 : Own B wh0 (sl 89 2 pv (confs M M.length).length ((confs M M.length).flatMap encPr) :: (rA tv mv T M ++ (bk b1 52 [tv, mv] :: L))) := hw3.tail.tail
    exact (h1.drop 3).perm (List.perm_middle (l₁ := rA tv mv T M)).symm
end
end Go.Proofs.Ytedcfkigfcobaaa
end
/- Contracts: the races of a run. -/
section
namespace Go.Proofs.Ytedcfkigfcobaaa
open Go Go.Proofs
attribute [local irreducible] Bc O AL BS MS MM ST AP CV Cl
/-- the races, in the order of the later mark -/
def RaceL (T : List TK) (M : List MK) (bl el : List Int) (l : List (Nat × Nat)) : Prop := ∃ p : Nat × Nat → Bool, l = (confs M M.length).filter p ∧ ∀ a b, a < M.length → b < M.length → (p (a, b) = true ↔ ¬ HB T M bl el a b ∧ ¬ HB T M bl el b a)
theorem confs_mem {M : List MK} {n : Nat} {q : Nat × Nat} (h : q ∈ confs M n) : q.1 < q.2 ∧ q.2 < n := by
  unfold confs at h
  rw [List.mem_flatMap] at h
  obtain ⟨b, h1, h2⟩ := h
  unfold confRow at h2
  rw [List.mem_map] at h2
  obtain ⟨a, h3, rfl⟩ := h2
  rw [List.mem_filter, List.mem_range] at h3
  rw [List.mem_range] at h1
  exact ⟨h3.1, h1⟩
theorem RaceL.uniq {T : List TK} {M : List MK} {bl el : List Int} {l l' : List (Nat × Nat)} (h : RaceL T M bl el l) (h' : RaceL T M bl el l') : l = l' := by
  obtain ⟨p, rfl, hp⟩ := h
  obtain ⟨p', rfl, hp'⟩ := h'
  apply List.filter_congr
  intro q hq
  have := confs_mem hq
  rw [Bool.eq_iff_iff, show q = (q.1, q.2) from rfl, hp _ _ (by omega) (by omega), hp' _ _ (by omega) (by omega)]
theorem confs_len (M : List MK) : ∀ i, i ≤ M.length → (confs M i).length ≤ i * M.length := by
  intro i
  induction i with
  | zero => intro _; simp [confs]
  | succ i ih =>
    intro hi
    rw [confs_succ, List.length_append]
    have h1 := ih (by omega)
    have h2 : (confRow M i).length ≤ i := by
      unfold confRow
      rw [List.length_map]
      refine Nat.le_trans (List.length_filter_le _ _) ?_
      simp
    rw [Nat.add_mul]; omega
theorem take_filter' {α : Type} {l : List α} {p : α → Bool} {k : Nat} {a : α} (h : l[k]? = some a) : (l.take (k + 1)).filter p = (l.take k).filter p ++ if p a then [a] else [] := by
  rw [List.take_add_one, h, List.filter_append]
  congr 1
  show List.filter p [a] = _
  rw [List.filter_cons]
  split <;> simp
section
variable {B : Base} {w : World} {L : List Atom} {mv : Value} {T : List TK} {M : List MK} {bt capt : Nat}
set_option maxHeartbeats 4000000 in
set_option maxRecDepth 8000 in
theorem k17 (hw : Own B w (rA (tvS bt T.length capt) mv T M ++ L)) (hr : RunOK T M) (hT : T.length ≤ 256) (hn : M.length ≤ 1200) :
    Cl Try.prog 17 [runV (tvS bt T.length capt) mv] w fun v w' => ∃ (pv : Value) (l : List (Nat × Nat)) (bl el : List Int), v = .tuple #[pv, .int .i64 0] ∧ BE T M M.length 1 bl ∧ BE T M M.length 2 el ∧ RaceL T M bl el l ∧ Own B w' (rA (tvS bt T.length capt) mv T M ++ (sl 89 2 pv l.length (l.flatMap encPr) :: L)) := by
  obtain ⟨R, hR⟩ : ∃ R : Value → World → Prop, R = fun v w' => ∃ (pv : Value) (l : List (Nat × Nat)) (bl el : List Int), v = .tuple #[pv, .int .i64 0] ∧ BE T M M.length 1 bl ∧ BE T M M.length 2 el ∧ RaceL T M bl el l ∧ Own B w' (rA (tvS bt T.length capt) mv T M ++ (sl 89 2 pv l.length (l.flatMap encPr) :: L)) := ⟨_, rfl⟩
  rw [← hR]
  refine s17 ?_
  unfold c17
  refine hw.al fun b1 w1 hb1 hw1' => ?_
  have hw1 : Own B w1 (rA (tvS bt T.length capt) mv T M ++ (bk b1 52 [tvS bt T.length capt, mv] :: L)) := hw1'.perm (List.perm_middle (l₁ := rA (tvS bt T.length capt) mv T M)).symm
  clear hw1' hw
  refine O.mk (v := runV (tvS bt T.length capt) mv) (hw1.rdN_bk 2 rfl (Nat.le_refl 2)) ?_
  refine (k29 hw1 hr hT hn).use ?_
  clear hw1
  rintro _ w2 ⟨rfl, hw2⟩
  (repeat with_reducible first | refine qq ?_ | refine qr ?_ | refine qs ?_)
  refine Bc_dec (fun h => absurd rfl h) (fun _ => ?_)
  refine O.mk (v := runV (tvS bt T.length capt) mv) (hw2.rdN_bk 2 rfl (Nat.le_refl 2)) ?_
  refine (k30 hw2 hr hT hn).use ?_
  clear hw2
  rintro _ w3 ⟨cb, rv, bv, ev, rs, bl, el, rfl, hb, he, hl, hH, hw3⟩
  refine O.mk (v := runV (tvS bt T.length capt) mv) (hw3.rdN_bk 6 rfl (Nat.le_refl 2)) ?_
  refine (k36 hw3 hn rfl).use ?_
  clear hw3
  intro cv w4 hw4'
  have hw4 : Own B w4 (rA (tvS bt T.length capt) mv T M ++ (clA (tvS bt T.length capt) mv rv bv ev cb rs bl el ++ (sl 89 2 cv (confs M M.length).length ((confs M M.length).flatMap encPr) :: bk b1 52 [tvS bt T.length capt, mv] :: L))) := by
    have := hw4'.perm ((List.Perm.append_left (rA (tvS bt T.length capt) mv T M) (List.perm_middle (l₁ := clA (tvS bt T.length capt) mv rv bv ev cb rs bl el)).symm))
    exact this
  clear hw4'
  refine O.mk (hw4.slLen 6 rfl) ?_
  obtain ⟨p, hp⟩ : ∃ p : Nat × Nat → Bool, p = fun q => !Has rs q.1 q.2 && !Has rs q.2 q.1 := ⟨_, rfl⟩
  obtain ⟨C, hC⟩ : ∃ C, C = confs M M.length := ⟨_, rfl⟩
  have hCl : C.length ≤ 1200 * 1200 := by
    rw [hC]
    exact Nat.le_trans (confs_len M M.length (Nat.le_refl _)) (Nat.mul_le_mul hn hn)
  have hCm : ∀ (k : Nat) q, C[k]? = some q → q.1 < q.2 ∧ q.2 < M.length := fun k q h => confs_mem (by rw [← hC]; exact List.mem_of_getElem? h)
  have hRL : RaceL T M bl el (C.filter p) := ⟨p, by rw [hC], fun a b h1 h2 => by
    rw [hp]
    simp only [Bool.and_eq_true, Bool.not_eq_true']
    rw [← hH a b, ← hH b a]
    simp⟩
  rw [← hC] at hw4 ⊢
  clear hC
  obtain ⟨I0, hI⟩ : ∃ I : Value → Value → World → Prop, I = fun v1 v2 w' => ∃ (k : Nat), v2 = .int .i64 k ∧ k ≤ C.length ∧ Own B w' (rA (tvS bt T.length capt) mv T M ++ (clA (tvS bt T.length capt) mv rv bv ev cb rs bl el ++ (sl 89 2 cv C.length (C.flatMap encPr) :: sl 89 2 v1 ((C.take k).filter p).length (((C.take k).filter p).flatMap encPr) :: bk b1 52 [tvS bt T.length capt, mv] :: L))) := ⟨_, rfl⟩
  obtain ⟨m0, hm⟩ : ∃ m : Value → Value → World → Nat, m = fun _ v _ => match v with | .int _ i => (C.length - i).toNat | _ => 0 := ⟨_, rfl⟩
  refine ⟨I0, m0, ?_, ?_⟩
  · rw [hI]
    refine ⟨0, rfl, by omega, ?_⟩
    exact (hw4.nilSl 89 2).perm (List.perm_middle (l₁ := rA (tvS bt T.length capt) mv T M ++ clA (tvS bt T.length capt) mv rv bv ev cb rs bl el ++ [sl 89 2 cv C.length (C.flatMap encPr)]) (a := sl 89 2 (.slice none 0 0) 0 []) (l₂ := bk b1 52 [tvS bt T.length capt, mv] :: L)).symm
  clear hw4
  intro t6 t19 wh0 h0
  rw [hI] at h0
  obtain ⟨k, rfl, hk, hw5⟩ := h0
  (repeat with_reducible first | refine qq ?_ | refine qr ?_ | refine qs ?_)
  refine Bc_dec (fun hlt => ?_) (fun hge => ?_)
  · obtain ⟨q, hq⟩ := list_get (l := C) (j := k) (by omega)
    have hqq := hCm k q hq
    obtain ⟨bq, hix, _, hrdN⟩ := hw5.el 6 rfl encPr_len hq
    refine O.mk (hix _ _ (by omega) (by omega)) ?_
    rw [show ((k : Int)).toNat = k by omega]
    refine O.mk hrdN ?_
    refine hw5.al fun b8 w6 hb8 hw6' => ?_
    clear hrdN hix
    have hw6 : Own B w6 (rA (tvS bt T.length capt) mv T M ++ (clA (tvS bt T.length capt) mv rv bv ev cb rs bl el ++ (bk b8 89 [.int .i64 0, .int .i64 0] :: sl 89 2 cv C.length (C.flatMap encPr) :: sl 89 2 t6 ((C.take k).filter p).length (((C.take k).filter p).flatMap encPr) :: bk b1 52 [tvS bt T.length capt, mv] :: L))) := hw6'.perm (List.perm_middle (l₁ := rA (tvS bt T.length capt) mv T M ++ clA (tvS bt T.length capt) mv rv bv ev cb rs bl el)).symm
    clear hw6' hw5
    refine hw6.st_bk (x := .agg (encPr q).toArray) 6 rfl (by kernel_rfl) rfl (Nat.le_refl 2) fun w7 hw7 => ?_
    clear hw6
    replace hw7 : Own B w7 (rA (tvS bt T.length capt) mv T M ++ (clA (tvS bt T.length capt) mv rv bv ev cb rs bl el ++ (bk b8 89 (encPr q) :: sl 89 2 cv C.length (C.flatMap encPr) :: sl 89 2 t6 ((C.take k).filter p).length (((C.take k).filter p).flatMap encPr) :: bk b1 52 [tvS bt T.length capt, mv] :: L))) := hw7
    have JN : ∀ (v1 : Value) w', Own B w' (rA (tvS bt T.length capt) mv T M ++ (clA (tvS bt T.length capt) mv rv bv ev cb rs bl el ++ (bk b8 89 (encPr q) :: sl 89 2 cv C.length (C.flatMap encPr) :: sl 89 2 v1 ((C.take (k + 1)).filter p).length (((C.take (k + 1)).filter p).flatMap encPr) :: bk b1 52 [tvS bt T.length capt, mv] :: L))) → j17_0 R (.int .i64 k) I0 m0 t6 wh0 v1 w' := by
      intro v1 w' h
      unfold j17_0
      refine O.mk (bi_addb (a := k) (b := 1) (by omega)) ?_
      rw [hI, hm]
      exact ⟨⟨k + 1, rfl, by omega, h.drop 6⟩, by simp only; omega⟩
    have J1 : ∀ c, c = p q → j17_1 R (pp b8) t6 (.int .i64 k) I0 m0 wh0 (.bool c) w7 := by
      intro c hc
      unfold j17_1
      refine Bc_b (fun h => ?_) (fun h => ?_)
      · refine O.mk (v := .agg (encPr q).toArray) (hw7.rdN_bk 6 rfl (Nat.le_refl 2)) ?_
        have hln : ((C.take k).filter p).length < 2 ^ 40 := by
          have := List.length_filter_le p (C.take k)
          have h2 : (C.take k).length ≤ C.length := by simp; omega
          omega
        refine hw7.pair 8 rfl hln q.1 q.2 fun v' w9 hw9 => JN v' w9 ?_
        rw [take_filter' hq, if_pos (by rw [← hc, h])]
        exact hw9
      · refine JN t6 w7 ?_
        rw [take_filter' hq, if_neg (by rw [← hc, h]; decide), List.append_nil]
        exact hw7
    (repeat with_reducible first | refine qq ?_ | refine qr ?_ | refine qs ?_ | refine hw7.l 6 ?_)
    refine (k31 hw7 (a := q.1) (b := q.2) (by omega) (by omega)).use ?_
    rintro _ w8 ⟨rfl, h8⟩
    rw [h8]
    clear h8 w8
    have e1 : (decide (0 ≤ (q.1 : Int) ∧ 0 ≤ (q.2 : Int)) && Has rs ((q.1 : Int)).toNat ((q.2 : Int)).toNat) = Has rs q.1 q.2 := by
      rw [decide_eq_true (by omega)]; simp
    rw [e1]
    (repeat with_reducible first | refine qq ?_ | refine qr ?_ | refine qs ?_)
    refine Bc_b (fun h => ?_) (fun h => ?_)
    · (repeat with_reducible first | refine qq ?_ | refine qr ?_ | refine qs ?_ | refine hw7.l 6 ?_)
      refine (k31 hw7 (a := q.2) (b := q.1) (by omega) (by omega)).use ?_
      rintro _ w8 ⟨rfl, h8⟩
      rw [h8]
      clear h8 w8
      have e2 : (decide (0 ≤ (q.2 : Int) ∧ 0 ≤ (q.1 : Int)) && Has rs ((q.2 : Int)).toNat ((q.1 : Int)).toNat) = Has rs q.2 q.1 := by
        rw [decide_eq_true (by omega)]; simp
      rw [e2]
      (repeat with_reducible first | refine qq ?_ | refine qr ?_ | refine qs ?_)
      refine J1 _ ?_
      rw [hp]
      simp only
      rw [h, Bool.true_and]
    · refine J1 false ?_
      rw [hp]
      simp only
      rw [h, Bool.false_and]
  · have hke : k = C.length := by omega
    rw [hke, List.take_length] at hw5
    rw [hR]
    refine ⟨t6, C.filter p, bl, el, rfl, hb, he, hRL, ?_⟩
    exact ((((((hw5.drop 2).drop 2).drop 2).drop 2).drop 2).drop 3)
end
end Go.Proofs.Ytedcfkigfcobaaa
end
/- Contracts: the document's order: find, set, first, conflict. -/
section
namespace Go.Proofs.Ytedcfkigfcobaaa
open Go Go.Proofs
attribute [local irreducible] Bc O AL BS MS MM ST AP CV Cl
structure Sq (n : Nat) (rows : List BR) : Prop where
  len : rows.length = n
  row : ∀ (a : Nat) r, rows[a]? = some r → r.l.length = n
abbrev oA (tv mv hv bv ev : Value) (ob : Nat) (rows : List BR) (bl el : List Int) : List Atom := [bk ob 110 [tv, mv, hv, bv, ev], sl 59 1 hv rows.length (rows.flatMap encBR), sep (rows.map brA), sl 3 1 bv bl.length (ints bl), sl 3 1 ev el.length (ints el)]
def AddedB (rows rows' : List BR) (a b : Int) : Prop := (∀ x y, HasB rows x y = true → HasB rows' x y = true) ∧ (0 ≤ a → 0 ≤ b → HasB rows' a.toNat b.toNat = true) ∧ ∀ x y, HasB rows' x y = true → HasB rows x y = true ∨ (0 ≤ a ∧ 0 ≤ b ∧ x = a.toNat ∧ y = b.toNat)
theorem Sq.get {n : Nat} {rows : List BR} (h : Sq n rows) {a b : Nat} (ha : a < n) (hb : b < n) : ∃ r x, rows[a]? = some r ∧ r.l[b]? = some x ∧ HasB rows a b = x := by
  obtain ⟨r, hr⟩ := list_get (l := rows) (j := a) (by have := h.len; omega)
  obtain ⟨x, hx⟩ := list_get (l := r.l) (j := b) (by have := h.row a r hr; omega)
  exact ⟨r, x, hr, hx, by rw [HasB_row hr, hx]; rfl⟩
theorem Sq.set {n : Nat} {rows : List BR} (h : Sq n rows) {a b : Nat} {r : BR} (hr : rows[a]? = some r) (x : Bool) : Sq n (rows.set a ⟨r.v, r.l.set b x⟩) := by
  refine ⟨by simpa using h.len, fun i q hq => ?_⟩
  rcases set_get hr hq with ⟨_, rfl⟩ | ⟨_, h1⟩
  · simpa using h.row a r hr
  · exact h.row i q h1
section
variable {B : Base} {w : World} {L : List Atom} {tv mv hv bv ev : Value} {T : List TK} {M : List MK} {ob : Nat} {rows : List BR} {bl el : List Int}
theorem k32 (hw : Own B w (rA tv mv T M ++ L)) (hn : M.length ≤ 60000) (x kd : Int) : Cl Try.prog 32 [runV tv mv, .int .i64 x, .int .i64 kd, .int .i64 M.length] w fun v w' => (∃ i : Int, v = .int .i64 i ∧ IsAt M M.length kd x i) ∧ Own B w' (rA tv mv T M ++ L) := by
  obtain ⟨R, hR⟩ : ∃ R : Value → World → Prop, R = fun v w' => (∃ i : Int, v = .int .i64 i ∧ IsAt M M.length kd x i) ∧ Own B w' (rA tv mv T M ++ L) := ⟨_, rfl⟩
  rw [← hR]
  refine s32 ?_
  unfold c32
  refine hw.al fun b1 w1 hb1 hw1' => ?_
  have hw1 : Own B w1 (rA tv mv T M ++ (bk b1 52 [tv, mv] :: L)) := hw1'.perm (List.perm_middle (l₁ := rA tv mv T M)).symm
  clear hw1' hw
  obtain ⟨I0, hI⟩ : ∃ I : Value → World → Prop, I = fun v w' => ∃ (i : Nat), v = .int .i64 i ∧ i ≤ M.length ∧ (∀ (j : Nat) (n : MK), j < i → M[j]? = some n → ¬ (n.task = x ∧ n.kind = kd)) ∧ Own B w' (rA tv mv T M ++ (bk b1 52 [tv, mv] :: L)) := ⟨_, rfl⟩
  obtain ⟨m0, hm⟩ : ∃ m : Value → World → Nat, m = fun v _ => match v with | .int _ i => (M.length - i).toNat | _ => 0 := ⟨_, rfl⟩
  refine ⟨I0, m0, by rw [hI]; exact ⟨0, rfl, by omega, fun j n h => by omega, hw1⟩, ?_⟩
  clear hw1
  intro t9 wh0 h0
  rw [hI] at h0
  obtain ⟨i, rfl, hi, hno, hw2⟩ := h0
  (repeat with_reducible first | refine qq ?_ | refine qr ?_ | refine qs ?_ | refine hw2.l 2 ?_)
  refine O.mk (hw2.slLen 1 rfl) ?_
  (repeat with_reducible first | refine qq ?_ | refine qr ?_ | refine qs ?_)
  refine Bc_dec (fun hlt => ?_) (fun hge => ?_)
  · (repeat with_reducible first | refine qq ?_ | refine qr ?_ | refine qs ?_)
    rw [decide_eq_true hlt]
    unfold j32_0
    refine Bc_t ?_
    obtain ⟨m, hmm⟩ := list_get (l := M) (j := i) (by omega)
    obtain ⟨bm, hixm, hrdm, _⟩ := hw2.el 1 rfl encMK_len hmm
    have J1 : ∀ c : Bool, (c = true ↔ (m.task = x ∧ m.kind = kd)) → j32_1 R (.int .i64 i) I0 m0 wh0 (.bool c) wh0 := by
      intro c hc
      unfold j32_1
      refine Bc_b (fun h => ?_) (fun h => ?_)
      · rw [hR]
        exact ⟨⟨i, rfl, .inr ⟨i, m, rfl, by omega, hmm, hc.1 h⟩⟩, hw2.drop 2⟩
      · refine O.mk (bi_addb (a := i) (b := 1) (by omega)) ?_
        rw [hI, hm]
        refine ⟨⟨i + 1, rfl, by omega, fun j n hj hn' => ?_, hw2⟩, by simp only; omega⟩
        by_cases hji : j = i
        · subst hji; rw [hmm] at hn'; cases hn'
          intro h'; rw [hc.2 h'] at h; cases h
        · exact hno j n (by omega) hn'
    (repeat with_reducible first | refine qq ?_ | refine qr ?_ | refine qs ?_ | refine hw2.l 2 ?_)
    refine O.mk (hixm _ _ (by omega) (by omega)) ?_
    rw [show ((i : Int)).toNat = i by omega]
    (repeat with_reducible first | refine qq ?_ | refine qr ?_ | refine qs ?_)
    refine O.mk (hrdm 1 _ rfl) ?_
    (repeat with_reducible first | refine qq ?_ | refine qr ?_ | refine qs ?_)
    refine Bc_dec (fun h1 => ?_) (fun h1 => J1 false ⟨fun h => (by cases h), fun h => absurd h.1 h1⟩)
    (repeat with_reducible first | refine qq ?_ | refine qr ?_ | refine qs ?_ | refine hw2.l 2 ?_)
    refine O.mk (hixm _ _ (by omega) (by omega)) ?_
    rw [show ((i : Int)).toNat = i by omega]
    (repeat with_reducible first | refine qq ?_ | refine qr ?_ | refine qs ?_)
    refine O.mk (hrdm 0 _ rfl) ?_
    (repeat with_reducible first | refine qq ?_ | refine qr ?_ | refine qs ?_)
    refine J1 _ ?_
    rw [decide_eq_true_eq]
    exact ⟨fun h => ⟨h1, h⟩, fun h => h.2⟩
  · have hie : i = M.length := by omega
    subst hie
    unfold j32_0
    refine Bc_f ?_
    rw [hR]
    exact ⟨⟨-1, rfl, .inl ⟨rfl, hno⟩⟩, hw2.drop 2⟩
theorem k13 (hw : Own B w (rA tv mv T M ++ L)) (hn : M.length ≤ 60000) (x : Int) : Cl Try.prog 13 [runV tv mv, .int .i64 x] w fun v w' => (∃ i : Int, v = .int .i64 i ∧ IsAt M M.length 1 x i) ∧ Own B w' (rA tv mv T M ++ L) := by
  refine s13 ?_
  unfold c13
  refine hw.al fun b1 w1 hb1 hw1' => ?_
  have hw1 : Own B w1 (rA tv mv T M ++ (bk b1 52 [tv, mv] :: L)) := hw1'.perm (List.perm_middle (l₁ := rA tv mv T M)).symm
  clear hw1' hw
  refine O.mk (v := runV tv mv) (hw1.rdN_bk 2 rfl (Nat.le_refl 2)) ?_
  (repeat with_reducible first | refine qq ?_ | refine qr ?_ | refine qs ?_ | refine hw1.l 2 ?_)
  refine O.mk (hw1.slLen 1 rfl) ?_
  refine (k32 hw1 hn x 1).use ?_
  rintro v w2 ⟨h1, hw2⟩
  exact ⟨h1, hw2.drop 2⟩
theorem k49 (hw : Own B w (rA tv mv T M ++ L)) (hn : M.length ≤ 60000) (x : Int) : Cl Try.prog 49 [runV tv mv, .int .i64 x] w fun v w' => (∃ i : Int, v = .int .i64 i ∧ IsAt M M.length 2 x i) ∧ Own B w' (rA tv mv T M ++ L) := by
  refine s49 ?_
  unfold c49
  refine hw.al fun b1 w1 hb1 hw1' => ?_
  have hw1 : Own B w1 (rA tv mv T M ++ (bk b1 52 [tv, mv] :: L)) := hw1'.perm (List.perm_middle (l₁ := rA tv mv T M)).symm
  clear hw1' hw
  refine O.mk (v := runV tv mv) (hw1.rdN_bk 2 rfl (Nat.le_refl 2)) ?_
  (repeat with_reducible first | refine qq ?_ | refine qr ?_ | refine qs ?_ | refine hw1.l 2 ?_)
  refine O.mk (hw1.slLen 1 rfl) ?_
  refine (k32 hw1 hn x 2).use ?_
  rintro v w2 ⟨h1, hw2⟩
  exact ⟨h1, hw2.drop 2⟩
theorem k75 {n : Nat} (hw : Own B w (rA tv mv T M ++ (oA tv mv hv bv ev ob rows bl el ++ L))) (hs : Sq n rows) {a b : Int} (ha : a < n) (hb : b < n) : Cl Try.prog 75 [pp ob, .int .i64 a, .int .i64 b] w fun v w' => v = .tuple #[] ∧ ∃ rows', Sq n rows' ∧ AddedB rows rows' a b ∧ Own B w' (rA tv mv T M ++ (oA tv mv hv bv ev ob rows' bl el ++ L)) := by
  have hno : ¬ (0 ≤ a ∧ 0 ≤ b) → ∃ rows', Sq n rows' ∧ AddedB rows rows' a b ∧ Own B w (rA tv mv T M ++ (oA tv mv hv bv ev ob rows' bl el ++ L)) := fun h => ⟨rows, hs, ⟨fun _ _ h => h, fun h1 h2 => absurd ⟨h1, h2⟩ h, fun _ _ h => .inl h⟩, hw⟩
  refine s75 ?_
  unfold c75
  (repeat with_reducible first | refine qq ?_ | refine qr ?_ | refine qs ?_)
  refine Bc_dec (fun h1 => ?_) (fun h1 => ?_)
  · (repeat with_reducible first | refine qq ?_ | refine qr ?_ | refine qs ?_)
    unfold j75_0
    refine Bc_dec (fun h2 => ?_) (fun h2 => ⟨rfl, hno (fun h => h2 h.2)⟩)
    obtain ⟨r, x, hr, hx, hh⟩ := hs.get (a := a.toNat) (b := b.toNat) (by omega) (by omega)
    obtain ⟨b1, hix, hrd⟩ := hw.bbrow 3 rfl hr
    (repeat with_reducible first | refine qq ?_ | refine qr ?_ | refine qs ?_ | refine hw.l 2 ?_)
    refine O.mk (hix _ _ h1 rfl) ?_
    refine O.mk hrd ?_
    obtain ⟨c, hix2, _⟩ := hw.bbel 4 rfl hr hx
    refine O.mk (hix2 _ _ h2 rfl) ?_
    refine hw.bbst 4 rfl hr (list_lt hx) true (hix2 .i64 _ h2 rfl) rfl tsz4' fun w2 hw2 => ?_
    refine ⟨rfl, rows.set a.toNat ⟨r.v, r.l.set b.toNat true⟩, hs.set hr true, ⟨fun x y h => ?_, fun _ _ => ?_, fun x y h => ?_⟩, ?_⟩
    · rw [HasB_set hr (list_lt hx), h]; rfl
    · rw [HasB_set hr (list_lt hx)]; simp
    · rw [HasB_set hr (list_lt hx), Bool.or_eq_true] at h
      rcases h with h | h
      · exact .inl h
      · exact .inr ⟨h1, h2, of_decide_eq_true h⟩
    · have e1 : (rows.set a.toNat ⟨r.v, r.l.set b.toNat true⟩).length = rows.length := by simp
      have e2 : (rows.set a.toNat ⟨r.v, r.l.set b.toNat true⟩).flatMap encBR = rows.flatMap encBR := by
        rw [← flat_upd (ys := []) (j := 0) encBR_len hr (by simp) (by simp [updL, encBR])]
        simp [updL]
      unfold oA
      rw [e1, e2]
      exact hw2
  · unfold j75_0
    refine Bc_f ?_
    exact ⟨rfl, hno (fun h => h1 h.1)⟩
theorem k76 {n : Nat} (hw : Own B w (rA tv mv T M ++ (oA tv mv hv bv ev ob rows bl el ++ L))) (hs : Sq n rows) {a b : Int} (ha : a < n) (hb : b < n) : Cl Try.prog 76 [pp ob, .int .i64 a, .int .i64 b] w fun v w' => v = .bool (decide (0 ≤ a ∧ 0 ≤ b) && HasB rows a.toNat b.toNat) ∧ w' = w := by
  refine s76 ?_
  unfold c76
  (repeat with_reducible first | refine qq ?_ | refine qr ?_ | refine qs ?_)
  refine Bc_dec (fun h1 => ?_) (fun h1 => ?_)
  · (repeat with_reducible first | refine qq ?_ | refine qr ?_ | refine qs ?_)
    refine Bc_dec (fun h2 => ?_) (fun h2 => ?_)
    · obtain ⟨r, x, hr, hx, hh⟩ := hs.get (a := a.toNat) (b := b.toNat) (by omega) (by omega)
      obtain ⟨b1, hix, hrd⟩ := hw.bbrow 3 rfl hr
      (repeat with_reducible first | refine qq ?_ | refine qr ?_ | refine qs ?_ | refine hw.l 2 ?_)
      refine O.mk (hix _ _ h1 rfl) ?_
      refine O.mk hrd ?_
      obtain ⟨c, hix2, hrd2⟩ := hw.bbel 4 rfl hr hx
      refine O.mk (hix2 _ _ h2 rfl) ?_
      refine O.mk hrd2 ?_
      refine ⟨?_, rfl⟩
      rw [decide_eq_true ⟨h1, h2⟩, hh]; rfl
    · rw [decide_eq_false (by omega)]
      exact ⟨rfl, rfl⟩
  · rw [decide_eq_false (by omega)]
    exact ⟨rfl, rfl⟩
end
abbrev zMK : List Value := [.int .i64 0, .int .i64 0, .int .i64 0, .int .i64 0, .int .i64 0, .int .i64 0, .int .i64 0, .bool false]
section
variable {B : Base} {w : World} {L : List Atom} {tv : Value} {T : List TK} {M : List MK} {bm capm : Nat}
theorem Own.stMK (h : Own B w L) {b : Nat} {t : MK} (k : Nat) (hk : L[k]? = some (bk b 67 zMK)) {K : Value → World → Prop} (hK : ∀ w', Own B w' (L.set k (bk b 67 (encMK t))) → K undef w') : ST Try.prog 67 (pp b) (.agg (encMK t).toArray) w K :=
  h.st_bk (x := .agg (encMK t).toArray) k hk (by kernel_rfl) (encMK_one t) (Nat.le_refl 8) fun w' hw' => hK w' hw'
set_option maxHeartbeats 4000000 in
theorem k53 (hw : Own B w (rA tv (tvS bm M.length capm) T M ++ L)) {i j : Nat} {x y : MK} (hx : M[i]? = some x) (hy : M[j]? = some y) :
    Cl Try.prog 53 [runV tv (tvS bm M.length capm), .int .i64 i, .int .i64 j] w fun v w' => v = .bool (confl M i j) ∧ Own B w' (rA tv (tvS bm M.length capm) T M ++ L) := by
  obtain ⟨R, hR⟩ : ∃ R : Value → World → Prop, R = fun v w' => v = .bool (confl M i j) ∧ Own B w' (rA tv (tvS bm M.length capm) T M ++ L) := ⟨_, rfl⟩
  rw [← hR]
  have hil := list_lt hx
  have hjl := list_lt hy
  have hcf : confl M i j = decide (x.kind = 3 ∧ y.kind = 3 ∧ x.task ≠ y.task ∧ locOf x = locOf y ∧ (x.write = true ∨ y.write = true)) := by unfold confl; rw [hx, hy]
  refine s53 ?_
  unfold c53
  refine hw.al fun b3 w1 hb3 hw1' => ?_
  have hw1 : Own B w1 (rA tv (tvS bm M.length capm) T M ++ (bk b3 52 [tv, tvS bm M.length capm] :: L)) := hw1'.perm (List.perm_middle (l₁ := rA tv (tvS bm M.length capm) T M)).symm
  clear hw1' hw
  refine hw1.dr fun w' hw' => ?_
  clear hw1
  have hixa : iS 8 (tvS bm M.length capm) (.int .i64 (i : Int)) = some (.pointer (some ⟨bm, i * 8, none⟩)) := by
    have := iS_0 (sz := 8) (b := bm) (n := M.length) (cap := capm) (k := .i64) (j := (i : Int)) (by omega) (by omega)
    rw [this, show ((i : Int)).toNat = i by omega]
  have hixb : iS 8 (tvS bm M.length capm) (.int .i64 (j : Int)) = some (.pointer (some ⟨bm, j * 8, none⟩)) := by
    have := iS_0 (sz := 8) (b := bm) (n := M.length) (cap := capm) (k := .i64) (j := (j : Int)) (by omega) (by omega)
    rw [this, show ((j : Int)).toNat = j by omega]
  have hJ : ∀ b7 b8 w', Own B w' (bk b7 67 (encMK x) :: bk b8 67 (encMK y) :: (rA tv (tvS bm M.length capm) T M ++ (bk b3 52 [tv, tvS bm M.length capm] :: L))) → j53_0 R (pp b7) (pp b8) w' := by
    intro b7 b8 w2 hw2
    unfold j53_0
    have hback : Own B w2 (rA tv (tvS bm M.length capm) T M ++ L) := hw2.tail.tail.drop 2
    have hno : ¬ (x.kind = 3 ∧ y.kind = 3 ∧ x.task ≠ y.task ∧ locOf x = locOf y ∧ (x.write = true ∨ y.write = true)) → R (.bool false) w2 := fun h => by
      rw [hR, hcf, decide_eq_false h]; exact ⟨rfl, hback⟩
    have hyes : (x.kind = 3 ∧ y.kind = 3 ∧ x.task ≠ y.task ∧ locOf x = locOf y ∧ (x.write = true ∨ y.write = true)) → R (.bool true) w2 := fun h => by
      rw [hR, hcf, decide_eq_true h]; exact ⟨rfl, hback⟩
    (repeat with_reducible first | refine qq ?_ | refine qr ?_ | refine qs ?_ | refine hw2.l 0 ?_ | refine hw2.l 1 ?_)
    refine Bc_dec (fun g1 => ?_) (fun g1 => hno (fun h => g1 h.1))
    (repeat with_reducible first | refine qq ?_ | refine qr ?_ | refine qs ?_ | refine hw2.l 0 ?_ | refine hw2.l 1 ?_)
    refine Bc_dec (fun g2 => ?_) (fun g2 => hno (fun h => g2 h.2.1))
    (repeat with_reducible first | refine qq ?_ | refine qr ?_ | refine qs ?_ | refine hw2.l 0 ?_ | refine hw2.l 1 ?_)
    refine Bc_dec (fun g3 => ?_) (fun g3 => hno (fun h => g3 h.2.2.1))
    (repeat with_reducible first | refine qq ?_ | refine qr ?_ | refine qs ?_)
    refine O.mk (v := encL (locOf x)) (hw2.rdN_bk 0 rfl (by show 3 + 1 + 3 ≤ 8; decide)) ?_
    (repeat with_reducible first | refine qq ?_ | refine qr ?_ | refine qs ?_)
    refine O.mk (v := encL (locOf y)) (hw2.rdN_bk 1 rfl (by show 3 + 1 + 3 ≤ 8; decide)) ?_
    have hbe : be 3 .eql (encL (locOf x)) (encL (locOf y)) = some (.bool (decide (locOf x = locOf y))) := by
      have h := encL_eq (locOf x) (locOf y)
      unfold be encL
      simp only
      rw [h]
      rfl
    refine O.mk hbe ?_
    refine Bc_dec (fun g4 => ?_) (fun g4 => hno (fun h => g4 h.2.2.2.1))
    (repeat with_reducible first | refine qq ?_ | refine qr ?_ | refine qs ?_ | refine hw2.l 0 ?_ | refine hw2.l 1 ?_)
    refine Bc_b (fun g5 => hyes ⟨g1, g2, g3, g4, .inl g5⟩) (fun g5 => ?_)
    (repeat with_reducible first | refine qq ?_ | refine qr ?_ | refine qs ?_ | refine hw2.l 0 ?_ | refine hw2.l 1 ?_)
    rcases hyw : y.write with _ | _
    · refine hno (fun h => ?_)
      rcases h.2.2.2.2 with h' | h'
      · rw [h'] at g5; cases g5
      · rw [hyw] at h'; cases h'
    · exact hyes ⟨g1, g2, g3, g4, .inr hyw⟩
  (repeat with_reducible first | refine qq ?_ | refine qr ?_ | refine qs ?_ | refine hw'.l 2 ?_)
  refine O.mk hixa ?_
  refine O.mk (hw'.elN (P := Try.prog) 1 rfl rfl encMK_len hx) ?_
  (repeat with_reducible first | refine qq ?_ | refine qr ?_ | refine qs ?_)
  repeat' (first
    | exact hJ _ _ _ hw'
    | exact hJ _ _ _ (hw'.perm (List.Perm.swap _ _ _))
    | refine O.mk (hw'.rd1_bk 2 rfl rfl) ?_
    | refine O.mk (hw'.rd1_bk 3 rfl rfl) ?_
    | refine O.mk (hw'.rd1_bk 4 rfl rfl) ?_
    | refine O.mk hixb ?_
    | refine O.mk (hw'.elN (P := Try.prog) 1 rfl rfl encMK_len hy) ?_
    | refine O.mk (hw'.elN (P := Try.prog) 2 rfl rfl encMK_len hy) ?_
    | refine O.mk (hw'.elN (P := Try.prog) 3 rfl rfl encMK_len hy) ?_
    | (refine hw'.al fun b w' hb hw' => ?_)
    | (refine hw'.stMK 0 rfl fun w' hw' => ?_)
    | (refine hw'.stMK 1 rfl fun w' hw' => ?_)
    | refine And.intro ?_ ?_)
end
end Go.Proofs.Ytedcfkigfcobaaa
end
/- Contracts: the document's order: the rules 1 to 6, closed. -/
section
namespace Go.Proofs.Ytedcfkigfcobaaa
open Go Go.Proofs
attribute [local irreducible] Bc O AL BS MS MM ST AP CV Cl
section
variable {B : Base} {w : World} {L : List Atom} {tv mv hv bv ev : Value} {T : List TK} {M : List MK} {ob : Nat} {bl el : List Int}
set_option maxHeartbeats 4000000 in
set_option maxRecDepth 4000 in
theorem k50 {rows0 : List BR} (hw : Own B w (rA tv mv T M ++ (oA tv mv hv bv ev ob rows0 bl el ++ L))) (hr : RunOK T M) (hb : BE T M M.length 1 bl) (he : BE T M M.length 2 el) (hn : M.length ≤ 1200) (hT : T.length ≤ 256) (hs0 : Sq M.length rows0) (hz : ∀ a b, HasB rows0 a b = false) :
    Cl Try.prog 50 [pp ob] w fun v w' => v = .tuple #[] ∧ ∃ rows : List BR, Sq M.length rows ∧ (∀ a b, HasB rows a b = true → HB T M bl el a b) ∧ Laid T M bl el M.length T.length (HasB rows) ∧ Own B w' (rA tv mv T M ++ (oA tv mv hv bv ev ob rows bl el ++ L)) := by
  obtain ⟨R, hR⟩ : ∃ R : Value → World → Prop, R = fun v w' => v = .tuple #[] ∧ ∃ rows : List BR, Sq M.length rows ∧ (∀ a b, HasB rows a b = true → HB T M bl el a b) ∧ Laid T M bl el M.length T.length (HasB rows) ∧ Own B w' (rA tv mv T M ++ (oA tv mv hv bv ev ob rows bl el ++ L)) := ⟨_, rfl⟩
  rw [← hR]
  have hbl := hb.1
  have hel := he.1
  have hC := HB.closed (T := T) (M := M) (bl := bl) (el := el)
  refine s50 ?_
  unfold c50
  obtain ⟨I0, hI⟩ : ∃ I : Value → World → Prop, I = fun v w' => ∃ (i : Nat) (rows : List BR), v = .int .i64 i ∧ i ≤ M.length ∧ Sq M.length rows ∧ (∀ a b, HasB rows a b = true → HB T M bl el a b) ∧
      (∀ (a b : Nat) (m n : MK), a < i → a < b → M[a]? = some m → M[b]? = some n → m.task = n.task → (∀ (j : Nat) (x : MK), a < j → j < b → M[j]? = some x → x.task ≠ m.task) → HasB rows a b = true) ∧
      (∀ (b : Nat) (m : MK) (e : Int), b < i → M[b]? = some m → m.kind = 6 → el[m.other.toNat]? = some e → 0 ≤ e → HasB rows e.toNat b = true) ∧ Own B w' (rA tv mv T M ++ (oA tv mv hv bv ev ob rows bl el ++ L)) := ⟨_, rfl⟩
  obtain ⟨m0, hm⟩ : ∃ m : Value → World → Nat, m = fun v _ => match v with | .int _ i => (M.length - i).toNat | _ => 0 := ⟨_, rfl⟩
  refine ⟨I0, m0, by rw [hI]; exact ⟨0, rows0, rfl, by omega, hs0, (fun a b h => by rw [hz] at h; cases h), fun _ _ _ _ h => by omega, fun _ _ _ h => by omega, hw⟩, ?_⟩
  clear hw
  intro t2 wh0 h0
  rw [hI] at h0
  obtain ⟨i, rows, rfl, hi, hs, hsn, hnx, hjn, hw1⟩ := h0
  (repeat with_reducible first | refine qq ?_ | refine qr ?_ | refine qs ?_ | refine hw1.l 2 ?_)
  refine O.mk (hw1.slLen 1 rfl) ?_
  (repeat with_reducible first | refine qq ?_ | refine qr ?_ | refine qs ?_)
  refine Bc_dec (fun hlt => ?_) (fun hge => ?_)
  · obtain ⟨m, hmm⟩ := list_get (l := M) (j := i) (by omega)
    have hok := hr.mks i m hmm
    obtain ⟨bm, hixm, hrdm, hrdN⟩ := hw1.el 1 rfl encMK_len hmm
    (repeat with_reducible first | refine qq ?_ | refine qr ?_ | refine qs ?_ | refine hw1.l 2 ?_)
    refine O.mk (hixm _ _ (by omega) (by omega)) ?_
    rw [show ((i : Int)).toNat = i by omega]
    refine O.mk hrdN ?_
    refine hw1.al fun b3 w2 hb3 hw2' => ?_
    clear hrdm hrdN hixm hw1
    have hw2 : Own B w2 (rA tv mv T M ++ (oA tv mv hv bv ev ob rows bl el ++ (bk b3 67 zMK :: L))) := hw2'.perm (List.perm_middle (l₁ := rA tv mv T M ++ oA tv mv hv bv ev ob rows bl el)).symm
    clear hw2'
    refine hw2.stMK 7 rfl fun w3 hw3' => ?_
    clear hw2
    have hw3 : Own B w3 (rA tv mv T M ++ (oA tv mv hv bv ev ob rows bl el ++ (bk b3 67 (encMK m) :: L))) := hw3'
    clear hw3'
    have JN : ∀ (rows' : List BR) w', Sq M.length rows' → (∀ a b, HasB rows' a b = true → HB T M bl el a b) → (∀ a b, HasB rows a b = true → HasB rows' a b = true) →
        (∀ (b : Nat) (n : MK), i < b → M[b]? = some n → m.task = n.task → (∀ (j : Nat) (x : MK), i < j → j < b → M[j]? = some x → x.task ≠ m.task) → HasB rows' i b = true) →
        (∀ e : Int, m.kind = 6 → el[m.other.toNat]? = some e → 0 ≤ e → HasB rows' e.toNat i = true) → Own B w' (rA tv mv T M ++ (oA tv mv hv bv ev ob rows' bl el ++ (bk b3 67 (encMK m) :: L))) → j50_0 R (.int .i64 i) I0 m0 wh0 w' := by
      intro rows' w' h1 h2 h3 h4 h5 hw'
      unfold j50_0
      refine O.mk (bi_addb (a := i) (b := 1) (by omega)) ?_
      rw [hI, hm]
      refine ⟨⟨i + 1, rows', rfl, by omega, h1, h2, fun a b m' n g1 g2 g3 g4 g5 g6 => ?_, fun b m' e g1 g2 g3 g4 g5 => ?_, (hw'.drop 7)⟩, by simp only; omega⟩
      · by_cases hai : a = i
        · subst hai; rw [hmm] at g3; cases g3
          exact h4 b n g2 g4 g5 g6
        · exact h3 _ _ (hnx a b m' n (by omega) g2 g3 g4 g5 g6)
      · by_cases hbi : b = i
        · subst hbi; rw [hmm] at g2; cases g2
          exact h5 e g3 g4 g5
        · exact h3 _ _ (hjn b m' e (by omega) g2 g3 g4 g5)
    have J1 : ∀ (rows' : List BR) w', Sq M.length rows' → (∀ a b, HasB rows' a b = true → HB T M bl el a b) → (∀ a b, HasB rows a b = true → HasB rows' a b = true) →
        (∀ (b : Nat) (n : MK), i < b → M[b]? = some n → m.task = n.task → (∀ (j : Nat) (x : MK), i < j → j < b → M[j]? = some x → x.task ≠ m.task) → HasB rows' i b = true) → Own B w' (rA tv mv T M ++ (oA tv mv hv bv ev ob rows' bl el ++ (bk b3 67 (encMK m) :: L))) → j50_1 R (pp b3) (pp ob) (.int .i64 i) I0 m0 wh0 w' := by
      intro rows' w' h1 h2 h3 h4 hw'
      unfold j50_1
      (repeat with_reducible first | refine qq ?_ | refine qr ?_ | refine qs ?_ | refine hw'.l 7 ?_)
      refine Bc_dec (fun k6 => ?_) (fun k6 => JN rows' w' h1 h2 h3 h4 (fun e h => absurd h k6) hw')
      refine hw'.dr fun w4 hw4 => ?_
      clear hw'
      obtain ⟨o1, t, ht, _⟩ := hok.join k6
      have hol := list_lt ht
      obtain ⟨ve, hve⟩ := list_get (l := el) (j := m.other.toNat) (by omega)
      obtain ⟨b1, hix1, hrd1⟩ := hw4.eli 6 rfl hve
      have hve2 := pos_lt he hve
      (repeat with_reducible first | refine qq ?_ | refine qr ?_ | refine qs ?_ | refine hw4.l 2 ?_ | refine hw4.l 7 ?_)
      refine O.mk (hix1 _ _ (by omega) rfl) ?_
      refine O.mk hrd1 ?_
      refine (k75 hw4 h1 (a := ve) (b := i) (by omega) (by omega)).use ?_
      rintro _ w5 ⟨rfl, rows2, d0, ⟨d1, d2, d3⟩, hw5⟩
      refine JN rows2 w5 d0 (fun a b h => ?_) (fun a b h => d1 a b (h3 a b h)) (fun b n g1 g2 g3 g4 => d1 _ _ (h4 b n g1 g2 g3 g4)) (fun e g1 g2 g3 => ?_) hw5
      · rcases d3 a b h with g | ⟨g1, _, e1, e2⟩
        · exact h2 a b g
        · rw [e1, e2]; exact hC.join i m ve hmm k6 hve g1
      · rw [hve] at g2; cases g2
        have := d2 g3 (by omega)
        exact this
    (repeat with_reducible first | refine qq ?_ | refine qr ?_ | refine qs ?_)
    obtain ⟨I1, hI1⟩ : ∃ I : Value → World → Prop, I = fun v w' => ∃ (k : Nat), v = .int .i64 k ∧ i < k ∧ k ≤ M.length ∧ (∀ (j : Nat) (x : MK), i < j → j < k → M[j]? = some x → x.task ≠ m.task) ∧ Own B w' (rA tv mv T M ++ (oA tv mv hv bv ev ob rows bl el ++ (bk b3 67 (encMK m) :: L))) := ⟨_, rfl⟩
    obtain ⟨m1, hm1⟩ : ∃ m : Value → World → Nat, m = fun v _ => match v with | .int _ i => (M.length - i).toNat | _ => 0 := ⟨_, rfl⟩
    refine ⟨I1, m1, by rw [hI1]; exact ⟨i + 1, by simp, by omega, by omega, fun j x h1 h2 => by omega, hw3⟩, ?_⟩
    clear hw3
    intro t4 wh1 h1
    rw [hI1] at h1
    obtain ⟨k, rfl, hk1, hk2, hnot, hw4⟩ := h1
    (repeat with_reducible first | refine qq ?_ | refine qr ?_ | refine qs ?_ | refine hw4.l 2 ?_)
    refine O.mk (hw4.slLen 1 rfl) ?_
    (repeat with_reducible first | refine qq ?_ | refine qr ?_ | refine qs ?_)
    refine Bc_dec (fun hlk => ?_) (fun hgk => ?_)
    · refine hw4.dr fun w5 hw5 => ?_
      clear hw4
      obtain ⟨n, hnn⟩ := list_get (l := M) (j := k) (by omega)
      obtain ⟨bm, hixm, hrdm, _⟩ := hw5.el 1 rfl encMK_len hnn
      (repeat with_reducible first | refine qq ?_ | refine qr ?_ | refine qs ?_ | refine hw5.l 2 ?_)
      refine O.mk (hixm _ _ (by omega) (by omega)) ?_
      rw [show ((k : Int)).toNat = k by omega]
      (repeat with_reducible first | refine qq ?_ | refine qr ?_ | refine qs ?_)
      refine O.mk (hrdm 1 _ rfl) ?_
      (repeat with_reducible first | refine qq ?_ | refine qr ?_ | refine qs ?_ | refine hw5.l 2 ?_ | refine hw5.l 7 ?_)
      refine Bc_dec (fun htk => ?_) (fun htk => ?_)
      · refine (k75 hw5 hs (a := i) (b := k) (by omega) (by omega)).use ?_
        rintro _ w6 ⟨rfl, rows2, d0, ⟨d1, d2, d3⟩, hw6⟩
        have hik := d2 (by omega) (by omega)
        rw [show ((i : Int)).toNat = i by omega, show ((k : Int)).toNat = k by omega] at hik
        refine J1 rows2 w6 d0 (fun a b h => ?_) d1 (fun b n' g1 g2 g3 g4 => ?_) hw6
        · rcases d3 a b h with g | ⟨_, _, e1, e2⟩
          · exact hsn a b g
          · rw [e1, e2, show ((i : Int)).toNat = i by omega, show ((k : Int)).toNat = k by omega]
            exact hC.task i k m n hk1 hmm hnn htk.symm
        · have hbk : b = k := by
            rcases Nat.lt_trichotomy b k with hh | hh | hh
            · exact absurd g3.symm (hnot b n' g1 hh g2)
            · exact hh
            · exact absurd htk (g4 k n hk1 hh hnn)
          rw [hbk]; exact hik
      · refine O.mk (bi_addb (a := k) (b := 1) (by omega)) ?_
        rw [hI1, hm1]
        refine ⟨⟨k + 1, rfl, by omega, by omega, fun j x g1 g2 g3 => ?_, hw5⟩, by simp only; omega⟩
        by_cases hjk : j = k
        · subst hjk; rw [hnn] at g3; cases g3; exact htk
        · exact hnot j x g1 (by omega) g3
    · refine J1 rows wh1 hs hsn (fun _ _ h => h) (fun b n g1 g2 g3 g4 => ?_) hw4
      exact absurd g3.symm (hnot b n g1 (by have := list_lt g2; omega) g2)
  · have hie : i = M.length := by omega
    subst hie
    obtain ⟨I2, hI2⟩ : ∃ I : Value → World → Prop, I = fun v w' => ∃ (q : Nat) (rows : List BR), v = .int .i64 ((q : Int) + 1) ∧ q ≤ T.length ∧ Sq M.length rows ∧ (∀ a b, HasB rows a b = true → HB T M bl el a b) ∧ Laid T M bl el M.length q (HasB rows) ∧ Own B w' (rA tv mv T M ++ (oA tv mv hv bv ev ob rows bl el ++ L)) := ⟨_, rfl⟩
    obtain ⟨m2, hm2⟩ : ∃ m : Value → World → Nat, m = fun v _ => match v with | .int _ i => (T.length + 1 - i).toNat | _ => 0 := ⟨_, rfl⟩
    refine ⟨I2, m2, by rw [hI2]; exact ⟨0, rows, rfl, by omega, hs, hsn, ⟨fun a b m n g1 g2 g3 g4 g5 g6 => hnx a b m n (list_lt g3) g2 g3 g4 g5 g6, hjn, fun q t b h => by omega, fun q t e b h => by omega⟩, hw1⟩, ?_⟩
    clear hw1 hnx hjn hsn hs rows
    intro t5 wh2 h2
    rw [hI2] at h2
    obtain ⟨q, rows, rfl, hq, hs, hsn, hlaid, hw2⟩ := h2
    (repeat with_reducible first | refine qq ?_ | refine qr ?_ | refine qs ?_ | refine hw2.l 2 ?_)
    refine O.mk (hw2.slLen 0 rfl) ?_
    (repeat with_reducible first | refine qq ?_ | refine qr ?_ | refine qs ?_)
    refine Bc_dec (fun hlt => ?_) (fun hge2 => ?_)
    · obtain ⟨t, ht⟩ := list_get (l := T) (j := q) (by omega)
      have htr := hr.tk q t ht
      obtain ⟨bm, hixm, hrdm, hrdN⟩ := hw2.el 0 rfl encTK_len ht
      (repeat with_reducible first | refine qq ?_ | refine qr ?_ | refine qs ?_ | refine hw2.l 2 ?_)
      refine O.mk (hixm _ _ (by omega) (by omega)) ?_
      rw [show ((q : Int) + 1 - 1).toNat = q by omega]
      refine O.mk hrdN ?_
      refine hw2.al fun b6 w3 hb6 hw3' => ?_
      clear hrdm hrdN hixm hw2
      have hw3 : Own B w3 (rA tv mv T M ++ (oA tv mv hv bv ev ob rows bl el ++ (bk b6 73 zTK :: L))) := hw3'.perm (List.perm_middle (l₁ := rA tv mv T M ++ oA tv mv hv bv ev ob rows bl el)).symm
      clear hw3'
      refine hw3.stTK 7 rfl fun w4 hw4' => ?_
      clear hw3
      have hw4 : Own B w4 (rA tv mv T M ++ (oA tv mv hv bv ev ob rows bl el ++ (bk b6 73 (encTK t) :: L))) := hw4'
      clear hw4'
      refine hw4.dr fun w9 hw9 => ?_
      clear hw4
      obtain ⟨vb, hvb⟩ := list_get (l := bl) (j := q + 1) (by omega)
      have hvb2 := pos_lt hb hvb
      have hmk := mark_lt hr ht
      obtain ⟨b1, hix1, hrd1⟩ := hw9.eli 5 rfl hvb
      (repeat with_reducible first | refine qq ?_ | refine qr ?_ | refine qs ?_ | refine hw9.l 2 ?_ | refine hw9.l 7 ?_)
      refine O.mk (hix1 _ _ (by omega) (by omega)) ?_
      rw [show ((q : Int) + 1).toNat = q + 1 by omega]
      refine O.mk hrd1 ?_
      clear hrd1
      refine (k75 hw9 hs (a := t.mark) (b := vb) (by omega) (by omega)).use ?_
      clear hw9
      rintro _ w10 ⟨rfl, rows2, d0, ⟨d1, d2, d3⟩, hw10⟩
      have hsn2 : ∀ a b, HasB rows2 a b = true → HB T M bl el a b := fun a b h => by
        rcases d3 a b h with h5 | ⟨h5, h6, rfl, rfl⟩
        · exact hsn a b h5
        · exact hC.mark q t vb ht h5 hvb h6
      have JN : ∀ (rows' : List BR) w', Sq M.length rows' → (∀ a b, HasB rows' a b = true → HB T M bl el a b) → (∀ a b, HasB rows2 a b = true → HasB rows' a b = true) → (∀ e : Int, 0 < t.prev → el[t.prev.toNat]? = some e → 0 ≤ e → 0 ≤ vb → HasB rows' e.toNat vb.toNat = true) → Own B w' (rA tv mv T M ++ (oA tv mv hv bv ev ob rows' bl el ++ (bk b6 73 (encTK t) :: L))) → j50_2 R (.int .i64 ((q : Int) + 1)) I2 m2 wh2 w' := by
        intro rows' w' h1 h2 h3 h4 hw'
        unfold j50_2
        (repeat with_reducible first | refine qq ?_ | refine qr ?_ | refine qs ?_)
        rw [hI2, hm2]
        have hl1 := hlaid.mono (h' := HasB rows') fun a b h => h3 a b (d1 a b h)
        refine ⟨⟨q + 1, rows', by simp, by omega, h1, h2, ⟨hl1.next, hl1.join, fun q' t' b h5 h6 h7 h8 h9 => ?_, fun q' t' e b h5 h6 h7 h8 h9 h10 h11 => ?_⟩, hw'.drop 7⟩, by simp only; omega⟩
        · by_cases hqq : q' = q
          · subst hqq; rw [ht] at h6; cases h6; rw [hvb] at h8; cases h8
            exact h3 _ _ (d2 h7 h9)
          · exact hl1.mark q' t' b (by omega) h6 h7 h8 h9
        · by_cases hqq : q' = q
          · subst hqq; rw [ht] at h6; cases h6; rw [hvb] at h10; cases h10
            exact h4 e h7 h8 h9 h11
          · exact hl1.prev q' t' e b (by omega) h6 h7 h8 h9 h10 h11
      (repeat with_reducible first | refine qq ?_ | refine qr ?_ | refine qs ?_ | refine hw10.l 2 ?_ | refine hw10.l 7 ?_)
      refine Bc_dec (fun hp => ?_) (fun hp => ?_)
      · refine hw10.dr fun w11 hw11 => ?_
        clear hw10
        have hpl : t.prev.toNat < el.length := by
          rcases htr.prev with h | ⟨k, o, h2, h3, h4, _⟩
          · omega
          · have := list_lt h4; omega
        obtain ⟨ve, hve⟩ := list_get hpl
        have hve2 := pos_lt he hve
        obtain ⟨b2, hix2, hrd2⟩ := hw11.eli 6 rfl hve
        obtain ⟨b1, hix1, hrd1⟩ := hw11.eli 5 rfl hvb
        (repeat with_reducible first | refine qq ?_ | refine qr ?_ | refine qs ?_ | refine hw11.l 2 ?_ | refine hw11.l 7 ?_)
        refine O.mk (hix2 _ _ (by omega) rfl) ?_
        refine O.mk hrd2 ?_
        (repeat with_reducible first | refine qq ?_ | refine qr ?_ | refine qs ?_ | refine hw11.l 2 ?_ | refine hw11.l 7 ?_)
        refine O.mk (hix1 _ _ (by omega) (by omega)) ?_
        rw [show ((q : Int) + 1).toNat = q + 1 by omega]
        refine O.mk hrd1 ?_
        refine (k75 hw11 d0 (a := ve) (b := vb) (by omega) (by omega)).use ?_
        rintro _ w12 ⟨rfl, rows3, f0, ⟨f1, f2, f3⟩, hw12⟩
        refine JN rows3 w12 f0 (fun a b h => ?_) f1 (fun e h1 h2 h3 h4 => ?_) hw12
        · rcases f3 a b h with h5 | ⟨h5, h6, rfl, rfl⟩
          · exact hsn2 a b h5
          · exact hC.prev q t ve vb ht hp hve h5 hvb h6
        · rw [hve] at h2; cases h2
          exact f2 h3 h4
      · exact JN rows2 w10 d0 hsn2 (fun _ _ h => h) (fun e h1 => absurd h1 hp) hw10
    · have hqe : q = T.length := by omega
      rw [hR]
      exact ⟨rfl, rows, hs, hsn, by rw [hqe] at hlaid; exact hlaid, hw2⟩
end
end Go.Proofs.Ytedcfkigfcobaaa
end
/- Contracts: the document's order: closed; the rules 7 and 8. -/
section
namespace Go.Proofs.Ytedcfkigfcobaaa
open Go Go.Proofs
attribute [local irreducible] Bc O AL BS MS MM ST AP CV Cl
section
variable {B : Base} {w : World} {L : List Atom} {tv mv hv bv ev : Value} {T : List TK} {M : List MK} {ob : Nat} {bl el : List Int}
theorem HasB_lt {n : Nat} {rows : List BR} (hs : Sq n rows) {a b : Nat} (h : HasB rows a b = true) : a < n ∧ b < n := by
  unfold HasB at h
  rcases hr : rows[a]? with _ | r
  · rw [hr] at h; cases h
  · rw [hr] at h
    simp only [Option.bind_some] at h
    rcases hx : r.l[b]? with _ | x
    · rw [hx] at h; cases h
    · have h1 := list_lt hr
      have h2 := list_lt hx
      have h3 := hs.row a r hr
      have h4 := hs.len
      omega
set_option maxHeartbeats 4000000 in
set_option maxRecDepth 4000 in
theorem k51 {rows0 : List BR} {n : Nat} (hw : Own B w (rA tv mv T M ++ (oA tv mv hv bv ev ob rows0 bl el ++ L))) {H : Nat → Nat → Prop} (hn : n ≤ 1200) (hs0 : Sq n rows0) (htr : ∀ a b c, H a b → H b c → H a c) (hlt : ∀ a b, H a b → a < b ∧ b < n) (hsn0 : ∀ a b, HasB rows0 a b = true → H a b) :
    Cl Try.prog 51 [pp ob] w fun v w' => v = .tuple #[] ∧ ∃ rows : List BR, Sq n rows ∧ (∀ a b, HasB rows0 a b = true → HasB rows a b = true) ∧ (∀ a b, HasB rows a b = true → H a b) ∧ (∀ a b c, HasB rows a b = true → HasB rows b c = true → HasB rows a c = true) ∧ Own B w' (rA tv mv T M ++ (oA tv mv hv bv ev ob rows bl el ++ L)) := by
  obtain ⟨R, hR⟩ : ∃ R : Value → World → Prop, R = fun v w' => v = .tuple #[] ∧ ∃ rows : List BR, Sq n rows ∧ (∀ a b, HasB rows0 a b = true → HasB rows a b = true) ∧ (∀ a b, HasB rows a b = true → H a b) ∧ (∀ a b c, HasB rows a b = true → HasB rows b c = true → HasB rows a c = true) ∧ Own B w' (rA tv mv T M ++ (oA tv mv hv bv ev ob rows bl el ++ L)) := ⟨_, rfl⟩
  rw [← hR]
  refine s51 ?_
  unfold c51
  (repeat with_reducible first | refine qq ?_ | refine qr ?_ | refine qs ?_ | refine hw.l 2 ?_)
  refine O.mk (hw.slLen 3 rfl) ?_
  rw [hs0.len]
  obtain ⟨I0, hI⟩ : ∃ I : Value → World → Prop, I = fun v w' => ∃ (k : Nat) (rows : List BR), v = .int .i64 k ∧ k ≤ n ∧ Sq n rows ∧ (∀ a b, HasB rows0 a b = true → HasB rows a b = true) ∧ (∀ a b, HasB rows a b = true → H a b) ∧ (∀ x a b, x < k → HasB rows a x = true → HasB rows x b = true → HasB rows a b = true) ∧ Own B w' (rA tv mv T M ++ (oA tv mv hv bv ev ob rows bl el ++ L)) := ⟨_, rfl⟩
  obtain ⟨m0, hm⟩ : ∃ m : Value → World → Nat, m = fun v _ => match v with | .int _ i => (n - i).toNat | _ => 0 := ⟨_, rfl⟩
  refine ⟨I0, m0, by rw [hI]; exact ⟨0, rows0, rfl, by omega, hs0, fun _ _ h => h, hsn0, fun x a b h => by omega, hw⟩, ?_⟩
  clear hw
  intro t3 wh0 h0
  rw [hI] at h0
  obtain ⟨k, rows, rfl, hk, hs, hsub, hsn, hdone, hw1⟩ := h0
  (repeat with_reducible first | refine qq ?_ | refine qr ?_ | refine qs ?_)
  refine Bc_dec (fun hlk => ?_) (fun hgk => ?_)
  · obtain ⟨I1, hI1⟩ : ∃ I : Value → World → Prop, I = fun v w' => ∃ (a : Nat) (rows : List BR), v = .int .i64 a ∧ a ≤ n ∧ Sq n rows ∧ (∀ a b, HasB rows0 a b = true → HasB rows a b = true) ∧ (∀ a b, HasB rows a b = true → H a b) ∧ (∀ x a b, x < k → HasB rows a x = true → HasB rows x b = true → HasB rows a b = true) ∧ (∀ a' b, a' < a → HasB rows a' k = true → HasB rows k b = true → HasB rows a' b = true) ∧ Own B w' (rA tv mv T M ++ (oA tv mv hv bv ev ob rows bl el ++ L)) := ⟨_, rfl⟩
    obtain ⟨m1, hm1⟩ : ∃ m : Value → World → Nat, m = fun v _ => match v with | .int _ i => (n - i).toNat | _ => 0 := ⟨_, rfl⟩
    refine ⟨I1, m1, by rw [hI1]; exact ⟨0, rows, rfl, by omega, hs, hsub, hsn, hdone, fun a' b h => by omega, hw1⟩, ?_⟩
    clear hw1 hdone hsn hsub hs rows
    intro t4 wh1 h1
    rw [hI1] at h1
    obtain ⟨a, rows, rfl, ha, hs, hsub, hsn, hdone, hprev, hw1⟩ := h1
    (repeat with_reducible first | refine qq ?_ | refine qr ?_ | refine qs ?_)
    refine Bc_dec (fun hla => ?_) (fun hga => ?_)
    · obtain ⟨r, x, hrr, hx, hax⟩ := hs.get (a := a) (b := k) (by omega) (by omega)
      have JN : ∀ (rows' : List BR) w', Sq n rows' → (∀ a b, HasB rows0 a b = true → HasB rows' a b = true) → (∀ a b, HasB rows' a b = true → H a b) → (∀ x a b, x < k → HasB rows' a x = true → HasB rows' x b = true → HasB rows' a b = true) → (∀ a' b, a' < a + 1 → HasB rows' a' k = true → HasB rows' k b = true → HasB rows' a' b = true) → Own B w' (rA tv mv T M ++ (oA tv mv hv bv ev ob rows' bl el ++ L)) → j51_0 R (.int .i64 a) I1 m1 wh1 w' := by
        intro rows' w' g1 g2 g3 g4 g5 g6
        unfold j51_0
        refine O.mk (bi_addb (a := a) (b := 1) (by omega)) ?_
        rw [hI1, hm1]
        exact ⟨⟨a + 1, rows', rfl, by omega, g1, g2, g3, g4, g5, g6⟩, by simp only; omega⟩
      obtain ⟨b1, hix, hrd⟩ := hw1.bbrow 3 rfl hrr
      obtain ⟨c1', hix2, hrd2⟩ := hw1.bbel 4 rfl hrr hx
      (repeat with_reducible first | refine qq ?_ | refine qr ?_ | refine qs ?_ | refine hw1.l 2 ?_)
      refine O.mk (hix _ _ (by omega) (by omega)) ?_
      rw [show ((a : Int)).toNat = a by omega]
      refine O.mk hrd ?_
      refine O.mk (hix2 _ _ (by omega) (by omega)) ?_
      rw [show ((k : Int)).toNat = k by omega]
      refine O.mk hrd2 ?_
      (repeat with_reducible first | refine qq ?_ | refine qr ?_ | refine qs ?_)
      clear hrd2 hrd hix hix2
      refine Bc_b (fun hxf => ?_) (fun hxt => ?_)
      · refine JN rows wh1 hs hsub hsn hdone (fun a' b g1 g2 g3 => ?_) hw1
        by_cases haa : a' = a
        · subst haa; rw [hax] at g2; rw [g2] at hxf; cases hxf
        · exact hprev a' b (by omega) g2 g3
      · have hxt' : x = true := by simpa using hxt
        have hak : HasB rows a k = true := by rw [hax, hxt']
        have hak' := hlt a k (hsn a k hak)
        obtain ⟨I2, hI2⟩ : ∃ I : Value → World → Prop, I = fun v w' => ∃ (b : Nat) (rows : List BR), v = .int .i64 b ∧ b ≤ n ∧ Sq n rows ∧ (∀ a b, HasB rows0 a b = true → HasB rows a b = true) ∧ (∀ a b, HasB rows a b = true → H a b) ∧ (∀ x a b, x < k → HasB rows a x = true → HasB rows x b = true → HasB rows a b = true) ∧ (∀ a' b, a' < a → HasB rows a' k = true → HasB rows k b = true → HasB rows a' b = true) ∧ HasB rows a k = true ∧ (∀ b', b' < b → HasB rows k b' = true → HasB rows a b' = true) ∧ Own B w' (rA tv mv T M ++ (oA tv mv hv bv ev ob rows bl el ++ L)) := ⟨_, rfl⟩
        obtain ⟨m2, hm2⟩ : ∃ m : Value → World → Nat, m = fun v _ => match v with | .int _ i => (n - i).toNat | _ => 0 := ⟨_, rfl⟩
        refine ⟨I2, m2, by rw [hI2]; exact ⟨0, rows, rfl, by omega, hs, hsub, hsn, hdone, hprev, hak, fun b' h => by omega, hw1⟩, ?_⟩
        clear hw1 hak hax hrr hx hprev hdone hsn hsub hs rows
        intro t5 wh2 h2
        rw [hI2] at h2
        obtain ⟨b, rows, rfl, hb, hs, hsub, hsn, hdone, hprev, hak, hpart, hw2⟩ := h2
        (repeat with_reducible first | refine qq ?_ | refine qr ?_ | refine qs ?_)
        refine Bc_dec (fun hlb => ?_) (fun hgb => ?_)
        · obtain ⟨rk, y, hrk, hy, hky⟩ := hs.get (a := k) (b := b) (by omega) (by omega)
          have J1 : ∀ (rows' : List BR) w', Sq n rows' → (∀ a b, HasB rows0 a b = true → HasB rows' a b = true) → (∀ a b, HasB rows' a b = true → H a b) → (∀ x a b, x < k → HasB rows' a x = true → HasB rows' x b = true → HasB rows' a b = true) → (∀ a' b, a' < a → HasB rows' a' k = true → HasB rows' k b = true → HasB rows' a' b = true) → HasB rows' a k = true → (∀ b', b' < b + 1 → HasB rows' k b' = true → HasB rows' a b' = true) → Own B w' (rA tv mv T M ++ (oA tv mv hv bv ev ob rows' bl el ++ L)) → j51_1 R (.int .i64 b) I2 m2 wh2 w' := by
            intro rows' w' g1 g2 g3 g4 g5 g6 g7 g8
            unfold j51_1
            refine O.mk (bi_addb (a := b) (b := 1) (by omega)) ?_
            rw [hI2, hm2]
            exact ⟨⟨b + 1, rows', rfl, by omega, g1, g2, g3, g4, g5, g6, g7, g8⟩, by simp only; omega⟩
          obtain ⟨b1, hix, hrd⟩ := hw2.bbrow 3 rfl hrk
          obtain ⟨c1', hix2, hrd2⟩ := hw2.bbel 4 rfl hrk hy
          (repeat with_reducible first | refine qq ?_ | refine qr ?_ | refine qs ?_ | refine hw2.l 2 ?_)
          refine O.mk (hix _ _ (by omega) (by omega)) ?_
          rw [show ((k : Int)).toNat = k by omega]
          refine O.mk hrd ?_
          refine O.mk (hix2 _ _ (by omega) (by omega)) ?_
          rw [show ((b : Int)).toNat = b by omega]
          refine O.mk hrd2 ?_
          clear hrd2 hrd hix hix2
          refine Bc_b (fun hyt => ?_) (fun hyf => ?_)
          · have hkb : HasB rows k b = true := by rw [hky, hyt]
            have hkb' := hlt k b (hsn k b hkb)
            obtain ⟨ra, z, hra, hz, _⟩ := hs.get (a := a) (b := b) (by omega) (by omega)
            obtain ⟨b2, hixa, hrda⟩ := hw2.bbrow 3 rfl hra
            obtain ⟨c2', hixz, _⟩ := hw2.bbel 4 rfl hra hz
            (repeat with_reducible first | refine qq ?_ | refine qr ?_ | refine qs ?_ | refine hw2.l 2 ?_)
            refine O.mk (hixa _ _ (by omega) (by omega)) ?_
            rw [show ((a : Int)).toNat = a by omega]
            refine O.mk hrda ?_
            refine O.mk (hixz _ _ (by omega) (by omega)) ?_
            refine hw2.bbst 4 rfl hra (list_lt hz) true (hixz .i64 (b : Int) (by omega) (by omega)) (by omega) tsz4' fun w3 hw3 => ?_
            have hset : ∀ x y, HasB (rows.set a ⟨ra.v, ra.l.set b true⟩) x y = (HasB rows x y || decide (x = a ∧ y = b)) := fun x y => HasB_set hra (list_lt hz) x y
            have hold : ∀ x y, HasB (rows.set a ⟨ra.v, ra.l.set b true⟩) x y = true → HasB rows x y = true ∨ (x = a ∧ y = b) := fun x y h => by
              rw [hset, Bool.or_eq_true] at h
              rcases h with h | h
              · exact .inl h
              · exact .inr (of_decide_eq_true h)
            have hmono : ∀ x y, HasB rows x y = true → HasB (rows.set a ⟨ra.v, ra.l.set b true⟩) x y = true := fun x y h => by rw [hset, h]; rfl
            have hnew : HasB (rows.set a ⟨ra.v, ra.l.set b true⟩) a b = true := by rw [hset]; simp
            refine J1 _ w3 (hs.set hra true) (fun x y h => hmono x y (hsub x y h)) (fun x y h => ?_) (fun x a' b' g1 g2 g3 => ?_) (fun a' b' g1 g2 g3 => ?_) (hmono a k hak) (fun b' g1 g2 => ?_) ?_
            · rcases hold x y h with h | ⟨rfl, rfl⟩
              · exact hsn x y h
              · exact htr x k y (hsn x k hak) (hsn k y hkb)
            · rcases hold a' x g2 with g2' | ⟨_, h2⟩
              · rcases hold x b' g3 with g3' | ⟨h1, h2⟩
                · exact hmono a' b' (hdone x a' b' g1 g2' g3')
                · rw [h1] at g1 g2'
                  rw [h2]
                  have h3 := hdone a a' k g1 g2' hak
                  have h4 := (hlt a' a (hsn a' a g2')).1
                  exact hmono a' b (hprev a' b h4 h3 hkb)
              · omega
            · rcases hold a' k g2 with g2 | ⟨h1, _⟩
              · rcases hold k b' g3 with g3 | ⟨h1, _⟩
                · exact hmono a' b' (hprev a' b' g1 g2 g3)
                · omega
              · omega
            · rcases hold k b' g2 with g2 | ⟨h1, _⟩
              · by_cases hbb : b' = b
                · rw [hbb]; exact hnew
                · exact hmono a b' (hpart b' (by omega) g2)
              · omega
            · have e1 : (rows.set a ⟨ra.v, ra.l.set b true⟩).length = rows.length := by simp
              have e2 : (rows.set a ⟨ra.v, ra.l.set b true⟩).flatMap encBR = rows.flatMap encBR := by
                rw [← flat_upd (ys := []) (j := 0) encBR_len hra (by simp) (by simp [updL, encBR])]
                simp [updL]
              unfold oA
              rw [e1, e2]
              exact hw3
          · refine J1 rows wh2 hs hsub hsn hdone hprev hak (fun b' g1 g2 => ?_) hw2
            by_cases hbb : b' = b
            · subst hbb; rw [hky] at g2; rw [g2] at hyf; cases hyf
            · exact hpart b' (by omega) g2
        · refine JN rows wh2 hs hsub hsn hdone (fun a' b' g1 g2 g3 => ?_) hw2
          by_cases haa : a' = a
          · subst haa
            have := (hlt k b' (hsn k b' g3)).2
            exact hpart b' (by omega) g3
          · exact hprev a' b' (by omega) g2 g3
    · refine O.mk (bi_addb (a := k) (b := 1) (by omega)) ?_
      rw [hI, hm]
      refine ⟨⟨k + 1, rows, rfl, by omega, hs, hsub, hsn, fun x a' b g1 g2 g3 => ?_, hw1⟩, by simp only; omega⟩
      by_cases hxk : x = k
      · subst hxk
        have := hlt a' x (hsn a' x g2)
        exact hprev a' b (by omega) g2 g3
      · exact hdone x a' b (by omega) g2 g3
  · rw [hR]
    refine ⟨rfl, rows, hs, hsub, hsn, fun a b c h1 h2 => ?_, hw1⟩
    have := (hlt a b (hsn a b h1)).2
    exact hdone b a c (by omega) h1 h2
end
end Go.Proofs.Ytedcfkigfcobaaa
end
/- Contracts: the document's order: the rules 7 and 8. -/
section
namespace Go.Proofs.Ytedcfkigfcobaaa
open Go Go.Proofs
attribute [local irreducible] Bc O AL BS MS MM ST AP CV Cl
structure RdB (T : List TK) (M : List MK) (bl el : List Int) (rows2 rows : List BR) (c : Bool) (P : Nat → Nat → Bool → Prop) : Prop where
  sq : Sq M.length rows
  sound : ∀ a b, HasB rows a b = true → HB T M bl el a b
  sub : ∀ a b, HasB rows2 a b = true → HasB rows a b = true
  no : c = false → rows = rows2 ∧ ∀ i j s, P i j s → RuleSat T bl el (HasB rows2) i j s
  yes : c = true → ∃ a b, b < M.length ∧ a < M.length ∧ HasB rows2 a b = false ∧ HasB rows a b = true
theorem RdB.weak {T : List TK} {M : List MK} {bl el : List Int} {rows2 rows : List BR} {c : Bool} {P Q : Nat → Nat → Bool → Prop} (h : RdB T M bl el rows2 rows c P) (hPQ : ∀ i j s, Q i j s → P i j s) : RdB T M bl el rows2 rows c Q :=
  ⟨h.sq, h.sound, h.sub, fun hc => ⟨(h.no hc).1, fun i j s hq => (h.no hc).2 i j s (hPQ i j s hq)⟩, h.yes⟩
section
variable {B : Base} {w : World} {L : List Atom} {mv hv bv ev : Value} {T : List TK} {M : List MK} {ob bt capt : Nat} {bl el : List Int}
set_option maxHeartbeats 8000000 in
set_option maxRecDepth 4000 in
theorem k52 {rows2 : List BR} (hw : Own B w (rA (tvS bt T.length capt) mv T M ++ (oA (tvS bt T.length capt) mv hv bv ev ob rows2 bl el ++ L))) (hr : RunOK T M) (hb : BE T M M.length 1 bl) (he : BE T M M.length 2 el) (hn : M.length ≤ 1200) (hT : T.length ≤ 256) (hs2 : Sq M.length rows2) (hsn2 : ∀ a b, HasB rows2 a b = true → HB T M bl el a b) :
    Cl Try.prog 52 [pp ob] w fun v w' => ∃ (c : Bool) (rows : List BR), v = .bool c ∧ RdB T M bl el rows2 rows c (fun i j _ => i < T.length ∧ j < T.length) ∧ Own B w' (rA (tvS bt T.length capt) mv T M ++ (oA (tvS bt T.length capt) mv hv bv ev ob rows bl el ++ L)) := by
  obtain ⟨R, hR⟩ : ∃ R : Value → World → Prop, R = fun v w' => ∃ (c : Bool) (rows : List BR), v = .bool c ∧ RdB T M bl el rows2 rows c (fun i j _ => i < T.length ∧ j < T.length) ∧ Own B w' (rA (tvS bt T.length capt) mv T M ++ (oA (tvS bt T.length capt) mv hv bv ev ob rows bl el ++ L)) := ⟨_, rfl⟩
  rw [← hR]
  have hbl := hb.1
  have hel := he.1
  have hC := HB.closed (T := T) (M := M) (bl := bl) (el := el)
  refine s52 ?_
  unfold c52
  obtain ⟨I0, hI⟩ : ∃ I : Value → Value → World → Prop, I = fun v1 v2 w' => ∃ (c : Bool) (i : Nat) (rows : List BR), v1 = .bool c ∧ v2 = .int .i64 ((i : Int) + 1) ∧ i ≤ T.length ∧ RdB T M bl el rows2 rows c (fun i' j' _ => i' < i ∧ j' < T.length) ∧ Own B w' (rA (tvS bt T.length capt) mv T M ++ (oA (tvS bt T.length capt) mv hv bv ev ob rows bl el ++ L)) := ⟨_, rfl⟩
  obtain ⟨m0, hm⟩ : ∃ m : Value → Value → World → Nat, m = fun _ v _ => match v with | .int _ i => (T.length + 1 - i).toNat | _ => 0 := ⟨_, rfl⟩
  refine ⟨I0, m0, by rw [hI]; exact ⟨false, 0, rows2, rfl, rfl, by omega, ⟨hs2, hsn2, fun _ _ h => h, fun _ => ⟨rfl, fun i j s h => by omega⟩, (fun h => by cases h)⟩, hw⟩, ?_⟩
  clear hw
  intro t3 t4 wh0 h0
  rw [hI] at h0
  obtain ⟨c0, i, rows, rfl, rfl, hi, hR0, hw1⟩ := h0
  (repeat with_reducible first | refine qq ?_ | refine qr ?_ | refine qs ?_ | refine hw1.l 2 ?_)
  refine Bc_dec (fun hlt => ?_) (fun hge => ?_)
  · obtain ⟨I1, hI1⟩ : ∃ I : Value → Value → World → Prop, I = fun v1 v2 w' => ∃ (c : Bool) (j : Nat) (rows : List BR), v1 = .bool c ∧ v2 = .int .i64 ((j : Int) + 1) ∧ j ≤ T.length ∧ RdB T M bl el rows2 rows c (fun i' j' _ => (i' < i ∧ j' < T.length) ∨ (i' = i ∧ j' < j)) ∧ Own B w' (rA (tvS bt T.length capt) mv T M ++ (oA (tvS bt T.length capt) mv hv bv ev ob rows bl el ++ L)) := ⟨_, rfl⟩
    obtain ⟨m1, hm1⟩ : ∃ m : Value → Value → World → Nat, m = fun _ v _ => match v with | .int _ i => (T.length + 1 - i).toNat | _ => 0 := ⟨_, rfl⟩
    refine ⟨I1, m1, by rw [hI1]; exact ⟨c0, 0, rows, rfl, rfl, by omega, hR0.weak (fun i' j' s h => by omega), hw1⟩, ?_⟩
    clear hw1 hR0
    intro t3 t5 wh1 h1
    rw [hI1] at h1
    obtain ⟨c1', j, rows, rfl, rfl, hj, hR1, hw1⟩ := h1
    (repeat with_reducible first | refine qq ?_ | refine qr ?_ | refine qs ?_ | refine hw1.l 2 ?_)
    refine Bc_dec (fun hlj => ?_) (fun hgj => ?_)
    · obtain ⟨x, hx⟩ := list_get (l := T) (j := i) (by omega)
      obtain ⟨y, hy⟩ := list_get (l := T) (j := j) (by omega)
      obtain ⟨e, hes⟩ := list_get (l := el) (j := i + 1) (by omega)
      obtain ⟨s, hss⟩ := list_get (l := bl) (j := j + 1) (by omega)
      obtain ⟨s0, hs0⟩ := list_get (l := bl) (j := i + 1) (by omega)
      have hel' := pos_lt he hes
      have hsl := pos_lt hb hss
      have hs0l := pos_lt hb hs0
      have hxm := mark_lt hr hx
      have hym := mark_lt hr hy
      have hsq := hR1.sq
      have hixa : iS 15 (tvS bt T.length capt) (.int .i64 ((i : Int) + 1 - 1)) = some (.pointer (some ⟨bt, i * 15, none⟩)) := by
        have := iS_0 (sz := 15) (b := bt) (n := T.length) (cap := capt) (k := .i64) (j := (i : Int) + 1 - 1) (by omega) (by omega)
        rw [this, show ((i : Int) + 1 - 1).toNat = i by omega]
      have hixb : iS 15 (tvS bt T.length capt) (.int .i64 ((j : Int) + 1 - 1)) = some (.pointer (some ⟨bt, j * 15, none⟩)) := by
        have := iS_0 (sz := 15) (b := bt) (n := T.length) (cap := capt) (k := .i64) (j := (j : Int) + 1 - 1) (by omega) (by omega)
        rw [this, show ((j : Int) + 1 - 1).toNat = j by omega]
      have hJ : ∀ b7 b8 w', Own B w' (bk b7 73 (encTK x) :: bk b8 73 (encTK y) :: (rA (tvS bt T.length capt) mv T M ++ (oA (tvS bt T.length capt) mv hv bv ev ob rows bl el ++ L))) → j52_1 R (.int .i64 ((i : Int) + 1)) (.int .i64 ((j : Int) + 1)) I1 m1 (.bool c1') wh1 (pp ob) (pp b7) (pp b8) w' := by
        intro b7 b8 w2' hw2''
        have hw2' : Own B w2' (rA (tvS bt T.length capt) mv T M ++ (oA (tvS bt T.length capt) mv hv bv ev ob rows bl el ++ (bk b7 73 (encTK x) :: bk b8 73 (encTK y) :: L))) := hw2''.perm (List.perm_append_comm (l₁ := [bk b7 73 (encTK x), bk b8 73 (encTK y)]) (l₂ := rA (tvS bt T.length capt) mv T M ++ oA (tvS bt T.length capt) mv hv bv ev ob rows bl el) |>.append_right L)
        clear hw2''
        have JN : ∀ (c' : Bool) (rows' : List BR) w', RdB T M bl el rows2 rows' c' (fun i' j' _ => (i' < i ∧ j' < T.length) ∨ (i' = i ∧ j' < j + 1)) → Own B w' (rA (tvS bt T.length capt) mv T M ++ (oA (tvS bt T.length capt) mv hv bv ev ob rows' bl el ++ (bk b7 73 (encTK x) :: bk b8 73 (encTK y) :: L))) → j52_0 R (.int .i64 ((j : Int) + 1)) I1 m1 (.bool c1') wh1 (.bool c') w' := by
          intro c' rows' w' h1 h2
          unfold j52_0
          (repeat with_reducible first | refine qq ?_ | refine qr ?_ | refine qs ?_)
          rw [hI1, hm1]
          exact ⟨⟨c', j + 1, rows', rfl, by simp, by omega, h1, (h2.drop 7).drop 7⟩, by simp only; omega⟩
        -- nothing new: the two rules hold as it is
        have hsame : ∀ w', Own B w' (rA (tvS bt T.length capt) mv T M ++ (oA (tvS bt T.length capt) mv hv bv ev ob rows bl el ++ (bk b7 73 (encTK x) :: bk b8 73 (encTK y) :: L))) → (∀ sv : Bool, RuleSat T bl el (HasB rows) i j sv) → j52_0 R (.int .i64 ((j : Int) + 1)) I1 m1 (.bool c1') wh1 (.bool c1') w' := by
          intro w' h2 hsat
          refine JN c1' rows w' ⟨hR1.sq, hR1.sound, hR1.sub, fun hc => ⟨(hR1.no hc).1, fun i' j' sv hp => ?_⟩, hR1.yes⟩ h2
          by_cases hold : (i' < i ∧ j' < T.length) ∨ (i' = i ∧ j' < j)
          · exact (hR1.no hc).2 i' j' sv hold
          · have e1 : i' = i := by omega
            have e2 : j' = j := by omega
            subst e1; subst e2
            rw [← (hR1.no hc).1]
            exact hsat sv
        have hcontra : ∀ (Q : Prop), (i ≠ j → 0 ≤ x.looper → x.looper = y.looper → 0 ≤ e → e < s → HasB rows e.toNat s.toNat = true) → (∀ sv : Bool, RuleSat T bl el (HasB rows) i j sv) := by
          intro _ hq sv x' y' e' s' f1 f2 f3 f4 f5 f6 f7 f8 f9 _
          rw [hx] at f1; cases f1
          rw [hy] at f2; cases f2
          rw [hes] at f3; cases f3
          rw [hss] at f4; cases f4
          exact hq f5 f6 f7 f8 f9
        have JS : ∀ w', Own B w' (rA (tvS bt T.length capt) mv T M ++ (oA (tvS bt T.length capt) mv hv bv ev ob rows bl el ++ (bk b7 73 (encTK x) :: bk b8 73 (encTK y) :: L))) → (i ≠ j → 0 ≤ x.looper → x.looper = y.looper → 0 ≤ e → e < s → HasB rows e.toNat s.toNat = true) → j52_2 R (.int .i64 ((j : Int) + 1)) I1 m1 (.bool c1') wh1 (pp b7) (pp b8) (pp ob) (.int .i64 ((i : Int) + 1)) (.bool true) w' := by
          intro w' h1 h2
          unfold j52_2
          refine Bc_t ?_
          exact hsame w' h1 (hcontra True h2)
        unfold j52_1
        refine hw2'.dr fun w2 hw2 => ?_
        clear hw2'
        (repeat with_reducible first | refine qq ?_ | refine qr ?_ | refine qs ?_)
        refine Bc_dec (fun g => JS _ hw2 (fun h => absurd (by omega) h)) (fun g1 => ?_)
        (repeat with_reducible first | refine qq ?_ | refine qr ?_ | refine qs ?_ | refine hw2.l 7 ?_ | refine hw2.l 8 ?_)
        refine Bc_dec (fun g => JS _ hw2 (fun _ h => by omega)) (fun g2 => ?_)
        (repeat with_reducible first | refine qq ?_ | refine qr ?_ | refine qs ?_ | refine hw2.l 7 ?_ | refine hw2.l 8 ?_)
        refine Bc_dec (fun g => JS _ hw2 (fun _ _ h => absurd h g)) (fun g3 => ?_)
        obtain ⟨b1, hix1, hrd1⟩ := hw2.eli 6 rfl hes
        obtain ⟨b2, hix2, hrd2⟩ := hw2.eli 5 rfl hss
        obtain ⟨b3, hix3, hrd3⟩ := hw2.eli 5 rfl hs0
        have e1 : ((i : Int) + 1).toNat = i + 1 := by omega
        have e2 : ((j : Int) + 1).toNat = j + 1 := by omega
        have hx1 := hix1 .i64 ((i : Int) + 1) (by omega) e1
        have hx2 := hix2 .i64 ((j : Int) + 1) (by omega) e2
        have hx3 := hix3 .i64 ((i : Int) + 1) (by omega) e1
        rw [e1] at hx1 hx3
        rw [e2] at hx2
        (repeat with_reducible first | refine qq ?_ | refine qr ?_ | refine qs ?_ | refine hw2.l 2 ?_)
        refine O.mk hx1 ?_
        refine O.mk hrd1 ?_
        (repeat with_reducible first | refine qq ?_ | refine qr ?_ | refine qs ?_)
        refine Bc_dec (fun g => JS _ hw2 (fun _ _ _ h => by omega)) (fun g4 => ?_)
        (repeat with_reducible first | refine qq ?_ | refine qr ?_ | refine qs ?_ | refine hw2.l 2 ?_)
        refine O.mk hx2 ?_
        refine O.mk hrd2 ?_
        (repeat with_reducible first | refine qq ?_ | refine qr ?_ | refine qs ?_)
        refine Bc_dec (fun g => JS _ hw2 (fun _ _ _ h h' => by omega)) (fun g5 => ?_)
        obtain ⟨re, z, hre, hz, hez⟩ := hsq.get (a := e.toNat) (b := s.toNat) (by omega) (by omega)
        obtain ⟨br, hixr, hrdr⟩ := hw2.bbrow 3 rfl hre
        obtain ⟨bc, hixc, hrdc⟩ := hw2.bbel 4 rfl hre hz
        have hxr := hixr .i64 e (by omega) rfl
        have hxc := hixc .i64 s (by omega) rfl
        (repeat with_reducible first | refine qq ?_ | refine qr ?_ | refine qs ?_ | refine hw2.l 2 ?_)
        refine O.mk hx1 ?_
        refine O.mk hrd1 ?_
        refine O.mk hxr ?_
        refine O.mk hrdr ?_
        (repeat with_reducible first | refine qq ?_ | refine qr ?_ | refine qs ?_ | refine hw2.l 2 ?_)
        refine O.mk hx2 ?_
        refine O.mk hrd2 ?_
        refine O.mk hxc ?_
        refine O.mk hrdc ?_
        rcases z with _ | _
        case true => exact JS _ hw2 (fun _ _ _ _ _ => hez)
        clear hrdr hrdc hrd1 hrd2 hrd3 hxc hixc
        unfold j52_2
        refine Bc_f ?_
        refine hw2.dr fun w3 hw3 => ?_
        clear hw2
        obtain ⟨S7, hS7⟩ : ∃ S7 : Prop, S7 = (Seven x y ∧ e < s ∧ 0 ≤ x.mark ∧ 0 ≤ y.mark ∧ HasB rows x.mark.toNat y.mark.toNat = true) := ⟨_, rfl⟩
        -- the second rule, and the deed
        have J4 : ∀ (c : Bool) w4, (c = true → S7 ∨ (0 ≤ s0 ∧ 0 ≤ s ∧ HasB rows s0.toNat s.toNat = true)) → (c = false → ¬ S7 ∧ ¬ (0 ≤ s0 ∧ 0 ≤ s ∧ HasB rows s0.toNat s.toNat = true)) → Own B w4 (rA (tvS bt T.length capt) mv T M ++ (oA (tvS bt T.length capt) mv hv bv ev ob rows bl el ++ (bk b7 73 (encTK x) :: bk b8 73 (encTK y) :: L))) → j52_4 R (pp ob) (.int .i64 ((i : Int) + 1)) (.int .i64 ((j : Int) + 1)) I1 m1 (.bool c1') wh1 (.bool c) w4 := by
          intro c w4 hct hcf hw4'
          unfold j52_4
          refine Bc_b (fun hc => ?_) (fun hc => ?_)
          · refine hw4'.dr fun w4 hw4 => ?_
            clear hw4'
            obtain ⟨b1, hix1, hrd1⟩ := hw4.eli 6 rfl hes
            obtain ⟨b2, hix2, hrd2⟩ := hw4.eli 5 rfl hss
            have hx1 := hix1 .i64 ((i : Int) + 1) (by omega) e1
            have hx2 := hix2 .i64 ((j : Int) + 1) (by omega) e2
            rw [e1] at hx1
            rw [e2] at hx2
            obtain ⟨br, hixr, hrdr⟩ := hw4.bbrow 3 rfl hre
            obtain ⟨bc, hixc, hrdc⟩ := hw4.bbel 4 rfl hre hz
            have hxr := hixr .i64 e (by omega) rfl
            have hxc := hixc .i64 s (by omega) rfl
            have hes' : e < s ∧ HB T M bl el e.toNat s.toNat := by
              rcases hct hc with h7 | ⟨q1, q2, q3⟩
              · rw [hS7] at h7
                obtain ⟨p1, p2, p3, p4, p5⟩ := h7
                exact ⟨p2, hC.rule i j x y e s (by omega) hx hy (by omega) (by omega) hes hss (by omega) p2 (.inl ⟨p1, p3, p4, hR1.sound _ _ p5⟩)⟩
              · have h8 := hR1.sound _ _ q3
                have h9 := (h8.lt hr hb he).1
                have h10 := hr.over hb he hx hy (by omega) (by omega) hs0 hss hes q1 (by omega)
                exact ⟨h10.2, hC.rule i j x y e s (by omega) hx hy (by omega) (by omega) hes hss (by omega) h10.2 (.inr ⟨s0, hs0, q1, h8⟩)⟩
            (repeat with_reducible first | refine qq ?_ | refine qr ?_ | refine qs ?_ | refine hw4.l 2 ?_)
            refine O.mk hx1 ?_
            refine O.mk hrd1 ?_
            refine O.mk hxr ?_
            refine O.mk hrdr ?_
            (repeat with_reducible first | refine qq ?_ | refine qr ?_ | refine qs ?_ | refine hw4.l 2 ?_)
            refine O.mk hx2 ?_
            refine O.mk hrd2 ?_
            refine O.mk hxc ?_
            refine hw4.bbst 4 rfl hre (list_lt hz) true (hixc .i64 s (by omega) rfl) rfl tsz4' fun w5 hw5 => ?_
            have hset : ∀ x' y', HasB (rows.set e.toNat ⟨re.v, re.l.set s.toNat true⟩) x' y' = (HasB rows x' y' || decide (x' = e.toNat ∧ y' = s.toNat)) := fun x' y' => HasB_set hre (list_lt hz) x' y'
            refine JN true (rows.set e.toNat ⟨re.v, re.l.set s.toNat true⟩) w5 ⟨hsq.set hre true, fun a b h => ?_, fun a b h => by rw [hset, hR1.sub a b h]; rfl, (fun h => by cases h), fun _ => ⟨e.toNat, s.toNat, by omega, by omega, ?_, by rw [hset]; simp⟩⟩ ?_
            · rw [hset, Bool.or_eq_true] at h
              rcases h with h | h
              · exact hR1.sound a b h
              · obtain ⟨f1, f2⟩ := of_decide_eq_true h
                rw [f1, f2]; exact hes'.2
            · rcases hh : HasB rows2 e.toNat s.toNat with _ | _
              · rfl
              · have := hR1.sub _ _ hh
                rw [hez] at this; cases this
            · have q1 : (rows.set e.toNat ⟨re.v, re.l.set s.toNat true⟩).length = rows.length := by simp
              have q2 : (rows.set e.toNat ⟨re.v, re.l.set s.toNat true⟩).flatMap encBR = rows.flatMap encBR := by
                rw [← flat_upd (ys := []) (j := 0) encBR_len hre (by simp) (by simp [updL, encBR])]
                simp [updL]
              unfold oA
              rw [q1, q2]
              exact hw5
          · obtain ⟨n7, n8⟩ := hcf hc
            refine hsame w4 hw4' fun sv x' y' e' s' f1 f2 f3 f4 f5 f6 f7 f8 f9 f10 => ?_
            rw [hx] at f1; cases f1
            rw [hy] at f2; cases f2
            rw [hes] at f3; cases f3
            rw [hss] at f4; cases f4
            exfalso
            rcases sv with _ | _
            · rw [if_neg (by decide)] at f10
              obtain ⟨s0', q1, q2, q3⟩ := f10
              rw [hs0] at q1; cases q1
              exact n8 ⟨q2, by omega, q3⟩
            · rw [if_pos rfl] at f10
              exact n7 (by rw [hS7]; exact ⟨f10.1, f9, f10.2⟩)
        have J3 : ∀ (c : Bool) w4, (c = true → S7) → (c = false → ¬ S7) → Own B w4 (rA (tvS bt T.length capt) mv T M ++ (oA (tvS bt T.length capt) mv hv bv ev ob rows bl el ++ (bk b7 73 (encTK x) :: bk b8 73 (encTK y) :: L))) → j52_3 R (pp ob) (.int .i64 ((i : Int) + 1)) (.int .i64 ((j : Int) + 1)) I1 m1 (.bool c1') wh1 (.bool c) w4 := by
          intro c w4 hct hcf hw4'
          unfold j52_3
          refine hw4'.dr fun w4 hw4 => ?_
          clear hw4'
          refine Bc_b (fun hc => J4 true w4 (fun _ => .inl (hct hc)) (fun h => by cases h) hw4) (fun hc => ?_)
          obtain ⟨b2, hix2, hrd2⟩ := hw4.eli 5 rfl hss
          obtain ⟨b3, hix3, hrd3⟩ := hw4.eli 5 rfl hs0
          have hx2 := hix2 .i64 ((j : Int) + 1) (by omega) e2
          have hx3 := hix3 .i64 ((i : Int) + 1) (by omega) e1
          rw [e1] at hx3
          rw [e2] at hx2
          (repeat with_reducible first | refine qq ?_ | refine qr ?_ | refine qs ?_ | refine hw4.l 2 ?_)
          refine O.mk hx3 ?_
          refine O.mk hrd3 ?_
          (repeat with_reducible first | refine qq ?_ | refine qr ?_ | refine qs ?_ | refine hw4.l 2 ?_)
          refine O.mk hx2 ?_
          refine O.mk hrd2 ?_
          refine (k76 hw4 hsq (a := s0) (b := s) (by omega) (by omega)).use ?_
          rintro _ w5 ⟨rfl, h5⟩
          rw [h5]
          refine J4 _ w4 (fun h => .inr ?_) (fun h => ⟨hcf hc, fun h' => ?_⟩) hw4
          · rw [Bool.and_eq_true] at h
            have := of_decide_eq_true h.1
            exact ⟨this.1, this.2, h.2⟩
          · rw [decide_eq_true ⟨h'.1, h'.2.1⟩, h'.2.2] at h
            cases h
        have JF : ¬ S7 → ∀ w4, Own B w4 (rA (tvS bt T.length capt) mv T M ++ (oA (tvS bt T.length capt) mv hv bv ev ob rows bl el ++ (bk b7 73 (encTK x) :: bk b8 73 (encTK y) :: L))) → j52_3 R (pp ob) (.int .i64 ((i : Int) + 1)) (.int .i64 ((j : Int) + 1)) I1 m1 (.bool c1') wh1 (.bool false) w4 := fun h w4 h4 => J3 false w4 (fun h => by cases h) (fun _ => h) h4
        rw [hS7] at J3 JF
        clear J4
        (repeat with_reducible first | refine qq ?_ | refine qr ?_ | refine qs ?_ | refine hw3.l 7 ?_ | refine hw3.l 8 ?_)
        refine Bc_dec (fun k1 => ?_) (fun k1 => JF (fun h => k1 h.1.1) _ hw3)
        (repeat with_reducible first | refine qq ?_ | refine qr ?_ | refine qs ?_ | refine hw3.l 7 ?_ | refine hw3.l 8 ?_)
        refine Bc_dec (fun k2 => ?_) (fun k2 => JF (fun h => k2 h.1.2.1) _ hw3)
        obtain ⟨b1, hix1, hrd1⟩ := hw3.eli 6 rfl hes
        obtain ⟨b2, hix2, hrd2⟩ := hw3.eli 5 rfl hss
        have hx1 := hix1 .i64 ((i : Int) + 1) (by omega) e1
        have hx2 := hix2 .i64 ((j : Int) + 1) (by omega) e2
        rw [e1] at hx1
        rw [e2] at hx2
        (repeat with_reducible first | refine qq ?_ | refine qr ?_ | refine qs ?_ | refine hw3.l 2 ?_ | refine hw3.l 7 ?_ | refine hw3.l 8 ?_)
        refine O.mk hx1 ?_
        refine O.mk hrd1 ?_
        (repeat with_reducible first | refine qq ?_ | refine qr ?_ | refine qs ?_ | refine hw3.l 2 ?_ | refine hw3.l 7 ?_ | refine hw3.l 8 ?_)
        refine O.mk hx2 ?_
        refine O.mk hrd2 ?_
        (repeat with_reducible first | refine qq ?_ | refine qr ?_ | refine qs ?_)
        refine Bc_dec (fun k3 => ?_) (fun k3 => JF (fun h => k3 h.2.1) _ hw3)
        (repeat with_reducible first | refine qq ?_ | refine qr ?_ | refine qs ?_ | refine hw3.l 7 ?_ | refine hw3.l 8 ?_)
        refine (k76 hw3 hsq (a := x.mark) (b := y.mark) (by omega) (by omega)).use ?_
        rintro _ w5 ⟨rfl, h5⟩
        rw [h5]
        clear h5 w5
        refine Bc_b (fun k4 => ?_) (fun k4 => JF (fun h => ?_) _ hw3)
        · rw [Bool.and_eq_true] at k4
          have k4' := of_decide_eq_true k4.1
          (repeat with_reducible first | refine qq ?_ | refine qr ?_ | refine qs ?_ | refine hw3.l 7 ?_ | refine hw3.l 8 ?_)
          refine Bc_b (fun k5 => ?_) (fun k5 => JF (fun h => by rw [h.1.2.2.1] at k5; cases k5) _ hw3)
          have k5' : y.front = false := by simpa using k5
          (repeat with_reducible first | refine qq ?_ | refine qr ?_ | refine qs ?_ | refine hw3.l 7 ?_ | refine hw3.l 8 ?_)
          refine Bc_b (fun k6 => ?_) (fun k6 => ?_)
          · exact J3 true _ (fun _ => ⟨⟨k1, k2, k5', .inl k6⟩, k3, k4'.1, k4'.2, k4.2⟩) (fun h => by cases h) hw3
          · (repeat with_reducible first | refine qq ?_ | refine qr ?_ | refine qs ?_ | refine hw3.l 7 ?_ | refine hw3.l 8 ?_)
            refine J3 _ _ (fun h => ⟨⟨k1, k2, k5', .inr (of_decide_eq_true h)⟩, k3, k4'.1, k4'.2, k4.2⟩) (fun h h' => ?_) hw3
            have hd := of_decide_eq_false h
            rcases h'.1.2.2.2 with h6 | h6
            · rw [h6] at k6; cases k6
            · exact hd h6
        · rw [decide_eq_true ⟨h.2.2.1, h.2.2.2.1⟩, h.2.2.2.2] at k4
          cases k4
      refine hw1.dr fun w' hw' => ?_
      clear hw1
      (repeat with_reducible first | refine qq ?_ | refine qr ?_ | refine qs ?_ | refine hw'.l 2 ?_)
      refine O.mk hixa ?_
      refine O.mk (hw'.elN (P := Try.prog) 0 rfl rfl encTK_len hx) ?_
      (repeat with_reducible first | refine qq ?_ | refine qr ?_ | refine qs ?_)
      repeat' (first
        | exact hJ _ _ _ hw'
        | exact hJ _ _ _ (hw'.perm (List.Perm.swap _ _ _))
        | refine O.mk (hw'.rd1_bk 2 rfl rfl) ?_
        | refine O.mk (hw'.rd1_bk 3 rfl rfl) ?_
        | refine O.mk (hw'.rd1_bk 4 rfl rfl) ?_
        | refine O.mk hixb ?_
        | refine O.mk (hw'.elN (P := Try.prog) 0 rfl rfl encTK_len hy) ?_
        | refine O.mk (hw'.elN (P := Try.prog) 1 rfl rfl encTK_len hy) ?_
        | refine O.mk (hw'.elN (P := Try.prog) 2 rfl rfl encTK_len hy) ?_
        | (refine hw'.al fun b w' hb hw' => ?_)
        | (refine hw'.stTK 0 rfl fun w' hw' => ?_)
        | (refine hw'.stTK 1 rfl fun w' hw' => ?_)
        | refine And.intro ?_ ?_)
    · (repeat with_reducible first | refine qq ?_ | refine qr ?_ | refine qs ?_)
      rw [hI, hm]
      exact ⟨⟨c1', i + 1, rows, rfl, by simp, by omega, hR1.weak (fun i' j' s h => by omega), hw1⟩, by simp only; omega⟩
  · rw [hR]
    exact ⟨c0, rows, rfl, hR0.weak (fun i' j' s h => by omega), hw1⟩
end
end Go.Proofs.Ytedcfkigfcobaaa
end
/- Contracts: the document's order of a run; its races. -/
section
namespace Go.Proofs.Ytedcfkigfcobaaa
open Go Go.Proofs
attribute [local irreducible] Bc O AL BS MS MM ST AP CV Cl
theorem rowsB_uniq {B : Base} {w : World} {L1 L2 : List Atom} {hv : Value} {rows rows' : List BR} (h1 : Own B w L1) (h2 : Own B w L2) (i j : Nat) (e1 : L1[i]? = some (sl 59 1 hv rows.length (rows.flatMap encBR))) (e2 : L2[i]? = some (sl 59 1 hv rows'.length (rows'.flatMap encBR)))
    (f1 : L1[j]? = some (sep (rows.map brA))) (f2 : L2[j]? = some (sep (rows'.map brA))) : HasB rows = HasB rows' := by
  have hl : rows.length = rows'.length := by
    have := (h1.slLen i e1).symm.trans (h2.slLen i e2)
    simp at this
    omega
  funext a y
  by_cases ha : a < rows.length
  · obtain ⟨r, hr⟩ := list_get ha
    obtain ⟨r', hr'⟩ := list_get (l := rows') (j := a) (by omega)
    obtain ⟨b, hix, hrd⟩ := h1.bbrow i e1 hr
    obtain ⟨b', hix', hrd'⟩ := h2.bbrow i e2 hr'
    have hb : b = b' := by
      have := (hix .i64 a (by omega) (by omega)).symm.trans (hix' .i64 a (by omega) (by omega))
      simpa using this
    subst hb
    have hv' : r.v = r'.v := by
      have := hrd.symm.trans hrd'
      exact Option.some.inj this
    have hll : r.l.length = r'.l.length := by
      have := (h1.bblen j f1 hr).symm.trans ((congrArg lenS hv').trans (h2.bblen j f2 hr'))
      simp at this
      omega
    rw [HasB_row hr, HasB_row hr']
    by_cases hy : y < r.l.length
    · obtain ⟨x, hx⟩ := list_get hy
      obtain ⟨x', hx'⟩ := list_get (l := r'.l) (j := y) (by omega)
      obtain ⟨c, g1, g2⟩ := h1.bbel j f1 hr hx
      obtain ⟨c', g1', g2'⟩ := h2.bbel j f2 hr' hx'
      have hc : c = c' := by
        have := (g1 .i64 y (by omega) (by omega)).symm.trans ((congrArg (fun z => iS 1 z (.int .i64 (y : Int))) hv').trans (g1' .i64 y (by omega) (by omega)))
        simpa using this
      subst hc
      have := g2.symm.trans g2'
      simp at this
      rw [hx, hx', this]
    · rw [List.getElem?_eq_none (by omega), List.getElem?_eq_none (by omega)]
  · unfold HasB
    rw [List.getElem?_eq_none (by omega), List.getElem?_eq_none (by omega)]
theorem fill110 {a b c d : Value} (hc : one c = true) (hd : one d = true) : (fillW Try.prog 110 [(0, runV a b), (2, c), (3, d)]).map Value.agg = some (.agg #[a, b, .slice none 0 0, c, d]) := by
  cases c <;> first | (cases hc; done) | (cases d <;> first | (cases hd; done) | kernel_rfl)
theorem tsz55 : tsz Try.prog 55 = some 1 := by kernel_rfl
section
variable {B : Base} {w : World} {L : List Atom} {mv : Value} {T : List TK} {M : List MK} {bt capt : Nat}
set_option maxHeartbeats 8000000 in
set_option maxRecDepth 4000 in
theorem k26 (hw : Own B w (rA (tvS bt T.length capt) mv T M ++ L)) (hr : RunOK T M) (hT : T.length ≤ 256) (hn : M.length ≤ 1200) :
    Cl Try.prog 26 [runV (tvS bt T.length capt) mv] w fun v w' => ∃ (ob : Nat) (hv bv ev : Value) (rows : List BR) (bl el : List Int), v = pp ob ∧ BE T M M.length 1 bl ∧ BE T M M.length 2 el ∧ Sq M.length rows ∧ (∀ a b, HasB rows a b = true ↔ HB T M bl el a b) ∧ Own B w' (rA (tvS bt T.length capt) mv T M ++ (oA (tvS bt T.length capt) mv hv bv ev ob rows bl el ++ L)) := by
  obtain ⟨R, hR⟩ : ∃ R : Value → World → Prop, R = fun v w' => ∃ (ob : Nat) (hv bv ev : Value) (rows : List BR) (bl el : List Int), v = pp ob ∧ BE T M M.length 1 bl ∧ BE T M M.length 2 el ∧ Sq M.length rows ∧ (∀ a b, HasB rows a b = true ↔ HB T M bl el a b) ∧ Own B w' (rA (tvS bt T.length capt) mv T M ++ (oA (tvS bt T.length capt) mv hv bv ev ob rows bl el ++ L)) := ⟨_, rfl⟩
  rw [← hR]
  have hmv := sl_one hw 1 rfl
  refine s26 ?_
  unfold c26
  refine hw.al fun b1 w1 hb1 hw1' => ?_
  have hw1 : Own B w1 (rA (tvS bt T.length capt) mv T M ++ (bk b1 52 [tvS bt T.length capt, mv] :: L)) := hw1'.perm (List.perm_middle (l₁ := rA (tvS bt T.length capt) mv T M)).symm
  clear hw1' hw
  obtain ⟨L1, hL1⟩ : ∃ L1, L1 = bk b1 52 [tvS bt T.length capt, mv] :: L := ⟨_, rfl⟩
  rw [← hL1] at hw1
  refine O.mk (v := runV (tvS bt T.length capt) mv) (hw1.rdN_bk (b := b1) (t := 52) (vs := [tvS bt T.length capt, mv]) 2 (by rw [hL1]; rfl) (Nat.le_refl 2)) ?_
  have hbs : bsx 3 1 1 (.int .i64 0) [(0, .int .i64 (-1))] = some (.cells [Value.int .i64 (-1)].toArray 3, fun n => .slice (some ⟨n, 0, none⟩) 1 1) := bsx_one (by decide) (by decide) rfl rfl rfl
  refine hw1.bs hbs fun bb w2 hbb hw2 => ?_
  clear hw1
  refine hw2.bs hbs fun be' w3 hbe hw3 => ?_
  clear hw2
  refine O.mk (fill110 rfl rfl) ?_
  refine hw3.al fun ob w4 hob hw4 => ?_
  clear hw3
  have hw5 : Own B w4 (rA (tvS bt T.length capt) mv T M ++ (oA (tvS bt T.length capt) mv (.slice none 0 0) (.slice (some ⟨bb, 0, none⟩) 1 1) (.slice (some ⟨be', 0, none⟩) 1 1) ob [] [-1] [-1] ++ L1)) := by
    have h1 : Own B w4 (bk ob 110 [tvS bt T.length capt, mv, .slice none 0 0, .slice (some ⟨bb, 0, none⟩) 1 1, .slice (some ⟨be', 0, none⟩) 1 1] :: bk be' 3 [.int .i64 (-1)] :: bk bb 3 [.int .i64 (-1)] :: (rA (tvS bt T.length capt) mv T M ++ L1)) := hw4
    have h2 := h1.imp (i := 1) rfl (A' := sl 3 1 (.slice (some ⟨be', 0, none⟩) 1 1) 1 [.int .i64 (-1)]) (fun g hg => bk_sl rfl g hg)
    have h3 := h2.imp (i := 2) rfl (A' := sl 3 1 (.slice (some ⟨bb, 0, none⟩) 1 1) 1 [.int .i64 (-1)]) (fun g hg => bk_sl rfl g hg)
    have h4 := (h3.sep0.nilSl 59 1)
    refine h4.perm ?_
    refine P5 (P5 (P2 (P0 (P0 ?_))))
    refine P1 (P0 ?_)
    exact List.Perm.refl _
  clear hw4
  obtain ⟨I0, hI⟩ : ∃ I : Value → World → Prop, I = fun v w' => ∃ (i : Nat) (hv bv ev : Value) (rows : List BR), v = .int .i64 i ∧ i ≤ M.length ∧ rows.length = i ∧ (∀ (a : Nat) r, rows[a]? = some r → r.l.length = M.length) ∧ (∀ a b, HasB rows a b = false) ∧ Own B w' (rA (tvS bt T.length capt) mv T M ++ (oA (tvS bt T.length capt) mv hv bv ev ob rows [-1] [-1] ++ L1)) := ⟨_, rfl⟩
  obtain ⟨m0, hm⟩ : ∃ m : Value → World → Nat, m = fun v _ => match v with | .int _ i => (M.length - i).toNat | _ => 0 := ⟨_, rfl⟩
  refine ⟨I0, m0, by rw [hI]; exact ⟨0, _, _, _, [], rfl, by omega, rfl, (fun a r h => by cases h), fun a b => rfl, hw5⟩, ?_⟩
  clear hw5
  intro t4 wh0 h0
  rw [hI] at h0
  obtain ⟨i, hv, bv, ev, rows, rfl, hi, hrl, hr1, hr2, hw6⟩ := h0
  have hrun : ∀ {rows bl el hv bv ev w'}, Own B w' (rA (tvS bt T.length capt) mv T M ++ (oA (tvS bt T.length capt) mv hv bv ev ob rows bl el ++ L1)) → (rd1 (.pointer (some ⟨b1, 0, none⟩)) w' = some (tvS bt T.length capt) ∧ rd1 (.pointer (some ⟨b1, 1, none⟩)) w' = some mv) ∧ rdN 2 (.pointer (some ⟨b1, 0, none⟩)) w' = some (runV (tvS bt T.length capt) mv) := fun {rows bl el hv bv ev w'} h => ⟨⟨h.rd1_bk (b := b1) (t := 52) (vs := [tvS bt T.length capt, mv]) 7 (by rw [hL1]; rfl) rfl, h.rd1_bk (b := b1) (t := 52) (vs := [tvS bt T.length capt, mv]) 7 (by rw [hL1]; rfl) rfl⟩, h.rdN_bk (b := b1) (t := 52) (vs := [tvS bt T.length capt, mv]) 7 (by rw [hL1]; rfl) (Nat.le_refl 2)⟩
  have hback : ∀ {rows bl el hv bv ev w'}, Own B w' (rA (tvS bt T.length capt) mv T M ++ (oA (tvS bt T.length capt) mv hv bv ev ob rows bl el ++ L1)) → Own B w' (rA (tvS bt T.length capt) mv T M ++ (oA (tvS bt T.length capt) mv hv bv ev ob rows bl el ++ L)) := fun {rows bl el hv bv ev w'} h => by
    rw [hL1] at h
    exact h.drop 7
  clear hL1
  (repeat with_reducible first | refine qq ?_ | refine qr ?_ | refine qs ?_)
  refine O.mk (hrun hw6).1.2 ?_
  refine O.mk (hw6.slLen 1 rfl) ?_
  (repeat with_reducible first | refine qq ?_ | refine qr ?_ | refine qs ?_)
  refine Bc_dec (fun hlt => ?_) (fun hge => ?_)
  · refine hw6.dr fun w7 hw7 => ?_
    clear hw6
    (repeat with_reducible first | refine qq ?_ | refine qr ?_ | refine qs ?_ | refine hw7.l 2 ?_)
    refine O.mk (hrun hw7).1.2 ?_
    refine O.mk (hw7.slLen 1 rfl) ?_
    refine hw7.mks (e := 4) (sz := 1) (bytes := 1) (n := M.length) (z := .bool false) (by decide) rfl (by omega) (by omega) fun nv w8 hw8 => ?_
    rw [bools_zero] at hw8
    clear hw7
    have hone : one nv = true := sl_one hw8 0 rfl
    refine hw8.app (x := nv) (xs := [nv]) T55 ⟨_, T55.under⟩ 4 rfl (by decide) (by have := cells_one' hone; rw [← this]) rfl (by simp [hone]) (by omega) fun lv' w9 hw9 => ?_
    clear hw8
    have honel : one lv' = true := sl_one hw9 4 rfl
    (repeat with_reducible first | refine qq ?_ | refine qr ?_ | refine qs ?_ | refine hw9.l 3 ?_)
    refine hw9.st1 3 rfl tsz55 honel (by show 2 < 5; decide) fun w10 hw10 => ?_
    clear hw9
    have hw11 : Own B w10 (brA ⟨nv, List.replicate M.length false⟩ :: (rA (tvS bt T.length capt) mv T M ++ (bk ob 110 [tvS bt T.length capt, mv, lv', bv, ev] :: sl 59 1 lv' (rows.length + 1) (rows.flatMap encBR ++ [nv]) :: sep (rows.map brA) :: sl 3 1 bv 1 (ints [-1]) :: sl 3 1 ev 1 (ints [-1]) :: L1))) := by
      unfold brA
      rw [List.length_replicate]
      exact hw10
    clear hw10
    have hw12 := Own.growAt (i := 4) (xs := rows) (f := brA) (x := ⟨nv, List.replicate M.length false⟩) rfl hw11
    refine O.mk (bi_addb (a := i) (b := 1) (by omega)) ?_
    rw [hI, hm]
    refine ⟨⟨i + 1, lv', bv, ev, rows ++ [⟨nv, List.replicate M.length false⟩], rfl, by omega, by simp [hrl], fun a r hx => ?_, fun a b => ?_, ?_⟩, by simp only; omega⟩
    · rcases app_get.1 hx with h | ⟨_, rfl⟩
      · exact hr1 a r h
      · simp
    · rcases hh : (rows ++ [(⟨nv, List.replicate M.length false⟩ : BR)])[a]? with _ | r
      · unfold HasB; rw [hh]; rfl
      · rw [HasB_row hh]
        rcases app_get.1 hh with h | ⟨_, rfl⟩
        · rw [← HasB_row h]; exact hr2 a b
        · simp only
          rw [List.getElem?_replicate]
          split <;> rfl
    · have e1 : (rows ++ [(⟨nv, List.replicate M.length false⟩ : BR)]).length = rows.length + 1 := by simp
      have e2 : (rows ++ [(⟨nv, List.replicate M.length false⟩ : BR)]).flatMap encBR = rows.flatMap encBR ++ [nv] := by simp [encBR]
      unfold oA
      rw [e1, e2]
      exact hw12
  · have hie : i = M.length := by omega
    subst hie
    have hsq0 : Sq M.length rows := ⟨hrl, hr1⟩
    have task1 : ∀ (j : Nat) (n : MK), M[j]? = some n → 1 ≤ n.task := fun j n h => (hr.mks j n h).task.1
    obtain ⟨I1, hI1⟩ : ∃ I : Value → World → Prop, I = fun v w' => ∃ (q : Nat) (bv ev : Value) (bl el : List Int), v = .int .i64 ((q : Int) + 1) ∧ q ≤ T.length ∧ bl.length = q + 1 ∧ el.length = q + 1 ∧ (∀ (x : Nat) (v : Int), bl[x]? = some v → IsAt M M.length 1 x v) ∧ (∀ (x : Nat) (v : Int), el[x]? = some v → IsAt M M.length 2 x v) ∧ Own B w' (rA (tvS bt T.length capt) mv T M ++ (oA (tvS bt T.length capt) mv hv bv ev ob rows bl el ++ L1)) := ⟨_, rfl⟩
    obtain ⟨m1, hm1⟩ : ∃ m : Value → World → Nat, m = fun v _ => match v with | .int _ i => (T.length + 1 - i).toNat | _ => 0 := ⟨_, rfl⟩
    have hinit : ∀ kd : Int, ∀ (x : Nat) (v : Int), ([-1] : List Int)[x]? = some v → IsAt M M.length kd x v := fun kd x v h => by
      rcases x with _ | x
      · cases h
        exact .inl ⟨rfl, fun j n _ hn h => by have := task1 j n hn; omega⟩
      · cases h
    refine ⟨I1, m1, by rw [hI1]; exact ⟨0, bv, ev, [-1], [-1], rfl, by omega, rfl, rfl, hinit 1, hinit 2, hw6⟩, ?_⟩
    clear hw6 hge hrl hr1 hi
    intro t5 wh1 h1
    rw [hI1] at h1
    obtain ⟨q, bv, ev, bl, el, rfl, hq, hbl, hel, hb1', he1', hw7⟩ := h1
    (repeat with_reducible first | refine qq ?_ | refine qr ?_ | refine qs ?_)
    refine O.mk (hrun hw7).1.1 ?_
    (repeat with_reducible first | refine qq ?_ | refine qr ?_ | refine qs ?_)
    refine Bc_dec (fun hlt => ?_) (fun hge => ?_)
    · refine hw7.dr fun w8 hw8 => ?_
      clear hw7
      (repeat with_reducible first | refine qq ?_ | refine qr ?_ | refine qs ?_ | refine hw8.l 2 ?_)
      refine O.mk (hrun hw8).2 ?_
      have hpush : ∀ (kd : Int) (l : List Int) (v : Int), l.length = q + 1 → (∀ (x : Nat) (v : Int), l[x]? = some v → IsAt M M.length kd x v) → IsAt M M.length kd ((q : Int) + 1) v → ∀ (x : Nat) (u : Int), (l ++ [v])[x]? = some u → IsAt M M.length kd x u := fun kd l v hl h1 h2 x u hx => by
        rcases app_get.1 hx with h | ⟨h, rfl⟩
        · exact h1 x u h
        · rw [show ((x : Nat) : Int) = (q : Int) + 1 by omega]; exact h2
      have J0 : ∀ bv ev bl' el' w', bl'.length = q + 2 → el'.length = q + 2 → (∀ (x : Nat) (v : Int), bl'[x]? = some v → IsAt M M.length 1 x v) → (∀ (x : Nat) (v : Int), el'[x]? = some v → IsAt M M.length 2 x v) → Own B w' (rA (tvS bt T.length capt) mv T M ++ (oA (tvS bt T.length capt) mv hv bv ev ob rows bl' el' ++ L1)) → j26_0 R (.int .i64 ((q : Int) + 1)) I1 m1 wh1 w' := by
        intro bv ev bl' el' w' g1 g2 g3 g4 g5
        unfold j26_0
        (repeat with_reducible first | refine qq ?_ | refine qr ?_ | refine qs ?_)
        rw [hI1, hm1]
        exact ⟨⟨q + 1, bv, ev, bl', el', by simp, by omega, g1, g2, g3, g4, g5⟩, by simp only; omega⟩
      have J1 : ∀ bv ev bl' w', bl'.length = q + 2 → (∀ (x : Nat) (v : Int), bl'[x]? = some v → IsAt M M.length 1 x v) → Own B w' (rA (tvS bt T.length capt) mv T M ++ (oA (tvS bt T.length capt) mv hv bv ev ob rows bl' el ++ L1)) → j26_1 R (pp ob) (pp b1) (.int .i64 ((q : Int) + 1)) I1 m1 wh1 w' := by
        intro bv ev bl' w' g1 g2 g3
        unfold j26_1
        refine g3.dr fun w9 hw9 => ?_
        clear g3
        (repeat with_reducible first | refine qq ?_ | refine qr ?_ | refine qs ?_ | refine hw9.l 2 ?_)
        refine O.mk (hrun hw9).2 ?_
        have hend : ∀ (v : Int) w', IsAt M M.length 2 ((q : Int) + 1) v → Own B w' (rA (tvS bt T.length capt) mv T M ++ (oA (tvS bt T.length capt) mv hv bv ev ob rows bl' el ++ L1)) →
            BS 3 1 1 (.int .i64 0) [(0, .int .i64 v)] w' fun t58 w => AP Try.prog #[39, 39] 39 [ev, t58] w fun t59 w => O (nC (pp ob)) fun t60 => O (fA 4 t60) fun t61 => ST Try.prog 39 t61 t59 w fun _ w => j26_0 R (.int .i64 ((q : Int) + 1)) I1 m1 wh1 w := by
          intro v w' hv' hw'
          refine hw'.app (xs := [.int .i64 v]) T39 ⟨_, T39.under⟩ 6 rfl (by decide) rfl rfl rfl (by omega) fun ev' w10 hw10 => ?_
          clear hw'
          have hone := sl_one hw10 6 rfl
          (repeat with_reducible first | refine qq ?_ | refine qr ?_ | refine qs ?_ | refine hw10.l 2 ?_)
          refine hw10.st1 2 rfl tsz39 hone (by show 4 < 5; decide) fun w11 hw11 => ?_
          refine J0 bv ev' bl' (el ++ [v]) w11 g1 (by simp [hel]) g2 (hpush 2 el v hel he1' hv') ?_
          have e1 : ints (el ++ [v]) = ints el ++ [.int .i64 v] := by simp [ints]
          unfold oA
          rw [e1, List.length_append]
          exact hw11
        refine ⟨?_, ?_⟩
        · (repeat with_reducible first | refine qq ?_ | refine qr ?_ | refine qs ?_ | refine hw9.l 2 ?_)
          refine (k49 hw9 (by omega) ((q : Int) + 1)).use ?_
          rintro _ w10 ⟨⟨v, rfl, hv'⟩, hw10⟩
          exact hend v w10 hv' hw10
        · refine (k49 hw9 (by omega) ((q : Int) + 1)).use ?_
          rintro _ w10 ⟨⟨v, rfl, hv'⟩, hw10⟩
          (repeat with_reducible first | refine qq ?_ | refine qr ?_ | refine qs ?_ | refine hw10.l 2 ?_)
          exact hend v w10 hv' hw10
      have hbeg : ∀ (v : Int) w', IsAt M M.length 1 ((q : Int) + 1) v → Own B w' (rA (tvS bt T.length capt) mv T M ++ (oA (tvS bt T.length capt) mv hv bv ev ob rows bl el ++ L1)) →
          BS 3 1 1 (.int .i64 0) [(0, .int .i64 v)] w' fun t58 w => AP Try.prog #[39, 39] 39 [bv, t58] w fun t59 w => O (nC (pp ob)) fun t60 => O (fA 3 t60) fun t61 => ST Try.prog 39 t61 t59 w fun _ w => j26_1 R (pp ob) (pp b1) (.int .i64 ((q : Int) + 1)) I1 m1 wh1 w := by
        intro v w' hv' hw'
        refine hw'.app (xs := [.int .i64 v]) T39 ⟨_, T39.under⟩ 5 rfl (by decide) rfl rfl rfl (by omega) fun bv' w10 hw10 => ?_
        clear hw'
        have hone := sl_one hw10 5 rfl
        (repeat with_reducible first | refine qq ?_ | refine qr ?_ | refine qs ?_ | refine hw10.l 2 ?_)
        refine hw10.st1 2 rfl tsz39 hone (by show 3 < 5; decide) fun w11 hw11 => ?_
        refine J1 bv' ev (bl ++ [v]) w11 (by simp [hbl]) (hpush 1 bl v hbl hb1' hv') ?_
        have e1 : ints (bl ++ [v]) = ints bl ++ [.int .i64 v] := by simp [ints]
        unfold oA
        rw [e1, List.length_append]
        exact hw11
      refine ⟨?_, ?_⟩
      · (repeat with_reducible first | refine qq ?_ | refine qr ?_ | refine qs ?_ | refine hw8.l 2 ?_)
        refine (k13 hw8 (by omega) ((q : Int) + 1)).use ?_
        rintro _ w10 ⟨⟨v, rfl, hv'⟩, hw10⟩
        exact hbeg v w10 hv' hw10
      · refine (k13 hw8 (by omega) ((q : Int) + 1)).use ?_
        rintro _ w10 ⟨⟨v, rfl, hv'⟩, hw10⟩
        (repeat with_reducible first | refine qq ?_ | refine qr ?_ | refine qs ?_ | refine hw10.l 2 ?_)
        exact hbeg v w10 hv' hw10
    · have hqe : q = T.length := by omega
      have hb : BE T M M.length 1 bl := ⟨by omega, hb1'⟩
      have he : BE T M M.length 2 el := ⟨by omega, he1'⟩
      have hC := HB.closed (T := T) (M := M) (bl := bl) (el := el)
      have hltH : ∀ a b, HB T M bl el a b → a < b ∧ b < M.length := fun a b h => h.lt hr hb he
      refine (k50 hw7 hr hb he hn hT hsq0 hr2).use ?_
      clear hw7
      rintro _ w8 ⟨rfl, rows1, hq1, hs1, hlaid1, hw8⟩
      refine (k51 hw8 hn hq1 (H := HB T M bl el) hC.trans hltH hs1).use ?_
      clear hw8
      rintro _ w9 ⟨rfl, rows2, hq2, hsub2, hs2, htr2, hw9⟩
      have hlaid2 := hlaid1.mono hsub2
      clear hsub2 hlaid1 hs1 hq1 rows1
      obtain ⟨μ2, hμ2⟩ := meas (fun (rows : List BR) w' => Own B w' (rA (tvS bt T.length capt) mv T M ++ (oA (tvS bt T.length capt) mv hv bv ev ob rows bl el ++ L1))) (fun rows => c2 (HasB rows) M.length M.length) (fun w' g g' h1 h2 => by rw [rowsB_uniq h1 h2 3 4 rfl rfl rfl rfl])
      obtain ⟨I2, hI2⟩ : ∃ I : World → Prop, I = fun w' => ∃ rows : List BR, Sq M.length rows ∧ (∀ a b, HasB rows a b = true → HB T M bl el a b) ∧ Laid T M bl el M.length T.length (HasB rows) ∧ (∀ a b c, HasB rows a b = true → HasB rows b c = true → HasB rows a c = true) ∧ Own B w' (rA (tvS bt T.length capt) mv T M ++ (oA (tvS bt T.length capt) mv hv bv ev ob rows bl el ++ L1)) := ⟨_, rfl⟩
      refine ⟨I2, μ2, by rw [hI2]; exact ⟨rows2, hq2, hs2, hlaid2, htr2, hw9⟩, ?_⟩
      clear hw9 htr2 hlaid2 hs2 hq2 rows2
      intro wh2 h2
      rw [hI2] at h2
      obtain ⟨rows2, hq2, hs2, hlaid2, htr2, hw9⟩ := h2
      have hμ := hμ2 wh2 rows2 hw9
      refine (k52 hw9 hr hb he hn hT hq2 hs2).use ?_
      clear hw9
      rintro _ w10 ⟨c, rows3, rfl, hR3, hw10⟩
      refine Bc_b (fun hc => ?_) (fun hc => ?_)
      · refine (k51 hw10 hn hR3.sq (H := HB T M bl el) hC.trans hltH hR3.sound).use ?_
        clear hw10
        rintro _ w11 ⟨rfl, rows4, hq4, hsub4, hs4, htr4, hw11⟩
        have hsub : ∀ a b, HasB rows2 a b = true → HasB rows4 a b = true := fun a b h => hsub4 a b (hR3.sub a b h)
        rw [hI2]
        refine ⟨⟨rows4, hq4, hs4, hlaid2.mono hsub, htr4, hw11⟩, ?_⟩
        rw [hμ, hμ2 w11 rows4 hw11]
        obtain ⟨a, b, h1, h2, h3, h4⟩ := hR3.yes hc
        exact c2_lt hsub h1 h3 (hsub4 a b h4) M.length h2
      · obtain ⟨rfl, hsat⟩ := hR3.no hc
        rw [hR]
        refine ⟨ob, hv, bv, ev, rows3, bl, el, rfl, hb, he, hq2, fun a b => ⟨hs2 a b, fun h => ?_⟩, hback hw10⟩
        exact h _ (closed_of hlaid2 htr2 fun i j hi hj => ⟨hsat i j true ⟨hi, hj⟩, hsat i j false ⟨hi, hj⟩⟩)
end
end Go.Proofs.Ytedcfkigfcobaaa
end
