/-
  A part of the proof that the statement on the tasks of a machine returns true for every input: no condition is asked beyond those of the theorems below.
-/
import Derived.Test.YtedcfkigfcobaaaB11
import Derived.KernelRfl
import Derived.Test.YtedcfkigfcobaaaRows
import Derived.ProofKit
set_option linter.unusedVariables false
set_option linter.unusedSimpArgs false
set_option linter.unusedSectionVars false
/- Contracts: the document's races; the same pairs; the same order. -/
section
namespace Go.Proofs.Ytedcfkigfcobaaa
open Go Go.Proofs
attribute [local irreducible] Bc O AL BS MS MM ST AP CV Cl
def rowUp (M : List MK) (b a : Nat) : List (Nat × Nat) := ((List.range a).filter fun x => confl M x b).map fun x => (x, b)
theorem rowUp_succ (M : List MK) (b a : Nat) : rowUp M b (a + 1) = rowUp M b a ++ if confl M a b then [(a, b)] else [] := by
  unfold rowUp
  rw [List.range_succ, List.filter_append, List.map_append]
  congr 1
  rw [List.filter_cons]
  split <;> simp
theorem rowUp_len (M : List MK) (b a : Nat) : (rowUp M b a).length ≤ a := by
  unfold rowUp
  rw [List.length_map]
  refine Nat.le_trans (List.length_filter_le _ _) ?_
  simp
theorem BE.uniq {T : List TK} {M : List MK} (hr : RunOK T M) {kd : Int} (hk : kd = 1 ∨ kd = 2) {l l' : List Int} (h : BE T M M.length kd l) (h' : BE T M M.length kd l') : l = l' := by
  apply List.ext_getElem?
  intro x
  by_cases hx : x < l.length
  · obtain ⟨v, hv⟩ := list_get hx
    obtain ⟨v', hv'⟩ := list_get (l := l') (j := x) (by rw [h'.1]; rw [h.1] at hx; exact hx)
    rw [hv, hv']
    congr 1
    rcases h.2 x v hv with ⟨h1, h2⟩ | ⟨j, n, h1, h2, h3, h4, h5⟩ <;> rcases h'.2 x v' hv' with ⟨g1, g2⟩ | ⟨k, m, g1, g2, g3, g4, g5⟩
    · omega
    · exact absurd ⟨g4, g5⟩ (h2 k m g2 g3)
    · exact absurd ⟨h4, h5⟩ (g2 j n h2 h3)
    · rcases hk with rfl | rfl
      · have := hr.uniq1 h3 g3 h5 g5 (by omega)
        omega
      · have := hr.uniq2 h3 g3 h5 g5 (by omega)
        omega
  · rw [List.getElem?_eq_none (by omega), List.getElem?_eq_none (by rw [h'.1]; rw [h.1] at hx; omega)]
section
variable {B : Base} {w : World} {L : List Atom} {tv mv hv bv ev : Value} {T : List TK} {M : List MK} {ob : Nat} {rows : List BR} {bl el : List Int}
set_option maxHeartbeats 4000000 in
set_option maxRecDepth 4000 in
theorem k28 (hw : Own B w (rA tv mv T M ++ (oA tv mv hv bv ev ob rows bl el ++ L))) (hn : M.length ≤ 1200) (hs : Sq M.length rows) (hH : ∀ a b, HasB rows a b = true ↔ HB T M bl el a b) :
    Cl Try.prog 28 [pp ob] w fun v w' => ∃ l : List (Nat × Nat), RaceL T M bl el l ∧ Own B w' (rA tv mv T M ++ (oA tv mv hv bv ev ob rows bl el ++ (sl 89 2 v l.length (l.flatMap encPr) :: L))) := by
  obtain ⟨R, hR⟩ : ∃ R : Value → World → Prop, R = fun v w' => ∃ l : List (Nat × Nat), RaceL T M bl el l ∧ Own B w' (rA tv mv T M ++ (oA tv mv hv bv ev ob rows bl el ++ (sl 89 2 v l.length (l.flatMap encPr) :: L))) := ⟨_, rfl⟩
  rw [← hR]
  obtain ⟨p, hp⟩ : ∃ p : Nat × Nat → Bool, p = fun q => !HasB rows q.1 q.2 && !HasB rows q.2 q.1 := ⟨_, rfl⟩
  have hRL : RaceL T M bl el ((confs M M.length).filter p) := ⟨p, rfl, fun a b h1 h2 => by
    rw [hp]
    simp only [Bool.and_eq_true, Bool.not_eq_true']
    rw [← hH a b, ← hH b a]
    simp⟩
  refine s28 ?_
  unfold c28
  obtain ⟨I0, hI⟩ : ∃ I : Value → Value → World → Prop, I = fun v1 v2 w' => ∃ (b : Nat), v2 = .int .i64 b ∧ b ≤ M.length ∧ Own B w' (rA tv mv T M ++ (oA tv mv hv bv ev ob rows bl el ++ (sl 89 2 v1 ((confs M b).filter p).length (((confs M b).filter p).flatMap encPr) :: L))) := ⟨_, rfl⟩
  obtain ⟨m0, hm⟩ : ∃ m : Value → Value → World → Nat, m = fun _ v _ => match v with | .int _ i => (M.length - i).toNat | _ => 0 := ⟨_, rfl⟩
  refine ⟨I0, m0, ?_, ?_⟩
  · rw [hI]
    refine ⟨0, rfl, by omega, ?_⟩
    exact (hw.nilSl 89 2).perm (List.perm_middle (l₁ := rA tv mv T M ++ oA tv mv hv bv ev ob rows bl el)).symm
  clear hw
  intro t3 t4 wh0 h0
  rw [hI] at h0
  obtain ⟨b, rfl, hb, hw1⟩ := h0
  (repeat with_reducible first | refine qq ?_ | refine qr ?_ | refine qs ?_ | refine hw1.l 2 ?_)
  refine O.mk (hw1.slLen 3 rfl) ?_
  rw [hs.len]
  (repeat with_reducible first | refine qq ?_ | refine qr ?_ | refine qs ?_)
  refine Bc_dec (fun hlt => ?_) (fun hge => ?_)
  · obtain ⟨base, hbase⟩ : ∃ base, base = (confs M b).filter p := ⟨_, rfl⟩
    have hbl : base.length ≤ 1200 * 1200 := by
      rw [hbase]
      refine Nat.le_trans (List.length_filter_le _ _) (Nat.le_trans (confs_len M b hb) (Nat.mul_le_mul (by omega) hn))
    obtain ⟨I1, hI1⟩ : ∃ I : Value → Value → World → Prop, I = fun v1 v2 w' => ∃ (a : Nat), v2 = .int .i64 a ∧ a ≤ b ∧ Own B w' (rA tv mv T M ++ (oA tv mv hv bv ev ob rows bl el ++ (sl 89 2 v1 (base ++ (rowUp M b a).filter p).length ((base ++ (rowUp M b a).filter p).flatMap encPr) :: L))) := ⟨_, rfl⟩
    obtain ⟨m1, hm1⟩ : ∃ m : Value → Value → World → Nat, m = fun _ v _ => match v with | .int _ i => (b - i).toNat | _ => 0 := ⟨_, rfl⟩
    refine ⟨I1, m1, ?_, ?_⟩
    · rw [hI1]
      refine ⟨0, rfl, by omega, ?_⟩
      have : base ++ (rowUp M b 0).filter p = (confs M b).filter p := by rw [hbase]; simp [rowUp]
      rw [this]
      exact hw1
    clear hw1
    intro t3' t5 wh1 h1
    rw [hI1] at h1
    obtain ⟨a, rfl, ha, hw2⟩ := h1
    (repeat with_reducible first | refine qq ?_ | refine qr ?_ | refine qs ?_)
    refine Bc_dec (fun hla => ?_) (fun hga => ?_)
    · have J0 : ∀ (pv : Value) w', Own B w' (rA tv mv T M ++ (oA tv mv hv bv ev ob rows bl el ++ (sl 89 2 pv (base ++ (rowUp M b (a + 1)).filter p).length ((base ++ (rowUp M b (a + 1)).filter p).flatMap encPr) :: L))) → j28_0 R (.int .i64 a) I1 m1 t3' wh1 pv w' := by
        intro pv w' h
        unfold j28_0
        refine O.mk (bi_addb (a := a) (b := 1) (by omega)) ?_
        rw [hI1, hm1]
        exact ⟨⟨a + 1, rfl, by omega, h⟩, by simp only; omega⟩
      have J1 : ∀ (c : Bool) w', c = (confl M a b && p (a, b)) → Own B w' (rA tv mv T M ++ (oA tv mv hv bv ev ob rows bl el ++ (sl 89 2 t3' (base ++ (rowUp M b a).filter p).length ((base ++ (rowUp M b a).filter p).flatMap encPr) :: L))) → j28_1 R (.int .i64 a) (.int .i64 b) t3' I1 m1 wh1 (.bool c) w' := by
        intro c w' hc hw'
        have hrow : (rowUp M b (a + 1)).filter p = (rowUp M b a).filter p ++ if c then [(a, b)] else [] := by
          rw [rowUp_succ, List.filter_append]
          congr 1
          rw [hc]
          rcases confl M a b with _ | _
          · rfl
          · rw [if_pos rfl, List.filter_cons]
            rcases p (a, b) with _ | _ <;> rfl
        unfold j28_1
        refine Bc_b (fun h => ?_) (fun h => ?_)
        · refine O.mk (fill89 _ _) ?_
          have hln : (base ++ (rowUp M b a).filter p).length < 2 ^ 40 := by
            have h1 := rowUp_len M b a
            have h2 := List.length_filter_le p (rowUp M b a)
            rw [List.length_append]; omega
          refine hw'.pair 7 rfl hln a b fun v' w9 hw9 => J0 v' w9 ?_
          have e : base ++ ((rowUp M b a).filter p ++ [(a, b)]) = base ++ (rowUp M b a).filter p ++ [(a, b)] := (List.append_assoc _ _ _).symm
          rw [hrow, if_pos h, e]
          exact hw9
        · refine J0 t3' w' ?_
          rw [hrow, if_neg (by rw [h]; decide), List.append_nil]
          exact hw'
      obtain ⟨x, hx⟩ := list_get (l := M) (j := a) (by omega)
      obtain ⟨y, hy⟩ := list_get (l := M) (j := b) (by omega)
      (repeat with_reducible first | refine qq ?_ | refine qr ?_ | refine qs ?_ | refine hw2.l 2 ?_)
      refine O.mk (v := runV tv mv) (hw2.rdN_bk 2 rfl (by show 0 + 2 ≤ 5; decide)) ?_
      obtain ⟨bm, capm, hmv⟩ := hw2.slShape 1 rfl (by omega)
      have hk : Cl Try.prog 53 [runV tv mv, .int .i64 a, .int .i64 b] wh1 fun v w' => v = .bool (confl M a b) ∧ Own B w' (rA tv mv T M ++ (oA tv mv hv bv ev ob rows bl el ++ (sl 89 2 t3' (base ++ (rowUp M b a).filter p).length ((base ++ (rowUp M b a).filter p).flatMap encPr) :: L))) := by
        rw [hmv]
        rw [hmv] at hw2
        exact k53 hw2 hx hy
      refine hk.use ?_
      clear hw2 hk
      rintro _ w3 ⟨rfl, hw3⟩
      obtain ⟨ra, xa, hra, hxa, hea⟩ := hs.get (a := a) (b := b) (by omega) (by omega)
      obtain ⟨rb, xb, hrb, hxb, heb⟩ := hs.get (a := b) (b := a) (by omega) (by omega)
      refine Bc_b (fun h1 => ?_) (fun h1 => J1 false w3 (by rw [h1, Bool.false_and]) hw3)
      obtain ⟨b1, hix1, hrd1⟩ := hw3.bbrow 3 rfl hra
      obtain ⟨b2, hix2, hrd2⟩ := hw3.bbel 4 rfl hra hxa
      obtain ⟨b3, hix3, hrd3⟩ := hw3.bbrow 3 rfl hrb
      obtain ⟨b4, hix4, hrd4⟩ := hw3.bbel 4 rfl hrb hxb
      have ea : ((a : Int)).toNat = a := by omega
      have eb : ((b : Int)).toNat = b := by omega
      have hx1 := hix1 .i64 (a : Int) (by omega) ea
      have hx2 := hix2 .i64 (b : Int) (by omega) eb
      have hx3 := hix3 .i64 (b : Int) (by omega) eb
      have hx4 := hix4 .i64 (a : Int) (by omega) ea
      rw [ea] at hx1 hx4
      rw [eb] at hx2 hx3
      (repeat with_reducible first | refine qq ?_ | refine qr ?_ | refine qs ?_ | refine hw3.l 2 ?_)
      refine O.mk hx1 ?_
      refine O.mk hrd1 ?_
      refine O.mk hx2 ?_
      refine O.mk hrd2 ?_
      (repeat with_reducible first | refine qq ?_ | refine qr ?_ | refine qs ?_)
      have hpab : p (a, b) = (!xa && !xb) := by rw [hp]; simp only; rw [hea, heb]
      refine Bc_b (fun h2 => ?_) (fun h2 => J1 false w3 (by rw [h1, hpab, h2]; rfl) hw3)
      (repeat with_reducible first | refine qq ?_ | refine qr ?_ | refine qs ?_ | refine hw3.l 2 ?_)
      refine O.mk hx3 ?_
      refine O.mk hrd3 ?_
      refine O.mk hx4 ?_
      refine O.mk hrd4 ?_
      (repeat with_reducible first | refine qq ?_ | refine qr ?_ | refine qs ?_)
      exact J1 _ w3 (by rw [h1, hpab, h2]; rfl) hw3
    · have hae : a = b := by omega
      refine O.mk (bi_addb (a := b) (b := 1) (by omega)) ?_
      rw [hI, hm]
      refine ⟨⟨b + 1, rfl, by omega, ?_⟩, by simp only; omega⟩
      have : (confs M (b + 1)).filter p = base ++ (rowUp M b a).filter p := by
        rw [confs_succ, List.filter_append, hbase, hae]
        rfl
      rw [this]
      exact hw2
  · have hbe : b = M.length := by omega
    rw [hbe] at hw1
    rw [hR]
    exact ⟨_, hRL, hw1⟩
theorem k27 {v1 v2 : Value} {l : List (Nat × Nat)} (hw : Own B w L) (i j : Nat) (hi : L[i]? = some (sl 89 2 v1 l.length (l.flatMap encPr))) (hj : L[j]? = some (sl 89 2 v2 l.length (l.flatMap encPr))) (hl : l.length < 2 ^ 40) :
    Cl Try.prog 27 [v1, v2] w fun v w' => v = .bool true ∧ Own B w' L := by
  obtain ⟨R, hR⟩ : ∃ R : Value → World → Prop, R = fun v w' => v = .bool true ∧ Own B w' L := ⟨_, rfl⟩
  rw [← hR]
  refine s27 ?_
  unfold c27
  refine O.mk (hw.slLen i hi) ?_
  refine O.mk (hw.slLen j hj) ?_
  (repeat with_reducible first | refine qq ?_ | refine qr ?_ | refine qs ?_)
  refine Bc_dec (fun h => absurd rfl h) (fun _ => ?_)
  obtain ⟨I0, hI⟩ : ∃ I : Value → World → Prop, I = fun v w' => ∃ (k : Nat), v = .int .i64 k ∧ k ≤ l.length ∧ Own B w' L := ⟨_, rfl⟩
  obtain ⟨m0, hm⟩ : ∃ m : Value → World → Nat, m = fun v _ => match v with | .int _ i => (l.length - i).toNat | _ => 0 := ⟨_, rfl⟩
  refine ⟨I0, m0, by rw [hI]; exact ⟨0, rfl, by omega, hw⟩, ?_⟩
  clear hw
  intro t5 wh0 h0
  rw [hI] at h0
  obtain ⟨k, rfl, hk, hw1⟩ := h0
  refine O.mk (hw1.slLen i hi) ?_
  (repeat with_reducible first | refine qq ?_ | refine qr ?_ | refine qs ?_)
  refine Bc_dec (fun hlt => ?_) (fun hge => ?_)
  · refine hw1.dr fun w2 hw2 => ?_
    clear hw1
    obtain ⟨q, hq⟩ := list_get (l := l) (j := k) (by omega)
    obtain ⟨b1, hix1, _, hrd1⟩ := hw2.el i hi encPr_len hq
    obtain ⟨b2, hix2, _, hrd2⟩ := hw2.el j hj encPr_len hq
    have e : ((k : Int)).toNat = k := by omega
    have hx1 := hix1 .i64 (k : Int) (by omega) e
    have hx2 := hix2 .i64 (k : Int) (by omega) e
    rw [e] at hx1 hx2
    refine O.mk hx1 ?_
    refine O.mk hrd1 ?_
    refine O.mk hx2 ?_
    refine O.mk hrd2 ?_
    have hbe : be 2 .neq (.agg (encPr q).toArray) (.agg (encPr q).toArray) = some (.bool false) := by
      have := be_neq2 q.1 q.2 q.1 q.2
      unfold encPr
      rw [this]; simp
    refine O.mk hbe ?_
    refine Bc_f ?_
    refine O.mk (bi_addb (a := k) (b := 1) (by omega)) ?_
    rw [hI, hm]
    exact ⟨⟨k + 1, rfl, by omega, hw2⟩, by simp only; omega⟩
  · rw [hR]; exact ⟨rfl, hw1⟩
end
end Go.Proofs.Ytedcfkigfcobaaa
end
/- Contracts: is an order, and are races, the document's. -/
section
namespace Go.Proofs.Ytedcfkigfcobaaa
open Go Go.Proofs
attribute [local irreducible] Bc O AL BS MS MM ST AP CV Cl
section
variable {B : Base} {w : World} {L : List Atom} {mv : Value} {T : List TK} {M : List MK} {bt capt : Nat}
set_option maxHeartbeats 4000000 in
set_option maxRecDepth 4000 in
theorem k10 (hw : Own B w (rA (tvS bt T.length capt) mv T M ++ L)) (hr : RunOK T M) (hT : T.length ≤ 256) (hn : M.length ≤ 1200) :
    Cl Try.prog 10 [runV (tvS bt T.length capt) mv] w fun v w' => v = .bool true ∧ Own B w' (rA (tvS bt T.length capt) mv T M ++ L) := by
  obtain ⟨R, hR⟩ : ∃ R : Value → World → Prop, R = fun v w' => v = .bool true ∧ Own B w' (rA (tvS bt T.length capt) mv T M ++ L) := ⟨_, rfl⟩
  rw [← hR]
  refine s10 ?_
  unfold c10
  refine hw.al fun b1 w1 hb1 hw1' => ?_
  have hw1 : Own B w1 (rA (tvS bt T.length capt) mv T M ++ (bk b1 52 [tvS bt T.length capt, mv] :: L)) := hw1'.perm (List.perm_middle (l₁ := rA (tvS bt T.length capt) mv T M)).symm
  clear hw1' hw
  refine O.mk (v := runV (tvS bt T.length capt) mv) (hw1.rdN_bk 2 rfl (Nat.le_refl 2)) ?_
  refine (k26 hw1 hr hT hn).use ?_
  clear hw1
  rintro _ w2 ⟨ob, hv, bv, ev, rows, bl, el, rfl, hb, he, hsq, hH, hw2⟩
  refine O.mk (v := runV (tvS bt T.length capt) mv) (hw2.rdN_bk 7 rfl (Nat.le_refl 2)) ?_
  refine (k12 hw2 hr hT hn).use ?_
  clear hw2
  rintro _ w3 ⟨lv, rl, bl1, el1, rfl, hb1', he1', hl1, hl2, hl3, hw3⟩
  obtain rfl := BE.uniq hr (.inl rfl) hb hb1'
  obtain rfl := BE.uniq hr (.inr rfl) he he1'
  refine O.mk (v := lv) rfl ?_
  refine O.mk (v := .int .i64 0) rfl ?_
  refine O.mk (v := runV (tvS bt T.length capt) mv) (hw3.rdN_bk 9 rfl (Nat.le_refl 2)) ?_
  refine (k17 hw3 hr hT hn).use ?_
  clear hw3
  rintro _ w4 ⟨pv, l, bl2, el2, rfl, hb2, he2, hRL, hw4⟩
  obtain rfl := BE.uniq hr (.inl rfl) hb hb2
  obtain rfl := BE.uniq hr (.inr rfl) he he2
  refine O.mk (v := pv) rfl ?_
  refine O.mk (v := .int .i64 0) rfl ?_
  (repeat with_reducible first | refine qq ?_ | refine qr ?_ | refine qs ?_)
  refine Bc_dec (fun h => absurd rfl h) (fun _ => ?_)
  (repeat with_reducible first | refine qq ?_ | refine qr ?_ | refine qs ?_)
  refine Bc_dec (fun h => absurd rfl h) (fun _ => ?_)
  -- the order of the parts: run, order, the rest
  have hw5 : Own B w4 (rA (tvS bt T.length capt) mv T M ++ (oA (tvS bt T.length capt) mv hv bv ev ob rows bl el ++ (sl 89 2 pv l.length (l.flatMap encPr) :: sl 59 1 lv rl.length (rl.flatMap encBR) :: sep (rl.map brA) :: bk b1 52 [tvS bt T.length capt, mv] :: L))) := by
    refine hw4.perm (List.Perm.append_left _ ?_)
    exact (List.perm_append_comm (l₁ := [sl 89 2 pv l.length (l.flatMap encPr), sl 59 1 lv rl.length (rl.flatMap encBR), sep (rl.map brA)]) (l₂ := oA (tvS bt T.length capt) mv hv bv ev ob rows bl el)).append_right (bk b1 52 [tvS bt T.length capt, mv] :: L)
  clear hw4
  refine O.mk (hw5.slLen 8 rfl) ?_
  (repeat with_reducible first | refine qq ?_ | refine qr ?_ | refine qs ?_ | refine hw5.l 10 ?_)
  refine O.mk (hw5.slLen 1 rfl) ?_
  rw [hl1]
  (repeat with_reducible first | refine qq ?_ | refine qr ?_ | refine qs ?_)
  refine Bc_dec (fun h => absurd rfl h) (fun _ => ?_)
  refine (k28 hw5 hn hsq hH).use ?_
  clear hw5
  rintro pv2 w5 ⟨l2, hRL2, hw6⟩
  obtain rfl := RaceL.uniq hRL hRL2
  have hll : l.length < 2 ^ 40 := by
    obtain ⟨p, rfl, _⟩ := hRL
    have h1 := List.length_filter_le p (confs M M.length)
    have h2 := confs_len M M.length (Nat.le_refl _)
    have h3 : M.length * M.length ≤ 1200 * 1200 := Nat.mul_le_mul hn hn
    omega
  refine (k27 hw6 8 7 rfl rfl hll).use ?_
  clear hw6
  rintro _ w6 ⟨rfl, hw7⟩
  (repeat with_reducible first | refine qq ?_ | refine qr ?_ | refine qs ?_)
  unfold j10_0
  refine Bc_f ?_
  obtain ⟨F, hF⟩ : ∃ F, F = (rA (tvS bt T.length capt) mv T M ++ (oA (tvS bt T.length capt) mv hv bv ev ob rows bl el ++ (sl 89 2 pv2 l.length (l.flatMap encPr) :: sl 89 2 pv l.length (l.flatMap encPr) :: sl 59 1 lv rl.length (rl.flatMap encBR) :: sep (rl.map brA) :: bk b1 52 [tvS bt T.length capt, mv] :: L))) := ⟨_, rfl⟩
  have g2 : F[2]? = some (bk ob 110 [tvS bt T.length capt, mv, hv, bv, ev]) := by rw [hF]; rfl
  have g3 : F[3]? = some (sl 59 1 hv rows.length (rows.flatMap encBR)) := by rw [hF]; rfl
  have g4 : F[4]? = some (sep (rows.map brA)) := by rw [hF]; rfl
  have g9 : F[9]? = some (sl 59 1 lv rl.length (rl.flatMap encBR)) := by rw [hF]; rfl
  have g10 : F[10]? = some (sep (rl.map brA)) := by rw [hF]; rfl
  have g11 : F[11]? = some (bk b1 52 [tvS bt T.length capt, mv]) := by rw [hF]; rfl
  have g1 : F[1]? = some (sl 67 8 mv M.length (M.flatMap encMK)) := by rw [hF]; rfl
  have hfin : ∀ w', Own B w' F → R (.bool true) w' := fun w' h => by
    rw [hR]
    refine ⟨rfl, ?_⟩
    rw [hF] at h
    exact (((((((((h.drop 11).drop 10).drop 9).drop 8).drop 7).drop 6).drop 5).drop 4).drop 3).drop 2
  have hw8 : Own B w6 F := by rw [hF]; exact hw7
  clear hw7 hF
  have hltH : ∀ a b, HB T M bl el a b → a < b := fun a b h => (h.lt hr hb he).1
  obtain ⟨I0, hI⟩ : ∃ I : Value → World → Prop, I = fun v w' => ∃ (a : Nat), v = .int .i64 a ∧ a ≤ M.length ∧ Own B w' F := ⟨_, rfl⟩
  obtain ⟨m0, hm⟩ : ∃ m : Value → World → Nat, m = fun v _ => match v with | .int _ i => (M.length - i).toNat | _ => 0 := ⟨_, rfl⟩
  refine ⟨I0, m0, by rw [hI]; exact ⟨0, rfl, by omega, hw8⟩, ?_⟩
  clear hw8
  intro t8 wh0 h0
  rw [hI] at h0
  obtain ⟨a, rfl, ha, hw9⟩ := h0
  refine O.mk (hw9.slLen 9 g9) ?_
  rw [hl1]
  (repeat with_reducible first | refine qq ?_ | refine qr ?_ | refine qs ?_)
  refine Bc_dec (fun hlt => ?_) (fun hge => hfin _ hw9)
  refine hw9.dr fun w10 hw10 => ?_
  clear hw9
  have ea : ((a : Int)).toNat = a := by omega
  obtain ⟨r, hrr⟩ := list_get (l := rl) (j := a) (by omega)
  have hrlen := hl2 a r hrr
  obtain ⟨b2, hix, hrd⟩ := hw10.bbrow 9 g9 hrr
  have hx1 := hix .i64 (a : Int) (by omega) ea
  rw [ea] at hx1
  refine O.mk hx1 ?_
  refine O.mk hrd ?_
  refine O.mk (hw10.bblen 10 g10 hrr) ?_
  rw [hrlen]
  (repeat with_reducible first | refine qq ?_ | refine qr ?_ | refine qs ?_)
  refine O.mk (hw10.rd1_bk 11 g11 rfl) ?_
  refine O.mk (hw10.slLen 1 g1) ?_
  (repeat with_reducible first | refine qq ?_ | refine qr ?_ | refine qs ?_)
  refine Bc_dec (fun h => absurd rfl h) (fun _ => ?_)
  obtain ⟨I1, hI1⟩ : ∃ I : Value → World → Prop, I = fun v w' => ∃ (b : Nat), v = .int .i64 b ∧ b ≤ M.length ∧ Own B w' F := ⟨_, rfl⟩
  obtain ⟨m1, hm1⟩ : ∃ m : Value → World → Nat, m = fun v _ => match v with | .int _ i => (M.length - i).toNat | _ => 0 := ⟨_, rfl⟩
  refine ⟨I1, m1, by rw [hI1]; exact ⟨0, rfl, by omega, hw10⟩, ?_⟩
  clear hw10 hrd hix hx1
  intro t9 wh1 h1
  rw [hI1] at h1
  obtain ⟨b, rfl, hb', hw11⟩ := h1
  obtain ⟨b2, hix, hrd⟩ := hw11.bbrow 9 g9 hrr
  have hx1 := hix .i64 (a : Int) (by omega) ea
  rw [ea] at hx1
  refine O.mk hx1 ?_
  refine O.mk hrd ?_
  refine O.mk (hw11.bblen 10 g10 hrr) ?_
  rw [hrlen]
  (repeat with_reducible first | refine qq ?_ | refine qr ?_ | refine qs ?_)
  clear hrd hix hx1
  refine Bc_dec (fun hlb => ?_) (fun hgb => ?_)
  · refine hw11.dr fun w12 hw12 => ?_
    clear hw11
    have eb : ((b : Int)).toNat = b := by omega
    obtain ⟨x, hx⟩ := list_get (l := r.l) (j := b) (by omega)
    obtain ⟨ro, xo, hro, hxo, heo⟩ := hsq.get (a := a) (b := b) (by omega) (by omega)
    obtain ⟨c1', hix1, hrd1⟩ := hw12.bbrow 9 g9 hrr
    obtain ⟨c2', hix2, hrd2⟩ := hw12.bbel 10 g10 hrr hx
    obtain ⟨c3', hix3, hrd3⟩ := hw12.bbrow 3 g3 hro
    obtain ⟨c4', hix4, hrd4⟩ := hw12.bbel 4 g4 hro hxo
    have hx1 := hix1 .i64 (a : Int) (by omega) ea
    have hx2 := hix2 .i64 (b : Int) (by omega) eb
    have hx3 := hix3 .i64 (a : Int) (by omega) ea
    have hx4 := hix4 .i64 (b : Int) (by omega) eb
    rw [ea] at hx1 hx3
    rw [eb] at hx2 hx4
    have hxe : HasB rl a b = x := by rw [HasB_row hrr, hx]; rfl
    have hxx : x = xo := by
      have h1 := hl3 a b (by omega) (by omega)
      have h2 := hH a b
      rw [hxe] at h1
      rw [heo] at h2
      rw [Bool.eq_iff_iff, h1, h2]
    refine O.mk hx1 ?_
    refine O.mk hrd1 ?_
    refine O.mk hx2 ?_
    refine O.mk hrd2 ?_
    (repeat with_reducible first | refine qq ?_ | refine qr ?_ | refine qs ?_)
    refine O.mk (hw12.rd1_bk 2 g2 rfl) ?_
    refine O.mk hx3 ?_
    refine O.mk hrd3 ?_
    refine O.mk hx4 ?_
    refine O.mk hrd4 ?_
    have hbb : bb .neq (.bool x) (.bool xo) = some (.bool false) := by rw [hxx]; simp [bb]
    refine O.mk hbb ?_
    refine Bc_f ?_
    have JN : j10_1 R (.int .i64 b) I1 m1 wh1 (.bool false) w12 := by
      unfold j10_1
      refine Bc_f ?_
      refine O.mk (bi_addb (a := b) (b := 1) (by omega)) ?_
      rw [hI1, hm1]
      exact ⟨⟨b + 1, rfl, by omega, hw12⟩, by simp only; omega⟩
    refine O.mk hx1 ?_
    refine O.mk hrd1 ?_
    refine O.mk hx2 ?_
    refine O.mk hrd2 ?_
    refine Bc_b (fun h => ?_) (fun _ => JN)
    have hab := hltH a b ((hl3 a b (by omega) (by omega)).1 (by rw [hxe]; exact h))
    (repeat with_reducible first | refine qq ?_ | refine qr ?_ | refine qs ?_)
    rw [decide_eq_false (by omega)]
    exact JN
  · refine O.mk (bi_addb (a := a) (b := 1) (by omega)) ?_
    rw [hI, hm]
    exact ⟨⟨a + 1, rfl, by omega, hw11⟩, by simp only; omega⟩
end
end Go.Proofs.Ytedcfkigfcobaaa
end
/- The chapter's rows: a run of two tasks. -/
section
namespace Go.Proofs.Ytedcfkigfcobaaa
open Go Go.Proofs
attribute [local irreducible] Bc O AL BS MS MM ST AP CV Cl
def twoT (lo : Int) : List TK := [⟨1, 0, 0, 0, 0, 0, 0, false, 0, 0, 0, 0, 0, -1, 0⟩, ⟨4, 0, 0, 0, lo, 1, 0, false, 0, 0, 0, 0, 0, 1, 0⟩]
def twoM : List MK := [⟨1, 1, 0, 0, 0, 0, 0, false⟩, ⟨4, 1, 2, 0, 0, 0, 0, false⟩, ⟨3, 1, 0, 0, 1, 0, 0, true⟩, ⟨2, 1, 0, 0, 0, 0, 0, false⟩, ⟨1, 2, 0, 0, 0, 0, 0, false⟩, ⟨3, 2, 0, 0, 1, 0, 0, false⟩]
theorem two_marks {j : Nat} {n : MK} (h : twoM[j]? = some n) : (j = 0 ∧ n.kind = 1 ∧ n.task = 1 ∧ n.other = 0) ∨ (j = 1 ∧ n.kind = 4 ∧ n.task = 1 ∧ n.other = 2) ∨ (j = 2 ∧ n.kind = 3 ∧ n.task = 1 ∧ n.other = 0) ∨ (j = 3 ∧ n.kind = 2 ∧ n.task = 1 ∧ n.other = 0) ∨ (j = 4 ∧ n.kind = 1 ∧ n.task = 2 ∧ n.other = 0) ∨ (j = 5 ∧ n.kind = 3 ∧ n.task = 2 ∧ n.other = 0) := by
  unfold twoM at h
  match j, h with
  | 0, h => cases h; simp
  | 1, h => cases h; simp
  | 2, h => cases h; simp
  | 3, h => cases h; simp
  | 4, h => cases h; simp
  | 5, h => cases h; simp
  | j + 6, h => simp at h
theorem two_tasks {lo : Int} {j : Nat} {t : TK} (h : (twoT lo)[j]? = some t) : (j = 0 ∧ t.kind = 1 ∧ t.looper = 0 ∧ t.mark = -1 ∧ t.prev = 0 ∧ t.by_ = 0) ∨ (j = 1 ∧ t.kind = 4 ∧ t.looper = lo ∧ t.mark = 1 ∧ t.prev = 0 ∧ t.by_ = 1) := by
  unfold twoT at h
  match j, h with
  | 0, h => cases h; simp
  | 1, h => cases h; simp
  | j + 2, h => simp at h
theorem two_ok {lo : Int} (hlo : 0 ≤ lo) : RunOK (twoT lo) twoM := by
  refine ⟨fun i t ht => ?_, fun i m hm => ?_, fun a b m n t u hab ha hb k1 k2 ht hu h0 hl => ?_⟩
  · rcases two_tasks ht with ⟨rfl, h1, h2, h3, h4, h5⟩ | ⟨rfl, h1, h2, h3, h4, h5⟩
    · refine ⟨by omega, by omega, by omega, by omega, by omega, fun j n _ _ => by omega, .inl h4⟩
    · refine ⟨by omega, by omega, by omega, fun _ => ⟨by omega, ⟨4, 1, 2, 0, 0, 0, 0, false⟩, by rw [h3]; rfl, by rw [h1], rfl⟩, by omega, fun j n hj hn => ?_, .inl h4⟩
      rcases two_marks hj with h | h | h | h | h | h <;> omega
  · have hlen : (twoT lo).length = 2 := rfl
    have fst0 : ∀ (x : Int), (∀ (j : Nat) (n : MK), j < i → twoM[j]? = some n → ¬ (n.task = x ∧ n.kind = 1)) → x = 1 → 0 < i → False := fun x h hx hi => h 0 _ hi rfl ⟨hx.symm, rfl⟩
    refine ⟨?_, ?_, ?_, fun j n hj hn ht h2 => ?_, fun hk => ?_, fun hk => ?_, fun hk => ?_⟩
    · rw [hlen]; rcases two_marks hm with h | h | h | h | h | h <;> omega
    · rcases two_marks hm with h | h | h | h | h | h <;> omega
    · constructor
      · intro h1 j n hj hn ⟨h2, h3⟩
        rcases two_marks hm with h | h | h | h | h | h <;> rcases two_marks hn with g | g | g | g | g | g <;> omega
      · intro h1
        rcases two_marks hm with h | h | h | h | h | h
        · exact h.2.1
        · exact (fst0 _ h1 (by omega) (by omega)).elim
        · exact (fst0 _ h1 (by omega) (by omega)).elim
        · exact (fst0 _ h1 (by omega) (by omega)).elim
        · exact h.2.1
        · exact absurd ⟨by rw [h.2.2.1], rfl⟩ (h1 4 _ (by omega) rfl)
    · rcases two_marks hm with h | h | h | h | h | h <;> rcases two_marks hn with g | g | g | g | g | g <;> omega
    · rcases two_marks hm with h | h | h | h | h | h
      · omega
      · refine ⟨by omega, ⟨4, 0, 0, 0, lo, 1, 0, false, 0, 0, 0, 0, 0, 1, 0⟩, by rw [h.2.2.2]; rfl, by rw [h.2.1], by rw [h.2.2.1], by rw [h.1]; rfl, fun j n hj hn => ?_⟩
        rcases two_marks hn with g | g | g | g | g | g <;> omega
      · omega
      · omega
      · omega
      · omega
    · rcases two_marks hm with h | h | h | h | h | h <;> omega
    · rcases two_marks hm with h | h | h | h | h | h <;> omega
  · refine ⟨3, ⟨2, 1, 0, 0, 0, 0, 0, false⟩, ?_, rfl, ?_, rfl⟩
    · rcases two_marks ha with h | h | h | h | h | h <;> rcases two_marks hb with g | g | g | g | g | g <;> omega
    · rcases two_marks ha with h | h | h | h | h | h <;> rcases two_marks hb with g | g | g | g | g | g <;> first | omega | (rw [h.2.2.1])
theorem two_bl {lo : Int} : BE (twoT lo) twoM twoM.length 1 [-1, 0, 4] := by
  refine ⟨rfl, fun x v hv => ?_⟩
  match x, hv with
  | 0, hv =>
    cases hv
    refine .inl ⟨rfl, fun j n _ hn => ?_⟩
    rcases two_marks hn with h | h | h | h | h | h <;> intro g <;> omega
  | 1, hv => cases hv; exact .inr ⟨0, _, rfl, by decide, rfl, rfl, rfl⟩
  | 2, hv => cases hv; exact .inr ⟨4, _, rfl, by decide, rfl, rfl, rfl⟩
  | x + 3, hv => simp at hv
theorem two_el {lo : Int} : BE (twoT lo) twoM twoM.length 2 [-1, 3, -1] := by
  refine ⟨rfl, fun x v hv => ?_⟩
  match x, hv with
  | 0, hv =>
    cases hv
    refine .inl ⟨rfl, fun j n _ hn => ?_⟩
    rcases two_marks hn with h | h | h | h | h | h <;> intro g <;> omega
  | 1, hv => cases hv; exact .inr ⟨3, _, rfl, by decide, rfl, rfl, rfl⟩
  | 2, hv =>
    cases hv
    refine .inl ⟨rfl, fun j n _ hn => ?_⟩
    rcases two_marks hn with h | h | h | h | h | h <;> intro g <;> omega
  | x + 3, hv => simp at hv
theorem two_conf : confs twoM twoM.length = [(2, 5)] := by decide
theorem bl3 {x : Nat} {v : Int} (h : ([-1, 0, 4] : List Int)[x]? = some v) : (x = 0 ∧ v = -1) ∨ (x = 1 ∧ v = 0) ∨ (x = 2 ∧ v = 4) := by
  match x, h with
  | 0, h => cases h; simp
  | 1, h => cases h; simp
  | 2, h => cases h; simp
  | x + 3, h => simp at h
theorem two_no : ¬ HB (twoT 1) twoM [-1, 0, 4] [-1, 3, -1] 2 5 := by
  intro h
  have := h (fun a b => a < b ∧ ¬ (2 ≤ a ∧ a ≤ 3 ∧ 4 ≤ b)) {
    task := fun i k m n h1 h2 h3 h4 => by
      rcases two_marks h2 with g | g | g | g | g | g <;> rcases two_marks h3 with g' | g' | g' | g' | g' | g' <;> omega
    join := fun i m e h1 h2 => by
      rcases two_marks h1 with g | g | g | g | g | g <;> omega
    mark := fun i t b h1 h2 h3 h4 => by
      rcases two_tasks h1 with ⟨g1, g2, g3, g4, g5, g6⟩ | ⟨g1, g2, g3, g4, g5, g6⟩ <;> rcases bl3 h3 with ⟨q1, q2⟩ | ⟨q1, q2⟩ | ⟨q1, q2⟩ <;> omega
    prev := fun i t e b h1 h2 => by
      rcases two_tasks h1 with g | g <;> omega
    trans := fun a b c h1 h2 => by omega
    rule := fun a b x y e s h1 h2 h3 h4 h5 => by
      rcases two_tasks h2 with g | g <;> rcases two_tasks h3 with g' | g' <;> omega }
  omega
theorem two_yes : HB (twoT 0) twoM [-1, 0, 4] [-1, 3, -1] 2 5 := by
  have hC := HB.closed (T := twoT 0) (M := twoM) (bl := [-1, 0, 4]) (el := [-1, 3, -1])
  have h01 := hC.task 0 1 _ _ (by decide) rfl rfl rfl
  have h14 := hC.mark 1 ⟨4, 0, 0, 0, 0, 1, 0, false, 0, 0, 0, 0, 0, 1, 0⟩ 4 rfl (by decide) rfl (by decide)
  have h04 := hC.trans 0 1 4 h01 h14
  have h34 := hC.rule 0 1 ⟨1, 0, 0, 0, 0, 0, 0, false, 0, 0, 0, 0, 0, -1, 0⟩ ⟨4, 0, 0, 0, 0, 1, 0, false, 0, 0, 0, 0, 0, 1, 0⟩ 3 4 (by decide) rfl rfl (by decide) rfl rfl rfl (by decide) (by decide) (.inr ⟨0, rfl, by decide, h04⟩)
  have h23 := hC.task 2 3 _ _ (by decide) rfl rfl rfl
  have h45 := hC.task 4 5 _ _ (by decide) rfl rfl rfl
  exact hC.trans 2 3 5 h23 (hC.trans 3 4 5 h34 h45)
theorem two_races1 {bl el : List Int} {l : List (Nat × Nat)} (hb : BE (twoT 1) twoM twoM.length 1 bl) (he : BE (twoT 1) twoM twoM.length 2 el) (h : RaceL (twoT 1) twoM bl el l) : l = [(2, 5)] := by
  have hr := two_ok (lo := 1) (by decide)
  obtain rfl := BE.uniq hr (.inl rfl) hb two_bl
  obtain rfl := BE.uniq hr (.inr rfl) he two_el
  obtain ⟨p, rfl, hp⟩ := h
  rw [two_conf]
  have h1 : p (2, 5) = true := (hp 2 5 (by decide) (by decide)).2 ⟨two_no, fun h => by have := (h.lt hr hb he).1; omega⟩
  simp [h1]
theorem two_races0 {bl el : List Int} {l : List (Nat × Nat)} (hb : BE (twoT 0) twoM twoM.length 1 bl) (he : BE (twoT 0) twoM twoM.length 2 el) (h : RaceL (twoT 0) twoM bl el l) : l = [] := by
  have hr := two_ok (lo := 0) (by decide)
  obtain rfl := BE.uniq hr (.inl rfl) hb two_bl
  obtain rfl := BE.uniq hr (.inr rfl) he two_el
  obtain ⟨p, rfl, hp⟩ := h
  rw [two_conf]
  have h1 : p (2, 5) = false := by
    rcases hq : p (2, 5) with _ | _
    · rfl
    · exact absurd two_yes ((hp 2 5 (by decide) (by decide)).1 hq).1
  simp [h1]
end Go.Proofs.Ytedcfkigfcobaaa
end
/- Contracts: the chapter's rows hold. -/
section
namespace Go.Proofs.Ytedcfkigfcobaaa
open Go Go.Proofs
attribute [local irreducible] Bc O AL BS MS MM ST AP CV Cl
theorem fill63one : (fillW Try.prog 63 [(0, .int .i64 1)]).map Value.agg = some (.agg #[.int .i64 1, .int .i64 0, .int .i64 0]) := by kernel_rfl
theorem fill73main : (fillW Try.prog 73 [(0, .int .i64 1), (13, .int .i64 (-1))]).map Value.agg = some (.agg (encTK ⟨1, 0, 0, 0, 0, 0, 0, false, 0, 0, 0, 0, 0, -1, 0⟩).toArray) := by kernel_rfl
theorem fill73post (lo : Int) : (fillW Try.prog 73 [(0, .int .i64 4), (5, .int .i64 1), (13, .int .i64 1), (4, .int .i64 lo)]).map Value.agg = some (.agg (encTK ⟨4, 0, 0, 0, lo, 1, 0, false, 0, 0, 0, 0, 0, 1, 0⟩).toArray) := by kernel_rfl
theorem fill67two (k t : Int) : (fillW Try.prog 67 [(0, .int .i64 k), (1, .int .i64 t)]).map Value.agg = some (.agg (encMK ⟨k, t, 0, 0, 0, 0, 0, false⟩).toArray) := by kernel_rfl
theorem fill65w : (fillW Try.prog 65 [(1, .agg #[.int .i64 1, .int .i64 0, .int .i64 0]), (2, .bool true)]).map Value.agg = some (.agg (encAC ⟨0, 1, 0, 0, true⟩).toArray) := by kernel_rfl
theorem fill65r : (fillW Try.prog 65 [(1, .agg #[.int .i64 1, .int .i64 0, .int .i64 0])]).map Value.agg = some (.agg (encAC ⟨0, 1, 0, 0, false⟩).toArray) := by kernel_rfl
theorem bsx_two (a b : TK) : bsx 73 15 2 (.agg #[.int .i64 0, .int .i64 0, .int .i64 0, .int .i64 0, .int .i64 0, .int .i64 0, .int .i64 0, .bool false, .int .i64 0, .int .i64 0, .int .i64 0, .int .i64 0, .int .i64 0, .int .i64 0, .int .i64 0]) [(0, .agg (encTK a).toArray), (1, .agg (encTK b).toArray)] = some (.cells (encTK a ++ encTK b).toArray 73, fun n => .slice (some ⟨n, 0, none⟩) 2 2) := by kernel_rfl
theorem bsx_six (a b c d e f : MK) : bsx 67 8 6 (.agg #[.int .i64 0, .int .i64 0, .int .i64 0, .int .i64 0, .int .i64 0, .int .i64 0, .int .i64 0, .bool false]) [(0, .agg (encMK a).toArray), (1, .agg (encMK b).toArray), (2, .agg (encMK c).toArray), (3, .agg (encMK d).toArray), (4, .agg (encMK e).toArray), (5, .agg (encMK f).toArray)] = some (.cells (encMK a ++ encMK b ++ encMK c ++ encMK d ++ encMK e ++ encMK f).toArray 67, fun n => .slice (some ⟨n, 0, none⟩) 6 6) := by kernel_rfl
section
variable {B : Base} {w : World} {L : List Atom}
set_option maxRecDepth 4000 in
theorem k18 (hw : Own B w L) (lo : Int) : Cl Try.prog 18 [.int .i64 lo] w fun v w' => ∃ (bt : Nat) (mv : Value), v = runV (tvS bt (twoT lo).length 2) mv ∧ Own B w' (rA (tvS bt (twoT lo).length 2) mv (twoT lo) twoM ++ L) := by
  refine s18 ?_
  unfold c18
  refine hw.al fun b2 w1 hb2 hw1 => ?_
  clear hw
  refine O.mk fill63one ?_
  refine hw1.al fun b3 w2 hb3 hw2 => ?_
  clear hw1
  refine hw2.st_bk (x := .agg #[.int .i64 1, .int .i64 0, .int .i64 0]) 0 rfl (by kernel_rfl) rfl (Nat.le_refl 3) fun w3 hw3 => ?_
  clear hw2
  refine O.mk fill73main ?_
  refine O.mk (fill73post lo) ?_
  refine hw3.bs (bsx_two _ _) fun bt w4 hbt hw4 => ?_
  clear hw3
  refine O.mk (fill67two 1 1) ?_
  refine O.mk (fill67 4 1 2) ?_
  refine O.mk (v := .agg #[.int .i64 1, .int .i64 0, .int .i64 0]) (hw4.rdN_bk 1 rfl (Nat.le_refl 3)) ?_
  refine O.mk fill65w ?_
  refine O.mk (fill67a 1 ⟨0, 1, 0, 0, true⟩) ?_
  refine O.mk (fill67two 2 1) ?_
  refine O.mk (fill67two 1 2) ?_
  refine O.mk (v := .agg #[.int .i64 1, .int .i64 0, .int .i64 0]) (hw4.rdN_bk 1 rfl (Nat.le_refl 3)) ?_
  refine O.mk fill65r ?_
  refine O.mk (fill67a 2 ⟨0, 1, 0, 0, false⟩) ?_
  refine hw4.bs (bsx_six _ _ _ _ _ _) fun bm w5 hbm hw5 => ?_
  clear hw4
  refine O.mk (fill52 rfl rfl) ?_
  refine hw5.st_bk (x := runV (.slice (some ⟨bt, 0, none⟩) 2 2) (.slice (some ⟨bm, 0, none⟩) 6 6)) 3 rfl (by kernel_rfl) rfl (Nat.le_refl 2) fun w6 hw6 => ?_
  clear hw5
  refine O.mk (v := runV (.slice (some ⟨bt, 0, none⟩) 2 2) (.slice (some ⟨bm, 0, none⟩) 6 6)) (hw6.rdN_bk 3 rfl (Nat.le_refl 2)) ?_
  refine ⟨bt, .slice (some ⟨bm, 0, none⟩) 6 6, rfl, ?_⟩
  have h1 := hw6.imp (i := 0) rfl (A' := sl 67 8 (.slice (some ⟨bm, 0, none⟩) 6 6) 6 (twoM.flatMap encMK)) (fun g hg => bk_sl rfl g hg)
  have h2 := h1.imp (i := 1) rfl (A' := sl 73 15 (.slice (some ⟨bt, 0, none⟩) 2 2) 2 ((twoT lo).flatMap encTK)) (fun g hg => bk_sl rfl g hg)
  have h3 := (h2.drop 2).drop 2
  exact h3.perm (List.Perm.swap _ _ _)
theorem k7 (hw : Own B w L) : Cl Try.prog 7 [] w fun v w' => v = .bool true ∧ Own B w' L := by
  refine s7 ?_
  unfold c7
  refine (k18 hw 1).use ?_
  clear hw
  rintro _ w1 ⟨bt, mv, rfl, hw1⟩
  refine (k17 hw1 (two_ok (by decide)) (by decide) (by decide)).use ?_
  clear hw1
  rintro _ w2 ⟨pv, l, bl, el, rfl, hb, he, hR, hw2⟩
  obtain rfl := two_races1 hb he hR
  refine O.mk (v := pv) rfl ?_
  refine O.mk (v := .int .i64 0) rfl ?_
  refine (k18 hw2 0).use ?_
  clear hw2
  rintro _ w3 ⟨bt', mv', rfl, hw3⟩
  refine (k17 hw3 (two_ok (by decide)) (by decide) (by decide)).use ?_
  clear hw3
  rintro _ w4 ⟨pv', l', bl', el', rfl, hb', he', hR', hw4⟩
  obtain rfl := two_races0 hb' he' hR'
  refine O.mk (v := pv') rfl ?_
  refine O.mk (v := .int .i64 0) rfl ?_
  (repeat with_reducible first | refine qq ?_ | refine qr ?_ | refine qs ?_)
  refine Bc_dec (fun _ => ?_) (fun h => absurd rfl h)
  (repeat with_reducible first | refine qq ?_ | refine qr ?_ | refine qs ?_)
  refine Bc_dec (fun _ => ?_) (fun h => absurd rfl h)
  refine O.mk (hw4.slLen 5 rfl) ?_
  (repeat with_reducible first | refine qq ?_ | refine qr ?_ | refine qs ?_)
  refine Bc_dec (fun _ => ?_) (fun h => absurd rfl h)
  obtain ⟨b1, hix, _, hrd⟩ := hw4.el 5 rfl encPr_len (i := 0) (x := (2, 5)) rfl
  have hx := hix .i64 0 (by decide) rfl
  refine O.mk hx ?_
  refine O.mk hrd ?_
  refine O.mk (fill89 2 5) ?_
  have hbe : be 2 .eql (.agg (encPr (2, 5)).toArray) (.agg #[.int .i64 2, .int .i64 5]) = some (.bool true) := by rfl
  refine O.mk hbe ?_
  refine Bc_t ?_
  refine O.mk (hw4.slLen 2 rfl) ?_
  (repeat with_reducible first | refine qq ?_ | refine qr ?_ | refine qs ?_)
  exact ⟨rfl, (((((hw4.drop 0).drop 0).drop 0).drop 0).drop 0).drop 0⟩
end
end Go.Proofs.Ytedcfkigfcobaaa
end
/- Contracts: the statement of a machine's order. -/
section
namespace Go.Proofs.Ytedcfkigfcobaaa
open Go Go.Proofs
attribute [local irreducible] Bc O AL BS MS MM ST AP CV Cl
theorem beginMarks_len (id : Int) (t : TK) : (beginMarks id t).length ≤ 2 := by
  unfold beginMarks
  split <;> simp
theorem StepC.len {p : PP} {c c' : CS} {id : Int} {over : Bool} (h : StepC p c id over c') : c'.M.length ≤ c.M.length + 4 ∧ c.T.length ≤ c'.T.length ∧ c'.T.length ≤ c.T.length + 1 := by
  obtain ⟨acc, h1, _, c2, hd, hc⟩ := h
  have h2 := hd.len
  have h3 := hd.grow
  simp only [List.length_append] at h2
  have h4 : ({ c with M := c.M ++ acc } : CS).T.length = c.T.length := rfl
  rcases hc with ⟨_, rfl⟩ | ⟨_, t, tr, _, rfl⟩
  · exact ⟨by omega, by omega, by omega⟩
  · simp only [List.length_append, List.length_set, List.length_singleton]
    exact ⟨by omega, by omega, by omega⟩
theorem OpC.len {p : PP} {c c' : CS} (h : OpC p c c') : c'.M.length ≤ c.M.length + 4 ∧ c.T.length ≤ c'.T.length ∧ c'.T.length ≤ c.T.length + 1 := by
  cases h with
  | same => exact ⟨by omega, by omega, by omega⟩
  | tick n => exact ⟨Nat.le_add_right _ _, Nat.le_refl _, Nat.le_succ _⟩
  | take lo l l' i x t =>
    have := beginMarks_len x.task t
    unfold beginC
    simp only [List.length_append, List.length_set]
    exact ⟨by omega, by omega, by omega⟩
  | start id t =>
    have := beginMarks_len id t
    unfold beginC
    simp only [List.length_append, List.length_set]
    exact ⟨by omega, by omega, by omega⟩
  | step lo r over c1 _ _ h =>
    have := h.len
    cases over <;> exact this
  | work id t over c1 _ _ _ _ h => exact h.len
  | event => simp
  | life => simp
structure EN where
  kind : Int
  at_ : Int
  n : Int
def encEN (e : EN) : List Value := [.int .i64 e.kind, .int .i64 e.at_, .int .i64 e.n]
theorem encEN_len (e : EN) : (encEN e).length = 3 := rfl
section
variable {B : Base} {w : World} {L : List Atom} {p : PP}
/-- a machine in the midst of its entries -/
structure Mid (p : PP) (s : Mc) (i : Nat) : Prop where
  ok : SOK p s
  ci : CI p s.core
  ne : NE s
  t1 : 1 ≤ s.T.length
  t2 : s.T.length ≤ i + 1
  m : s.M.length ≤ 158
theorem Fresh.mid (hMy : MayP p) {s : Mc} (h : Fresh p s) : Mid p s 0 := by
  refine ⟨h.ok, h.ci hMy, fun _ i th t h1 _ _ => h.ne i th h1, by rw [h.T]; exact Nat.le_refl 1, by rw [h.T]; exact Nat.le_refl 1, by rw [h.M]; decide⟩
theorem Did.mid (hMy : MayP p) {s s' : Mc} {i : Nat} (h : Mid p s i) (hm : s.M.length < 155) (hd : Did p s s') : Mid p s' (i + 1) := by
  have hl := hd.core.len
  have e1 : s.core.T.length = s.T.length := rfl
  have e2 : s'.core.T.length = s'.T.length := rfl
  have e3 : s.core.M.length = s.M.length := rfl
  have e4 : s'.core.M.length = s'.M.length := rfl
  have h1 := h.t1
  have h2 := h.t2
  exact ⟨hd.ok, h.ci.op hMy hd.core, hd.ne, by omega, by omega, by omega⟩
set_option maxHeartbeats 4000000 in
set_option maxRecDepth 4000 in
theorem k3 (hP : ProgOK B p) (hbd : p.nl < 2 ^ 48 ∧ p.ng < 2 ^ 48) {ev : Value} {es : List EN} (hE : osl B 3 ev es.length (es.flatMap encEN)) (hw : Own B w L) :
    Cl Try.prog 3 [progV p, ev] w fun v w' => v = .bool true ∧ Own B w' [] := by
  obtain ⟨R, hR⟩ : ∃ R : Value → World → Prop, R = fun v w' => v = .bool true ∧ Own B w' [] := ⟨_, rfl⟩
  rw [← hR]
  have hnil : ∀ {w' : World} {L' : List Atom}, Own B w' L' → Own B w' [] := fun h => h.mono fun _ _ => trivial
  have hfin : ∀ {w' : World} {L' : List Atom}, Own B w' L' → Cl Try.prog 7 [] w' fun t46 w => R t46 w := fun h => by
    refine (k7 (hnil h)).use ?_
    rintro _ w2 ⟨rfl, h2⟩
    rw [hR]; exact ⟨rfl, h2⟩
  refine s3 ?_
  unfold c3
  refine hw.al fun b2 w1 hb2 hw1' => ?_
  have hw1 : Own B w1 (bk b2 30 (pcells p) :: L) := hw1'
  clear hw1' hw
  refine O.mk (v := progV p) (hw1.rdN_bk 0 rfl (Nat.le_refl 8)) ?_
  refine (k5 hP hbd hw1).use ?_
  clear hw1
  rintro _ w2 ⟨c, rfl, hw2⟩
  have J0 : ∀ c w3, (c = false → MayP p ∧ es.length ≤ 120) → Own B w3 (bk b2 30 (pcells p) :: L) → j3_0 R (pp b2) ev (.bool c) w3 := by
    intro c w3 hc hw3
    unfold j3_0
    refine Bc_b (fun _ => hfin hw3) (fun h => ?_)
    obtain ⟨hMy, hes⟩ := hc h
    refine O.mk (v := progV p) (hw3.rdN_bk 0 rfl (Nat.le_refl 8)) ?_
    refine (k8 hP hMy hw3).use ?_
    clear hw3
    rintro _ w4 ⟨s0, rfl, hF, hw4⟩
    obtain ⟨mb, hmb⟩ : ∃ mb, mb = s0.b := ⟨_, rfl⟩
    rw [← hmb]
    obtain ⟨I0, hI⟩ : ∃ I : Value → World → Prop, I = fun v w' => ∃ (i : Nat) (s : Mc), v = .int .i64 i ∧ i ≤ es.length ∧ s.b = mb ∧ Mid p s i ∧ Own B w' (mAtoms p s ++ (bk b2 30 (pcells p) :: L)) := ⟨_, rfl⟩
    obtain ⟨m0, hm⟩ : ∃ m : Value → World → Nat, m = fun v _ => match v with | .int _ i => (es.length - i).toNat | _ => 0 := ⟨_, rfl⟩
    refine ⟨I0, m0, by rw [hI]; exact ⟨0, s0, rfl, by omega, hmb.symm, hF.mid hMy, hw4⟩, ?_⟩
    clear hw4 hF hmb
    intro t6 wh0 h0
    rw [hI] at h0
    obtain ⟨i, s, rfl, hi, hsb, hmid, hw5⟩ := h0
    have hend : j3_1 R ev (.int .i64 i) (pp mb) I0 m0 wh0 (.bool false) wh0 := by
      unfold j3_1
      refine Bc_f ?_
      rw [← hsb]
      refine (k11 hw5).use ?_
      clear hw5
      rintro _ w6 ⟨rfl, hw6⟩
      obtain ⟨bt, capt, htv⟩ := hw6.slShape 6 rfl (by have := hmid.t1; omega)
      have hw7 := (hw6.pull 11 rfl).pull 7 rfl
      have hw8 : Own B w6 (rA s.tv s.mv s.T s.M ++ (((mAtoms p s ++ (bk b2 30 (pcells p) :: L)).eraseIdx 11).eraseIdx 6)) := hw7
      clear hw7 hw6
      have ht2 := hmid.t2
      have hm2 := hmid.m
      have hk : Cl Try.prog 10 [runV s.tv s.mv] w6 fun v w' => v = .bool true ∧ Own B w' [] := by
        rw [htv] at hw8 ⊢
        refine (k10 hw8 hmid.ci.run (by have : s.core.T.length = s.T.length := rfl; show s.T.length ≤ 256; omega) (by show s.M.length ≤ 1200; omega)).use ?_
        rintro _ w7 ⟨rfl, h7⟩
        exact ⟨rfl, hnil h7⟩
      refine hk.use ?_
      rintro _ w7 ⟨rfl, hw9⟩
      exact Bc_t (hfin hw9)
    refine O.mk hE.len ?_
    (repeat with_reducible first | refine qq ?_ | refine qr ?_ | refine qs ?_)
    refine Bc_dec (fun hlt => ?_) (fun hge => hend)
    rw [← hsb]
    (repeat with_reducible first | refine qq ?_ | refine qr ?_ | refine qs ?_ | refine hw5.l 0 ?_)
    refine O.mk (hw5.slLen 11 rfl) ?_
    (repeat with_reducible first | refine qq ?_ | refine qr ?_ | refine qs ?_)
    by_cases hm155 : (s.M.length : Int) < 155
    · rw [decide_eq_true hm155, hsb]
      unfold j3_1
      refine Bc_t ?_
      obtain ⟨e, he⟩ := list_get (l := es) (j := i) (by omega)
      obtain ⟨b, o, hix, _, hrdN⟩ := hE.at_ (by omega) encEN_len he
      have hx := hix .i64 (i : Int) (by omega) (by omega)
      rw [show ((i : Int)).toNat = i by omega] at hx
      refine O.mk hx ?_
      refine O.mk (hrdN _ _ hw5) ?_
      rw [← hsb]
      have ht2 := hmid.t2
      refine (k9 hP hMy hw5 hmid.ok hmid.ci hmid.ne (by omega) (by omega) e.kind e.at_ e.n).use ?_
      rintro _ w6 ⟨er, s', rfl, hd, hw6⟩
      refine O.mk (bi_addb (a := i) (b := 1) (by omega)) ?_
      rw [hI, hm]
      exact ⟨⟨i + 1, s', rfl, by omega, hd.b.trans hsb, hd.mid hMy hmid (by omega), hw6⟩, by simp only; omega⟩
    · rw [decide_eq_false hm155, hsb]
      exact hend
  refine Bc_b (fun _ => J0 true w2 (fun h => by cases h) hw2) (fun _ => ?_)
  refine O.mk (v := progV p) (hw2.rdN_bk 0 rfl (Nat.le_refl 8)) ?_
  refine (k6 hP hw2).use ?_
  clear hw2
  rintro _ w3 ⟨c6, rfl, hc6, hw3⟩
  (repeat with_reducible first | refine qq ?_ | refine qr ?_ | refine qs ?_)
  refine Bc_b (fun _ => J0 true w3 (fun h => by cases h) hw3) (fun h6 => ?_)
  have h6' : c6 = true := by simpa using h6
  refine O.mk hE.len ?_
  (repeat with_reducible first | refine qq ?_ | refine qr ?_ | refine qs ?_)
  refine J0 _ w3 (fun h => ⟨hc6 h6', ?_⟩) hw3
  have := of_decide_eq_false h
  omega
end
end Go.Proofs.Ytedcfkigfcobaaa
end
/- What comes in: the program's parts one by one, the program, the entries. -/
section
namespace Go.Proofs.Ytedcfkigfcobaaa
open Go Go.Proofs
attribute [local irreducible] Bc O AL BS MS MM ST AP CV Cl
theorem z3 : Try.prog.cellsOf 3 = 1 := by kernel_rfl
theorem z2 : Try.prog.cellsOf 2 = 1 := by kernel_rfl
theorem z4 : Try.prog.cellsOf 4 = 1 := by kernel_rfl
theorem z9 : Try.prog.cellsOf 9 = 1 := by kernel_rfl
theorem z22 : Try.prog.cellsOf 22 = 1 := by kernel_rfl
theorem z23 : Try.prog.cellsOf 23 = 1 := by kernel_rfl
theorem z24 : Try.prog.cellsOf 24 = 1 := by kernel_rfl
theorem z25 : Try.prog.cellsOf 25 = 1 := by kernel_rfl
theorem z26 : Try.prog.cellsOf 26 = 1 := by kernel_rfl
theorem z27 : Try.prog.cellsOf 27 = 1 := by kernel_rfl
theorem z28 : Try.prog.cellsOf 28 = 1 := by kernel_rfl
theorem z30 : Try.prog.cellsOf 30 = 8 := by kernel_rfl
theorem z39 : Try.prog.cellsOf 39 = 1 := by kernel_rfl
theorem z47 : Try.prog.cellsOf 47 = 1 := by kernel_rfl
theorem z49 : Try.prog.cellsOf 49 = 3 := by kernel_rfl
theorem z74 : Try.prog.cellsOf 74 = 1 := by kernel_rfl
theorem z76 : Try.prog.cellsOf 76 = 4 := by kernel_rfl
theorem z77 : Try.prog.cellsOf 77 = 1 := by kernel_rfl
theorem z79 : Try.prog.cellsOf 79 = 8 := by kernel_rfl
theorem z83 : Try.prog.cellsOf 83 = 2 := by kernel_rfl
theorem z94 : Try.prog.cellsOf 94 = 4 := by kernel_rfl
theorem z117 : Try.prog.cellsOf 117 = 1 := by kernel_rfl
theorem z119 : Try.prog.cellsOf 119 = 3 := by kernel_rfl
theorem z120 : Try.prog.cellsOf 120 = 4 := by kernel_rfl
theorem z122 : Try.prog.cellsOf 122 = 6 := by kernel_rfl
theorem pos_le {n : Nat} (h : decide (1 ≤ n) = true) : 1 ≤ n := of_decide_eq_true h
theorem y3 : 1 ≤ Try.prog.bytesOf 3 := pos_le (by kernel_rfl)
theorem y9 : 1 ≤ Try.prog.bytesOf 9 := pos_le (by kernel_rfl)
theorem y49 : 1 ≤ Try.prog.bytesOf 49 := pos_le (by kernel_rfl)
theorem y76 : 1 ≤ Try.prog.bytesOf 76 := pos_le (by kernel_rfl)
theorem y79 : 1 ≤ Try.prog.bytesOf 79 := pos_le (by kernel_rfl)
theorem y83 : 1 ≤ Try.prog.bytesOf 83 := pos_le (by kernel_rfl)
theorem y94 : 1 ≤ Try.prog.bytesOf 94 := pos_le (by kernel_rfl)
theorem y119 : 1 ≤ Try.prog.bytesOf 119 := pos_le (by kernel_rfl)
theorem y122 : 1 ≤ Try.prog.bytesOf 122 := pos_le (by kernel_rfl)
theorem y212 : 1 ≤ Try.prog.bytesOf 212 := pos_le (by kernel_rfl)
theorem y214 : 1 ≤ Try.prog.bytesOf 214 := pos_le (by kernel_rfl)
theorem len2 {cs : List Value} (h : cs.length = 2) : ∃ a b, cs = [a, b] := by
  match cs, h with | [a, b], _ => exact ⟨a, b, rfl⟩
theorem len3 {cs : List Value} (h : cs.length = 3) : ∃ a b c, cs = [a, b, c] := by
  match cs, h with | [a, b, c], _ => exact ⟨a, b, c, rfl⟩
theorem len4 {cs : List Value} (h : cs.length = 4) : ∃ a b c d, cs = [a, b, c, d] := by
  match cs, h with | [a, b, c, d], _ => exact ⟨a, b, c, d, rfl⟩
theorem len6 {cs : List Value} (h : cs.length = 6) : ∃ a b c d e f, cs = [a, b, c, d, e, f] := by
  match cs, h with | [a, b, c, d, e, f], _ => exact ⟨a, b, c, d, e, f, rfl⟩
theorem len8 {cs : List Value} (h : cs.length = 8) : ∃ a b c d e f g i, cs = [a, b, c, d, e, f, g, i] := by
  match cs, h with | [a, b, c, d, e, f, g, i], _ => exact ⟨a, b, c, d, e, f, g, i, rfl⟩
theorem one_inj {a b : Value} (h : [a] = [b]) : a = b := by injection h
section
variable {H : Type} {enc : TypeId × Value → H} {W : World}
theorem Rds.fd {t : TypeId} {cs : List Value} {fs : Array Field} (ht : Try.prog.underlying t = some (.struct fs)) (h : Rds enc W t cs) (i : Nat) (t' : TypeId) (off n : Nat)
    (hi : (fs[i]?).map (fun f => (f.type, f.offset)) = some (t', off)) (z : Try.prog.cellsOf t' = n) : Rds enc W t' ((cs.drop off).take n) := by
  cases hf : fs[i]? with
  | none => rw [hf] at hi; cases hi
  | some f =>
    rw [hf] at hi
    simp only [Option.map_some, Option.some.injEq, Prod.mk.injEq] at hi
    obtain ⟨rfl, rfl⟩ := hi
    rw [← z]
    exact (h.field ht).2 i f hf
theorem Rds.i {t : TypeId} {x : Value} {k : IntKind} (ht : Try.prog.underlying t = some (.int k)) (h : Rds enc W t [x]) : ∃ n, x = .int k n := by
  obtain ⟨n, h⟩ := h.int ht; exact ⟨n, one_inj h⟩
theorem Rds.b {t : TypeId} {x : Value} (ht : Try.prog.underlying t = some .bool) (h : Rds enc W t [x]) : ∃ n, x = .bool n := by
  obtain ⟨n, h⟩ := h.bool ht; exact ⟨n, one_inj h⟩
theorem Rds.s {t : TypeId} {x : Value} (ht : Try.prog.underlying t = some .string) (h : Rds enc W t [x]) : ∃ n, x = .string n := by
  obtain ⟨n, h⟩ := h.str ht; exact ⟨n, one_inj h⟩
theorem Rds.en {cs : List Value} (h : Rds enc W 49 cs) : ∃ a : EN, cs = encEN a ∧ True := by
  obtain ⟨hl, _⟩ := h.field Try.underlying49
  rw [z49] at hl
  obtain ⟨a, b, c, rfl⟩ := len3 hl
  have h0 := h.fd Try.underlying49 0 47 0 1 rfl z47
  have h1 := h.fd Try.underlying49 1 3 1 1 rfl z3
  have h2 := h.fd Try.underlying49 2 2 2 1 rfl z2
  obtain ⟨x0, rfl⟩ := h0.i Try.underlying47
  obtain ⟨x1, rfl⟩ := h1.i Try.underlying3
  obtain ⟨x2, rfl⟩ := h2.i Try.underlying2
  exact ⟨⟨x0, x1, x2⟩, rfl, trivial⟩
theorem Rds.ps {cs : List Value} (h : Rds enc W 83 cs) : ∃ a : Int × Int, cs = encPS a ∧ True := by
  obtain ⟨hl, _⟩ := h.field Try.underlying83
  rw [z83] at hl
  obtain ⟨a, b, rfl⟩ := len2 hl
  have h0 := h.fd Try.underlying83 0 3 0 1 rfl z3
  have h1 := h.fd Try.underlying83 1 3 1 1 rfl z3
  obtain ⟨x0, rfl⟩ := h0.i Try.underlying3
  obtain ⟨x1, rfl⟩ := h1.i Try.underlying3
  exact ⟨⟨x0, x1⟩, rfl, trivial⟩
theorem Rds.pe {cs : List Value} (h : Rds enc W 94 cs) : ∃ a : PE, cs = encPE a ∧ True := by
  obtain ⟨hl, _⟩ := h.field Try.underlying94
  rw [z94] at hl
  obtain ⟨a, b, c, d, rfl⟩ := len4 hl
  have h0 := h.fd Try.underlying94 0 9 0 1 rfl z9
  have h1 := h.fd Try.underlying94 1 3 1 1 rfl z3
  have h2 := h.fd Try.underlying94 2 4 2 1 rfl z4
  have h3 := h.fd Try.underlying94 3 3 3 1 rfl z3
  obtain ⟨x0, rfl⟩ := h0.s Try.underlying9
  obtain ⟨x1, rfl⟩ := h1.i Try.underlying3
  obtain ⟨x2, rfl⟩ := h2.b Try.underlying4
  obtain ⟨x3, rfl⟩ := h3.i Try.underlying3
  exact ⟨⟨x0, x1, x2, x3⟩, rfl, trivial⟩
theorem Rds.pk {cs : List Value} (h : Rds enc W 122 cs) : ∃ a : PK, cs = encPK a ∧ True := by
  obtain ⟨hl, _⟩ := h.field Try.underlying122
  rw [z122] at hl
  obtain ⟨a, b, c, d, e, f, rfl⟩ := len6 hl
  have h0 := h.fd Try.underlying122 0 9 0 1 rfl z9
  have h1 := h.fd Try.underlying122 1 3 1 1 rfl z3
  have h2 := h.fd Try.underlying122 2 120 2 4 rfl z120
  obtain ⟨x0, rfl⟩ := h0.s Try.underlying9
  obtain ⟨x1, rfl⟩ := h1.i Try.underlying3
  obtain ⟨_, h2⟩ := h2.arr Try.underlying120
  have g : ∀ (x : Value) cs', cs' = [x] → (∃ (fuel : Nat) (y : DataW H × List MemPlace), DataW.trod enc Try.prog W 0 (fun _ => true) true fuel 3 cs' = some y) → ∃ n, x = .int .i64 n := by
    rintro x _ rfl ⟨fu, y, hy⟩
    obtain ⟨n, h, _⟩ := DataW.trod_int Try.underlying3 hy
    exact ⟨n, one_inj h⟩
  obtain ⟨c0, e0, g0⟩ := h2 0 (by omega)
  obtain ⟨c1, e1, g1⟩ := h2 1 (by omega)
  obtain ⟨c2, e2, g2⟩ := h2 2 (by omega)
  obtain ⟨c3, e3, g3⟩ := h2 3 (by omega)
  simp only [z3, Nat.mul_one, List.drop_zero, List.drop_succ_cons, List.take_succ_cons, List.take_zero] at e0 e1 e2 e3
  obtain ⟨n0, rfl⟩ := g _ _ e0 g0
  obtain ⟨n1, rfl⟩ := g _ _ e1 g1
  obtain ⟨n2, rfl⟩ := g _ _ e2 g2
  obtain ⟨n3, rfl⟩ := g _ _ e3 g3
  exact ⟨⟨x0, x1, n0, n1, n2, n3⟩, rfl, trivial⟩
theorem Rds.pi {cs : List Value} (h : Rds enc W 79 cs) : ∃ a : PI, cs = encPI a ∧ (osl ⟨W, W.heap.size⟩ 1 a.lv a.l.length (a.l.flatMap fun n => [.int .i64 n]) ∧ a.l.length < 2 ^ 48) := by
  obtain ⟨hl, _⟩ := h.field Try.underlying79
  rw [z79] at hl
  obtain ⟨a, b, c, d, e, f, g, i, rfl⟩ := len8 hl
  have h0 := h.fd Try.underlying79 0 77 0 1 rfl z77
  have h1 := h.fd Try.underlying79 1 3 1 1 rfl z3
  have h2 := h.fd Try.underlying79 2 3 2 1 rfl z3
  have h3 := h.fd Try.underlying79 3 3 3 1 rfl z3
  have h4 := h.fd Try.underlying79 4 2 4 1 rfl z2
  have h5 := h.fd Try.underlying79 5 39 5 1 rfl z39
  have h6 := h.fd Try.underlying79 6 3 6 1 rfl z3
  have h7 := h.fd Try.underlying79 7 3 7 1 rfl z3
  obtain ⟨x0, rfl⟩ := h0.i Try.underlying77
  obtain ⟨x1, rfl⟩ := h1.i Try.underlying3
  obtain ⟨x2, rfl⟩ := h2.i Try.underlying3
  obtain ⟨x3, rfl⟩ := h3.i Try.underlying3
  obtain ⟨x4, rfl⟩ := h4.i Try.underlying2
  obtain ⟨x6, rfl⟩ := h6.i Try.underlying3
  obtain ⟨x7, rfl⟩ := h7.i Try.underlying3
  obtain ⟨v, xs, hv, ho, _, hn⟩ := h5.osl_ (en := fun n : Int => [Value.int .i64 n]) (Q := fun _ => True) Try.underlying39 z3 (by decide) y3 (fun _ => rfl) (fun cs' h => by obtain ⟨n, h⟩ := h.int Try.underlying3; exact ⟨n, h, trivial⟩)
  obtain rfl := one_inj hv
  exact ⟨⟨x0, x1, x2, x3, x4, _, x6, x7, xs⟩, rfl, ho, Nat.lt_of_lt_of_le hn (by decide)⟩
theorem Rds.pf {cs : List Value} (h : Rds enc W 76 cs) : ∃ a : PF, cs = encPF a ∧ (osl ⟨W, W.heap.size⟩ 8 a.cv a.code.length (a.code.flatMap encPI) ∧ a.code.length < 2 ^ 48 ∧
    ∀ i ∈ a.code, osl ⟨W, W.heap.size⟩ 1 i.lv i.l.length (i.l.flatMap fun n => [.int .i64 n]) ∧ i.l.length < 2 ^ 48) := by
  obtain ⟨hl, _⟩ := h.field Try.underlying76
  rw [z76] at hl
  obtain ⟨a, b, c, d, rfl⟩ := len4 hl
  have h0 := h.fd Try.underlying76 0 9 0 1 rfl z9
  have h1 := h.fd Try.underlying76 1 3 1 1 rfl z3
  have h2 := h.fd Try.underlying76 2 3 2 1 rfl z3
  have h3 := h.fd Try.underlying76 3 74 3 1 rfl z74
  obtain ⟨x0, rfl⟩ := h0.s Try.underlying9
  obtain ⟨x1, rfl⟩ := h1.i Try.underlying3
  obtain ⟨x2, rfl⟩ := h2.i Try.underlying3
  obtain ⟨v, xs, hv, ho, hq, hn⟩ := h3.osl_ Try.underlying74 z79 (by decide) y79 encPI_len (fun cs' h => h.pi)
  obtain rfl := one_inj hv
  exact ⟨⟨x0, x1, x2, _, xs⟩, rfl, ho, Nat.lt_of_lt_of_le hn (by decide), hq⟩
theorem Rds.pc {cs : List Value} (h : Rds enc W 119 cs) : ∃ a : PC, cs = encPC a ∧ (lenS a.fv = some (.int .i64 a.nf) ∧ lenS a.nv = some (.int .i64 a.nn)) := by
  obtain ⟨hl, _⟩ := h.field Try.underlying119
  rw [z119] at hl
  obtain ⟨a, b, c, rfl⟩ := len3 hl
  have h0 := h.fd Try.underlying119 0 9 0 1 rfl z9
  have h1 := h.fd Try.underlying119 1 22 1 1 rfl z22
  have h2 := h.fd Try.underlying119 2 117 2 1 rfl z117
  obtain ⟨x0, rfl⟩ := h0.s Try.underlying9
  obtain ⟨v1, n1, e1, l1, _⟩ := h1.len Try.underlying22 y9
  obtain ⟨v2, n2, e2, l2, _⟩ := h2.len Try.underlying117 y212
  obtain rfl := one_inj e1
  obtain rfl := one_inj e2
  exact ⟨⟨x0, _, _, n1, n2⟩, rfl, l2, l1⟩
/-- the program that was handed over -/
theorem Rds.prog {cs : List Value} (h : Rds enc W 30 cs) : ∃ p : PP, cs = pcells p ∧ ProgOK ⟨W, W.heap.size⟩ p ∧ p.nl < 2 ^ 48 ∧ p.ng < 2 ^ 48 := by
  obtain ⟨hl, _⟩ := h.field Try.underlying30
  rw [z30] at hl
  obtain ⟨a, b, c, d, e, f, g, i, rfl⟩ := len8 hl
  have h0 := h.fd Try.underlying30 0 22 0 1 rfl z22
  have h1 := h.fd Try.underlying30 1 23 1 1 rfl z23
  have h2 := h.fd Try.underlying30 2 24 2 1 rfl z24
  have h3 := h.fd Try.underlying30 3 25 3 1 rfl z25
  have h4 := h.fd Try.underlying30 4 26 4 1 rfl z26
  have h5 := h.fd Try.underlying30 5 27 5 1 rfl z27
  have h6 := h.fd Try.underlying30 6 3 6 1 rfl z3
  have h7 := h.fd Try.underlying30 7 28 7 1 rfl z28
  obtain ⟨v0, n0, e0, l0, b0⟩ := h0.len Try.underlying22 y9
  obtain rfl := one_inj e0
  obtain ⟨v1, x1, e1, o1, q1, b1⟩ := h1.osl_ Try.underlying23 z119 (by decide) y119 encPC_len (fun cs' h => h.pc)
  obtain rfl := one_inj e1
  obtain ⟨v2, n2, e2, l2, b2⟩ := h2.len Try.underlying24 y214
  obtain rfl := one_inj e2
  obtain ⟨v3, x3, e3, o3, q3, b3⟩ := h3.osl_ Try.underlying25 z76 (by decide) y76 encPF_len (fun cs' h => h.pf)
  obtain rfl := one_inj e3
  obtain ⟨v4, x4, e4, o4, q4, b4⟩ := h4.osl_ Try.underlying26 z122 (by decide) y122 encPK_len (fun cs' h => h.pk)
  obtain rfl := one_inj e4
  obtain ⟨v5, x5, e5, o5, q5, b5⟩ := h5.osl_ Try.underlying27 z94 (by decide) y94 encPE_len (fun cs' h => h.pe)
  obtain rfl := one_inj e5
  obtain ⟨x6, rfl⟩ := h6.i Try.underlying3
  obtain ⟨v7, x7, e7, o7, q7, b7⟩ := h7.osl_ Try.underlying28 z83 (by decide) y83 encPS_len (fun cs' h => h.ps)
  obtain rfl := one_inj e7
  have hk : (281474976710656 : Nat) ≤ 2 ^ 48 := by decide
  refine ⟨⟨_, n0, _, n2, _, x1, _, x3, _, x4, _, x5, x6, _, x7⟩, rfl, ⟨l0, l2, o1, q1, o3, fun f hm => (q3 f hm).1, fun f hm i hi => ((q3 f hm).2.2 i hi).1, o4, o5, o7, Nat.lt_of_lt_of_le b3 hk, fun f hm => ⟨(q3 f hm).2.1, fun i hi => ((q3 f hm).2.2 i hi).2⟩, Nat.lt_of_lt_of_le b4 hk, Nat.lt_of_lt_of_le b5 hk, Nat.lt_of_lt_of_le b1 hk, Nat.lt_of_lt_of_le b7 hk⟩, Nat.lt_of_lt_of_le b0 hk, Nat.lt_of_lt_of_le b2 hk⟩
/-- the entries that were handed over -/
theorem Rds.ens {cs : List Value} (h : Rds enc W 31 cs) : ∃ (v : Value) (es : List EN), cs = [v] ∧ osl ⟨W, W.heap.size⟩ 3 v es.length (es.flatMap encEN) := by
  obtain ⟨v, xs, e, o, _⟩ := h.osl_ Try.underlying31 z49 (by decide) y49 encEN_len (fun cs' h => h.en)
  exact ⟨v, xs, e, o⟩
end
end Go.Proofs.Ytedcfkigfcobaaa
end
/- What both statements promise, out of what their walks give: the answer true, and arguments that read as before. -/
section
namespace Go.Proofs.Ytedcfkigfcobaaa
open Go Go.Proofs Go.ChangeShapes Go.WideShapes Go.RowKit
theorem ownKnob_none : ownKnob Try.prog.godebug = none := by kernel_rfl
theorem below_of_own {W W' : World} (h : Own ⟨W, W.heap.size⟩ W' []) : Below W.heap.size W W' := ⟨h.os, h.tape, h.output, h.size, h.old⟩
/-- what both statements promise, from what the walk gives -/
theorem post_both {H : Type} {enc : TypeId × Value → H} {s : ChangeSpec} {f : Func} {W W' : World} {args : Array Value} {ds gs : List (DataW H)} {before : List MemPlace}
    (hv : s.vars = []) (hp : f.params = #[30, 31]) (hr : f.resultTypes = #[4]) (hs : ∀ d1 d2, s.fn H [d1, d2] = { results := [.lit (.bool true)], args := [d1, d2] })
    (hW : DataW.Whole enc Try.prog f.params.toList s.vars false W args.toList ds gs before) (hb : Below W.heap.size W W') :
    s.post enc Try.prog f false true false false W args (.bool true) W' := by
  have hlt := hW.lt
  have hW0 := hW
  obtain ⟨p, q, hA, hV, rfl, hfz, hnd⟩ := hW
  rw [hv] at hV
  obtain ⟨rfl, rfl⟩ := trodVars_none hV
  simp only [List.append_nil] at *
  have hA' := hA
  rw [hp] at hA'
  obtain ⟨v0, vs0, d0, ds0, p0, q0, e0, rfl, rfl, h0, r0⟩ := trodAll_cons hA'
  obtain ⟨v1, vs1, d1, ds1, p1, q1, rfl, rfl, rfl, h1, r1⟩ := trodAll_cons r0
  obtain ⟨rfl, rfl, rfl⟩ := trodAll_nil r1
  simp only [List.append_nil] at *
  have hfn := hs d0 d1
  have hargs : DataW.TrodAll enc Try.prog W' 0 (fun b => decide (b < W.heap.size)) true f.params.toList args.toList [d0, d1] (p0 ++ p1) := by
    rw [hp, e0]
    refine trodAll_mk2 ?_ ?_
    · exact hb.trod (by kernel_rfl) (by kernel_rfl) (of_decide_eq_true (by kernel_rfl)) h0 fun x hx => hlt x (List.mem_append_left _ hx)
    · exact hb.trod (by kernel_rfl) (by kernel_rfl) (of_decide_eq_true (by kernel_rfl)) h1 fun x hx => hlt x (List.mem_append_right _ hx)
  have hres : DataW.TrodAll enc Try.prog W' W.heap.size (fun _ => false) false f.resultTypes.toList ((Value.bool true).resultList f.resultTypes.size) [.lit (.bool true)] [] := by
    rw [hr]
    exact trodAll_mk1 (shut_bool Try.underlying4 true)
  refine ⟨[d0, d1], [], p0 ++ p1, [], p0 ++ p1, [], hW0, ?_, ?_, ?_, World.keptBut_mono (fun p hp => ⟨hp, Or.inr (Or.inl hp)⟩) (hb.frame _), fun h => by cases h⟩
  · rw [List.append_nil, hfn]; exact hres
  · rw [List.append_nil, hfn]; exact hargs
  · rw [List.append_nil, hfn, hv]; exact rfl
set_option maxRecDepth 100000 in
theorem contract (f : FuncId) (fn : Func) (s : ChangeSpec) (hv : s.vars = []) (hps : fn.params = #[30, 31]) (hrs : fn.resultTypes = #[4]) (hsp : ∀ (H : Type) (d1 d2 : DataW H), s.fn H [d1, d2] = { results := [.lit (.bool true)], args := [d1, d2] })
    (hwalk : ∀ {B : Base} {w : World} {L : List Atom} {p : PP} {ev : Value} {es : List EN}, ProgOK B p → p.nl < 2 ^ 48 ∧ p.ng < 2 ^ 48 → osl B 3 ev es.length (es.flatMap encEN) → Own B w L → Cl Try.prog f [progV p, ev] w fun v w' => v = .bool true ∧ Own B w' [])
    (H : Type) (enc : TypeId × Value → H) (W : World) (base : Nat) (args : Array Value) (ds gs : List (DataW H)) (before : List MemPlace)
    (hval : ∀ (j : Nat) t v, fn.params[j]? = some t → args[j]? = some v → Value.okWide Try.prog W .any base t v)
    (hW : DataW.Whole enc Try.prog fn.params.toList s.vars false W args.toList ds gs before)
    (hsz : (DataW.weightsEach Try.prog (fn.params.toList ++ s.plain.varTypes Try.prog) (ds ++ gs)).all (· ≤ reachBytes) = true) :
    Calls Try.prog f args W fun e W' => ∃ v, e = .returned v ∧ s.post enc Try.prog fn false true false false W args v W' := by
  have hW0 := hW
  obtain ⟨p, q, hA, hV, rfl, hfz, hnd⟩ := hW
  rw [hv] at hV
  obtain ⟨rfl, rfl⟩ := trodVars_none hV
  have hA' : DataW.TrodAll enc Try.prog W 0 (fun _ => true) true [30, 31] args.toList ds p := by rw [hps] at hA; exact hA
  obtain ⟨v0, vs0, d0, ds0, p0, q0, e0, rfl, rfl, h0, r0⟩ := trodAll_cons hA'
  obtain ⟨v1, vs1, d1, ds1, p1, q1, rfl, rfl, rfl, h1, r1⟩ := trodAll_cons r0
  obtain ⟨rfl, rfl, rfl⟩ := trodAll_nil r1
  obtain rfl : args = #[v0, v1] := by cases args; simp_all
  rw [hps] at hsz
  have hz : ∀ (j : Nat) (t : TypeId) (d : DataW H), [30, 31][j]? = some t → [d0, d1][j]? = some d → ∀ n ∈ d.weights Try.prog t, n ≤ reachBytes := fun j t d ht hd n hn => by
    have := List.all_eq_true.1 hsz n (by
      have h0 := DataW.weights_mem_each (P := Try.prog) (ts := [30, 31]) (ds := [d0, d1]) ht hd n hn
      have e : s.plain.varTypes Try.prog = [] := by simp [DataSpec.varTypes, ChangeSpec.plain, hv]
      rw [e]
      exact h0)
    exact of_decide_eq_true this
  rw [hps] at hval
  have g0 := hval 0 30 v0 (by simp) (by simp)
  have g1 := hval 1 31 v1 (by simp) (by simp)
  obtain ⟨cs, rfl, _⟩ := okWide_struct Try.underlying30 g0
  obtain ⟨a, len, cap, rfl⟩ := okWide_slice Try.underlying31 g1
  obtain ⟨f0, h0⟩ := h0
  obtain ⟨f1, h1⟩ := h1
  obtain ⟨p, ep, hP, hb⟩ := Rds.prog ⟨f0, d0, p0, h0, hz 0 30 d0 rfl rfl⟩
  obtain ⟨v, es, ee, hE⟩ := Rds.ens ⟨f1, d1, p1, h1, hz 1 31 d1 rfl rfl⟩
  have e0 : (Value.agg cs) = progV p := by
    have : cs.toList = pcells p := ep
    unfold progV
    rw [← this]
  have e1 : Value.slice a len cap = v := one_inj ee
  have h3 := hwalk hP hb hE (Own.start ⟨W, W.heap.size⟩ W rfl rfl)
  unfold Cl at h3
  rw [e0, e1]
  rw [e0, e1] at hW0
  refine h3.mono fun e W' ⟨v', he, hv', hw⟩ => ⟨v', he, ?_⟩
  subst hv'
  exact post_both hv hps hrs (hsp H) hW0 (below_of_own hw)
end Go.Proofs.Ytedcfkigfcobaaa
end
/- What a machine's order says of tasks: within one task, into a task's begin, out of a task that ran ahead on one looper. -/
section
namespace Go.Proofs.Ytedcfkigfcobaaa
open Go Go.Proofs
attribute [local irreducible] Bc O AL BS MS MM ST AP CV Cl
section
variable {T : List TK} {M : List MK} {bl el : List Int}
theorem RunOK.begun (h : RunOK T M) {i : Nat} {m : MK} (hm : M[i]? = some m) : ∃ (j : Nat) (n : MK), j ≤ i ∧ M[j]? = some n ∧ n.task = m.task ∧ n.kind = 1 := by
  by_cases hk : m.kind = 1
  · exact ⟨i, m, Nat.le_refl i, hm, rfl, hk⟩
  · have h1 := (h.mks i m hm).fst
    have h2 : ¬ ∀ (j : Nat) (n : MK), j < i → M[j]? = some n → ¬ (n.task = m.task ∧ n.kind = 1) := fun h' => hk (h1.2 h')
    by_cases h3 : ∃ (j : Nat) (n : MK), j < i ∧ M[j]? = some n ∧ n.task = m.task ∧ n.kind = 1
    · obtain ⟨j, n, h4, h5, h6, h7⟩ := h3
      exact ⟨j, n, by omega, h5, h6, h7⟩
    · exact absurd (fun j n h4 h5 h6 => h3 ⟨j, n, h4, h5, h6.1, h6.2⟩) h2
/-- a mark's task has begun, there or before -/
theorem RunOK.first (h : RunOK T M) {i : Nat} {m : MK} (hm : M[i]? = some m) {v : Int} (hv : IsAt M M.length 1 m.task v) : ∃ (j : Nat) (n : MK), v = j ∧ j ≤ i ∧ M[j]? = some n ∧ n.task = m.task ∧ n.kind = 1 := by
  obtain ⟨j, n, h1, h2, h3, h4⟩ := h.begun hm
  rcases hv with ⟨_, h5⟩ | ⟨j', n', h5, _, h6, h7, h8⟩
  · exact absurd ⟨h3, h4⟩ (h5 j n (list_lt h2) h2)
  · refine ⟨j', n', h5, ?_, h6, h7, h8⟩
    rcases Nat.lt_or_ge i j' with h9 | h9
    · exact absurd ⟨h3.trans h7.symm, h4⟩ ((h.mks j' n' h6).fst.1 h8 j n (by omega) h2)
    · exact h9
theorem HB.same (h : RunOK T M) (hb : BE T M M.length 1 bl) (he : BE T M M.length 2 el) {a b : Nat} {m n : MK} (hm : M[a]? = some m) (hn : M[b]? = some n) (ht : m.task = n.task) : HB T M bl el a b ↔ a < b :=
  ⟨fun hab => (hab.lt h hb he).1, fun hab => HB.closed.task a b m n hab hm hn ht⟩
/-- what comes ahead of a task's begin comes ahead of all of it -/
theorem HB.into {a b t : Nat} {n k : MK} (hn : M[b]? = some n) (hk : M[t]? = some k) (hkn : k.task = n.task) (htb : t ≤ b) (hab : HB T M bl el a t) : HB T M bl el a b := by
  rcases Nat.lt_or_ge t b with h1 | h1
  · exact HB.closed.trans _ _ _ hab (HB.closed.task t b k n h1 hk hn hkn)
  · have : t = b := by omega
    rw [← this]; exact hab
/-- of two tasks of one looper, the begin of the one ahead of the other's: all of it is -/
theorem HB.loop (h : RunOK T M) (hb : BE T M M.length 1 bl) (he : BE T M M.length 2 el) {a b s t : Nat} {m n k l : MK} {x y : TK} (hm : M[a]? = some m) (hn : M[b]? = some n)
    (hk : M[s]? = some k) (hkm : k.task = m.task) (hk1 : k.kind = 1) (hl : M[t]? = some l) (hln : l.task = n.task) (hl1 : l.kind = 1) (htb : t ≤ b)
    (hx : T[(m.task - 1).toNat]? = some x) (hy : T[(n.task - 1).toNat]? = some y) (h0 : 0 ≤ x.looper) (hxy : x.looper = y.looper) (hne : m.task ≠ n.task) (hst : HB T M bl el s t) : HB T M bl el a b := by
  have g1 := (h.mks a m hm).task
  have g2 := (h.mks b n hn).task
  have hs := (hst.lt h hb he).1
  -- the table's entries
  have e1 : bl[(m.task - 1).toNat + 1]? = some (s : Int) := by
    obtain ⟨v, hv⟩ := list_get (l := bl) (j := (m.task - 1).toNat + 1) (by rw [hb.1]; omega)
    rcases hb.2 _ v hv with ⟨_, h5⟩ | ⟨j', n', h5, _, h6, h7, h8⟩
    · exact absurd ⟨by omega, hk1⟩ (h5 s k (list_lt hk) hk)
    · have := h.uniq1 h6 hk h8 hk1 (by omega)
      rw [hv, h5, this]
  have e2 : bl[(n.task - 1).toNat + 1]? = some (t : Int) := by
    obtain ⟨v, hv⟩ := list_get (l := bl) (j := (n.task - 1).toNat + 1) (by rw [hb.1]; omega)
    rcases hb.2 _ v hv with ⟨_, h5⟩ | ⟨j', n', h5, _, h6, h7, h8⟩
    · exact absurd ⟨by omega, hl1⟩ (h5 t l (list_lt hl) hl)
    · have := h.uniq1 h6 hl h8 hl1 (by omega)
      rw [hv, h5, this]
  obtain ⟨e, e3⟩ := list_get (l := el) (j := (m.task - 1).toNat + 1) (by rw [he.1]; omega)
  have h3 := h.over hb he hx hy h0 hxy e1 e2 e3 (by omega) (by omega)
  obtain ⟨q, q1, q2, q3⟩ := h.beg he e3 h3.1
  have r1 : HB T M bl el e.toNat t := HB.closed.rule _ _ x y e t (by omega) hx hy h0 hxy e3 e2 h3.1 h3.2 (.inr ⟨s, e1, by omega, by simpa using hst⟩)
  have r2 : a ≤ e.toNat := by
    rcases Nat.lt_or_ge e.toNat a with h4 | h4
    · exact absurd q3 ((h.mks a m hm).noend _ q h4 q1 (by omega))
    · exact h4
  have r3 : HB T M bl el a t := by
    rcases Nat.lt_or_ge a e.toNat with h4 | h4
    · exact HB.closed.trans _ _ _ (HB.closed.task a e.toNat m q h4 hm q1 (by omega)) r1
    · have : a = e.toNat := by omega
      rw [this]; exact r1
  exact HB.into hn hl hln htb r3
end
end Go.Proofs.Ytedcfkigfcobaaa
end
/- Printed by wip/tools/gen.py: the bodies of functions 4 with named temporaries, tied to the loaded program. -/
section
set_option maxRecDepth 100000
namespace Go.Proofs.Ytedcfkigfcobaaa
open Go Go.Proofs
def j4_6 (R : Value → World → Prop) (t11 : Value) (I2 : Value → World → Prop) (μ2 : Value → World → Nat) (wh2 : World) (t201 : Value) (w : World) : Prop :=
 Bc t201
 (R (.bool false) w)
 (O (bi .add t11 (.int .i64 1)) fun t89 =>
 I2 t89 w ∧ μ2 t89 w < μ2 t11 wh2)
def j4_5 (R : Value → World → Prop) (t95 : Value) (t101 : Value) (t7 : Value) (t56 : Value) (t14 : Value) (t15 : Value) (t10 : Value) (t11 : Value) (I2 : Value → World → Prop) (μ2 : Value → World → Nat) (wh2 : World) (t152 : Value) (w : World) : Prop :=
 Bc t152
 (R (.bool false) w)
 (Dr w fun w =>
 O (bi .neq t95 t101) fun t155 =>
 Bc t155
 (O (fA 0 t7) fun t157 =>
 O (rd1 t157 w) fun t158 =>
 O (bi .sub t95 (.int .i64 1)) fun t160 =>
 O (iS 15 t158 t160) fun t161 =>
 O (fA 4 t161) fun t162 =>
 O (rd1 t162 w) fun t163 =>
 O (bi .geq t163 (.int .i64 0)) fun t164 =>
 Bc t164
 (O (fA 0 t7) fun t167 =>
 O (rd1 t167 w) fun t168 =>
 O (bi .sub t95 (.int .i64 1)) fun t170 =>
 O (iS 15 t168 t170) fun t171 =>
 O (fA 4 t171) fun t172 =>
 O (rd1 t172 w) fun t173 =>
 O (fA 0 t7) fun t174 =>
 O (rd1 t174 w) fun t175 =>
 O (bi .sub t101 (.int .i64 1)) fun t177 =>
 O (iS 15 t175 t177) fun t178 =>
 O (fA 4 t178) fun t179 =>
 O (rd1 t179 w) fun t180 =>
 O (bi .eql t173 t180) fun t181 =>
 Bc t181
 (O (iS 1 t56 t14) fun t186 =>
 O (rd1 t186 w) fun t187 =>
 O (iS 1 t187 t15) fun t189 =>
 O (rd1 t189 w) fun t190 =>
 Bc t190
 (O (iS 1 t56 t10) fun t195 =>
 O (rd1 t195 w) fun t196 =>
 O (iS 1 t196 t11) fun t198 =>
 O (rd1 t198 w) fun t199 =>
 O (un .not t199) fun t200 =>
 j4_6 R t11 I2 μ2 wh2 t200 w)
 (j4_6 R t11 I2 μ2 wh2 (.bool false) w))
 (j4_6 R t11 I2 μ2 wh2 (.bool false) w))
 (j4_6 R t11 I2 μ2 wh2 (.bool false) w))
 (j4_6 R t11 I2 μ2 wh2 (.bool false) w))
def j4_4 (R : Value → World → Prop) (t95 : Value) (t101 : Value) (t56 : Value) (t10 : Value) (t11 : Value) (t7 : Value) (I2 : Value → World → Prop) (μ2 : Value → World → Nat) (wh2 : World) (t14 : Value) (t15 : Value) (w : World) : Prop :=
 O (bi .eql t95 t101) fun t110 =>
 Bc t110
 (O (iS 1 t56 t10) fun t114 =>
 O (rd1 t114 w) fun t115 =>
 O (iS 1 t115 t11) fun t117 =>
 O (rd1 t117 w) fun t118 =>
 O (bi .lss t10 t11) fun t121 =>
 O (bb .neq t118 t121) fun t122 =>
 Bc t122
 (j4_5 R t95 t101 t7 t56 t14 t15 t10 t11 I2 μ2 wh2 (.bool true) w)
 (O (bi .neq t95 t101) fun t127 =>
 Bc t127
 (O (bi .neq t14 t10) fun t131 =>
 Bc t131
 (O (iS 1 t56 t10) fun t136 =>
 O (rd1 t136 w) fun t137 =>
 O (iS 1 t137 t15) fun t139 =>
 O (rd1 t139 w) fun t140 =>
 Bc t140
 (O (iS 1 t56 t10) fun t145 =>
 O (rd1 t145 w) fun t146 =>
 O (iS 1 t146 t11) fun t148 =>
 O (rd1 t148 w) fun t149 =>
 O (un .not t149) fun t150 =>
 j4_5 R t95 t101 t7 t56 t14 t15 t10 t11 I2 μ2 wh2 t150 w)
 (j4_5 R t95 t101 t7 t56 t14 t15 t10 t11 I2 μ2 wh2 (.bool false) w))
 (j4_5 R t95 t101 t7 t56 t14 t15 t10 t11 I2 μ2 wh2 (.bool false) w))
 (j4_5 R t95 t101 t7 t56 t14 t15 t10 t11 I2 μ2 wh2 (.bool false) w)))
 (O (bi .neq t95 t101) fun t127 =>
 Bc t127
 (O (bi .neq t14 t10) fun t131 =>
 Bc t131
 (O (iS 1 t56 t10) fun t136 =>
 O (rd1 t136 w) fun t137 =>
 O (iS 1 t137 t15) fun t139 =>
 O (rd1 t139 w) fun t140 =>
 Bc t140
 (O (iS 1 t56 t10) fun t145 =>
 O (rd1 t145 w) fun t146 =>
 O (iS 1 t146 t11) fun t148 =>
 O (rd1 t148 w) fun t149 =>
 O (un .not t149) fun t150 =>
 j4_5 R t95 t101 t7 t56 t14 t15 t10 t11 I2 μ2 wh2 t150 w)
 (j4_5 R t95 t101 t7 t56 t14 t15 t10 t11 I2 μ2 wh2 (.bool false) w))
 (j4_5 R t95 t101 t7 t56 t14 t15 t10 t11 I2 μ2 wh2 (.bool false) w))
 (j4_5 R t95 t101 t7 t56 t14 t15 t10 t11 I2 μ2 wh2 (.bool false) w))
def j4_3 (R : Value → World → Prop) (t7 : Value) (t10 : Value) (t11 : Value) (t56 : Value) (I2 : Value → World → Prop) (μ2 : Value → World → Nat) (wh2 : World) (I1 : Value → World → Prop) (μ1 : Value → World → Nat) (wh1 : World) (t87 : Value) (w : World) : Prop :=
 Bc t87
 (Dr w fun w =>
 O (fA 1 t7) fun t90 =>
 O (rd1 t90 w) fun t91 =>
 O (iS 8 t91 t10) fun t93 =>
 O (fA 1 t93) fun t94 =>
 O (rd1 t94 w) fun t95 =>
 O (fA 1 t7) fun t96 =>
 O (rd1 t96 w) fun t97 =>
 O (iS 8 t97 t11) fun t99 =>
 O (fA 1 t99) fun t100 =>
 O (rd1 t100 w) fun t101 =>
 Dr w fun w =>
 O (rdN 2 t7 w) fun t102 =>
 (Cl Try.prog 13 [t102, t95] w fun t104 w =>
 O (rdN 2 t7 w) fun t105 =>
 Cl Try.prog 13 [t105, t101] w fun t107 w =>
 j4_4 R t95 t101 t56 t10 t11 t7 I2 μ2 wh2 t104 t107 w) ∧
 (O (rdN 2 t7 w) fun t105 =>
 Cl Try.prog 13 [t102, t95] w fun t104 w =>
 Cl Try.prog 13 [t105, t101] w fun t107 w =>
 j4_4 R t95 t101 t56 t10 t11 t7 I2 μ2 wh2 t104 t107 w))
 (O (bi .add t10 (.int .i64 1)) fun t73 =>
 I1 t73 w ∧ μ1 t73 w < μ1 t10 wh1)
def j4_2 (R : Value → World → Prop) (t56 : Value) (t7 : Value) (t67 : Value) (w : World) : Prop :=
 Bc t67
 (R (.bool false) w)
 (∃ (I1 : Value → World → Prop) (μ1 : Value → World → Nat), I1 (.int .i64 0) w ∧ ∀ (t10 : Value) wh1, I1 t10 wh1 →
 O (lenS t56) fun t70 =>
 O (bi .lss t10 t70) fun t71 =>
 Bc t71
 (∃ (I2 : Value → World → Prop) (μ2 : Value → World → Nat), I2 (.int .i64 0) wh1 ∧ ∀ (t11 : Value) wh2, I2 t11 wh2 →
 O (iS 1 t56 t10) fun t77 =>
 O (rd1 t77 wh2) fun t78 =>
 O (lenS t78) fun t79 =>
 O (bi .lss t11 t79) fun t80 =>
 Bc t80
 (O (fA 1 t7) fun t83 =>
 O (rd1 t83 wh2) fun t84 =>
 O (lenS t84) fun t85 =>
 O (bi .lss t11 t85) fun t86 =>
 j4_3 R t7 t10 t11 t56 I2 μ2 wh2 I1 μ1 wh1 t86 wh2)
 (j4_3 R t7 t10 t11 t56 I2 μ2 wh2 I1 μ1 wh1 (.bool false) wh2))
 (Cl Try.prog 7 [] wh1 fun t202 w =>
 R t202 w))
def j4_1 (R : Value → World → Prop) (t1 : Value) (t6 : Value) (t30 : Value) (I0 : Value → World → Prop) (μ0 : Value → World → Nat) (wh0 : World) (t42 : Value) (w : World) : Prop :=
 Bc t42
 (O (iS 3 t1 t6) fun t48 =>
 O (rdN 3 t48 w) fun t49 =>
 Cl Try.prog 9 [t30, t49] w fun t50 w =>
 O (bi .add t6 (.int .i64 1)) fun t44 =>
 I0 t44 w ∧ μ0 t44 w < μ0 t6 wh0)
 (Cl Try.prog 11 [t30] w fun t52 w =>
 AL (.cells #[.slice none 0 0, .slice none 0 0] 52) w fun t7 w =>
 ST Try.prog 52 t7 t52 w fun _ w =>
 O (rdN 2 t7 w) fun t54 =>
 Cl Try.prog 12 [t54] w fun t55 w =>
 O (exv t55 0) fun t56 =>
 O (exv t55 1) fun t57 =>
 O (bi .neq t57 (.int .i64 0)) fun t59 =>
 Bc t59
 (j4_2 R t56 t7 (.bool true) w)
 (O (lenS t56) fun t62 =>
 O (fA 1 t7) fun t63 =>
 O (rd1 t63 w) fun t64 =>
 O (lenS t64) fun t65 =>
 O (bi .neq t62 t65) fun t66 =>
 j4_2 R t56 t7 t66 w))
def j4_0 (R : Value → World → Prop) (t2 : Value) (t1 : Value) (t27 : Value) (w : World) : Prop :=
 Bc t27
 (Cl Try.prog 7 [] w fun t28 w =>
 R t28 w)
 (O (rdN 8 t2 w) fun t29 =>
 Cl Try.prog 8 [t29] w fun t30 w =>
 ∃ (I0 : Value → World → Prop) (μ0 : Value → World → Nat), I0 (.int .i64 0) w ∧ ∀ (t6 : Value) wh0, I0 t6 wh0 →
 O (lenS t1) fun t33 =>
 O (bi .lss t6 t33) fun t34 =>
 Bc t34
 (O (nC t30) fun t37 =>
 O (fA 16 t37) fun t38 =>
 O (rd1 t38 wh0) fun t39 =>
 O (lenS t39) fun t40 =>
 O (bi .lss t40 (.int .i64 155)) fun t41 =>
 j4_1 R t1 t6 t30 I0 μ0 wh0 t41 wh0)
 (j4_1 R t1 t6 t30 I0 μ0 wh0 (.bool false) wh0))
def c4 (R : Value → World → Prop) (t0 : Value) (t1 : Value) (w : World) : Prop :=
 AL (.cells (Value.cells t0) 30) w fun t2 w =>
 O (rdN 8 t2 w) fun t16 =>
 Cl Try.prog 5 [t16] w fun t17 w =>
 Bc t17
 (j4_0 R t2 t1 (.bool true) w)
 (O (rdN 8 t2 w) fun t19 =>
 Cl Try.prog 6 [t19] w fun t20 w =>
 O (un .not t20) fun t21 =>
 Bc t21
 (j4_0 R t2 t1 (.bool true) w)
 (O (lenS t1) fun t25 =>
 O (bi .gtr t25 (.int .i64 120)) fun t26 =>
 j4_0 R t2 t1 t26 w))
def p4 : Plan := .seq (.leaf) (.seq (.join [27] [1, 2] (.leaf) (.cond (.seq (.leaf) (.leaf)) (.leaf))) (.seq (.leaf) (.seq (.seq (.leaf) (.block (.loop [6] [1, 5] (.seq (.join [42] [1, 5, 6] (.leaf) (.cond (.leaf) (.leaf))) (.seq (.block (.leaf)) (.leaf)))))) (.seq (.leaf) (.seq (.leaf) (.seq (.join [67] [7, 8] (.leaf) (.cond (.seq (.leaf) (.leaf)) (.leaf))) (.seq (.seq (.leaf) (.block (.loop [10] [7, 8] (.seq (.seq (.leaf) (.cond (.leaf) (.leaf))) (.seq (.block (.seq (.leaf) (.block (.loop [11] [7, 8, 10] (.seq (.join [87] [7, 8, 10, 11] (.leaf) (.cond (.leaf) (.leaf))) (.seq (.block (.seq (.ord [0, 1, 0, 7, 15, 31, 0, 64, 0, 448, 960, 1984, 63, 8191]) (.join [14, 15] [7, 8, 10, 11, 12, 13] (.tree [0, 0, 3, 0, 0, 31, 63, 127] (.take 0 (.take 1 (.take 4 (.alt 2 (.take 3 (.take 5 (.take 6 (.take 7 (.done))))) (.take 3 (.take 2 (.take 5 (.take 6 (.take 7 (.done))))))))))) (.seq (.join [152] [7, 8, 10, 11, 12, 13, 14, 15] (.leaf) (.cond (.seq (.leaf) (.leaf)) (.leaf))) (.join [201] [7, 8, 10, 11] (.ord [0, 0, 3, 7, 15, 31, 15, 79, 255, 511, 1023, 2047, 4095, 8191, 16383, 32767, 16383, 81919, 262143, 524287, 1048575, 16383, 2113535, 16383, 8404991, 31473663, 65028095, 132136959, 268435455, 536870911, 1073741823, 2147483647, 2147483647, 8589934591, 17179869183, 2147483647, 68719476735, 137438953471, 274877906943, 549755813887, 1099511627775, 1099511627775, 4398046511103, 8796093022207, 1099511627775, 35184372088831, 70368744177663, 140737488355327, 281474976710655]) (.cond (.seq (.leaf) (.leaf)) (.leaf))))))) (.leaf))))))) (.leaf)))))) (.seq (.leaf) (.leaf)))))))))
theorem e4 (R : Value → World → Prop) (t0 : Value) (t1 : Value) (w : World) : cw Try.prog 203 p4 (Try.f4.body.getD .skip) (fnQ Try.prog Try.f4.results.toList R) (argE 0 [t0, t1]) w = c4 R t0 t1 w := by kernel_rfl
theorem b4 : Try.f4.body = some (Try.f4.body.getD .skip) := by kernel_rfl
theorem s4 {R : Value → World → Prop} {t0 : Value} {t1 : Value} {w : World} (h : c4 R t0 t1 w) : Cl Try.prog 4 [t0, t1] w R :=
  calls_of_cw mixed p4 Try.func4 b4 Try.ntmps4 (by simp) (by rw [e4]; exact h)

end Go.Proofs.Ytedcfkigfcobaaa
end
/- Contracts: the statement of a machine's tasks. -/
section
namespace Go.Proofs.Ytedcfkigfcobaaa
open Go Go.Proofs
attribute [local irreducible] Bc O AL BS MS MM ST AP CV Cl
theorem one_lenS {v x : Value} (h : lenS v = some x) : one v = true := by
  unfold lenS at h
  split at h
  · rfl
  all_goals first | rfl | cases h
section
variable {B : Base} {w : World} {L : List Atom} {p : PP}
set_option maxHeartbeats 4000000 in
set_option maxRecDepth 8000 in
/-- the two loops over the marks -/
theorem k4_2 {T : List TK} {M : List MK} {bt capt b7 : Nat} {mv lv : Value} {rl : List BR} {bl el : List Int} {R : Value → World → Prop} (hR : R = fun v w' => v = .bool true ∧ Own B w' []) (hr : RunOK T M) (hT : T.length ≤ 256) (hn : M.length ≤ 1200)
    (hb : BE T M M.length 1 bl) (he : BE T M M.length 2 el) (hl1 : rl.length = M.length) (hl2 : ∀ (a : Nat) r, rl[a]? = some r → r.l.length = M.length) (hl3 : ∀ a b, a < M.length → b < M.length → (HasB rl a b = true ↔ HB T M bl el a b))
    (hw : Own B w (rA (tvS bt T.length capt) mv T M ++ (bbA lv rl ++ (bk b7 52 [tvS bt T.length capt, mv] :: L)))) : j4_2 R lv (pp b7) (.bool false) w := by
  obtain ⟨L', hL'⟩ : ∃ L', L' = (bbA lv rl ++ (bk b7 52 [tvS bt T.length capt, mv] :: L)) := ⟨_, rfl⟩
  rw [← hL'] at hw
  obtain ⟨F, hF⟩ : ∃ F, F = rA (tvS bt T.length capt) mv T M ++ L' := ⟨_, rfl⟩
  have g0 : F[0]? = some (sl 73 15 (tvS bt T.length capt) T.length (T.flatMap encTK)) := by rw [hF]; rfl
  have g1 : F[1]? = some (sl 67 8 mv M.length (M.flatMap encMK)) := by rw [hF]; rfl
  have g2 : F[2]? = some (sl 59 1 lv rl.length (rl.flatMap encBR)) := by rw [hF, hL']; rfl
  have g3 : F[3]? = some (sep (rl.map brA)) := by rw [hF, hL']; rfl
  have g4 : F[4]? = some (bk b7 52 [tvS bt T.length capt, mv]) := by rw [hF, hL']; rfl
  clear hL'
  have hnil : ∀ {w' : World} {L' : List Atom}, Own B w' L' → Own B w' [] := fun h => h.mono fun _ _ => trivial
  have hfin : ∀ {w' : World}, Own B w' F → Cl Try.prog 7 [] w' fun t46 w => R t46 w := fun h => by
    refine (k7 (hnil h)).use ?_
    rintro _ w2 ⟨rfl, h2⟩
    rw [hR]; exact ⟨rfl, h2⟩
  have h13 : ∀ {w' : World} (x : Int), Own B w' F → Cl Try.prog 13 [runV (tvS bt T.length capt) mv, .int .i64 x] w' fun v w' => (∃ i : Int, v = .int .i64 i ∧ IsAt M M.length 1 x i) ∧ Own B w' F := fun x h => by
    rw [hF] at h ⊢
    exact k13 h (by omega) x
  rw [← hF] at hw
  clear hF
  unfold j4_2
  refine Bc_f ?_
  obtain ⟨I0, hI⟩ : ∃ I : Value → World → Prop, I = fun v w' => ∃ (a : Nat), v = .int .i64 a ∧ a ≤ M.length ∧ Own B w' F := ⟨_, rfl⟩
  obtain ⟨m0, hm⟩ : ∃ m : Value → World → Nat, m = fun v _ => match v with | .int _ i => (M.length - i).toNat | _ => 0 := ⟨_, rfl⟩
  refine ⟨I0, m0, by rw [hI]; exact ⟨0, rfl, by omega, hw⟩, ?_⟩
  clear hw
  intro t10 wh1 h0
  rw [hI] at h0
  obtain ⟨a, rfl, ha, hw9⟩ := h0
  refine O.mk (hw9.slLen 2 g2) ?_
  rw [hl1]
  (repeat with_reducible first | refine qq ?_ | refine qr ?_ | refine qs ?_)
  refine Bc_dec (fun hlt => ?_) (fun hge => hfin hw9)
  have ea : ((a : Int)).toNat = a := by omega
  obtain ⟨r, hrr⟩ := list_get (l := rl) (j := a) (by omega)
  obtain ⟨m, hma⟩ := list_get (l := M) (j := a) (by omega)
  have hrlen := hl2 a r hrr
  have gm := (hr.mks a m hma).task
  obtain ⟨x, hx⟩ := list_get (l := T) (j := (m.task - 1).toNat) (by omega)
  obtain ⟨I1, hI1⟩ : ∃ I : Value → World → Prop, I = fun v w' => ∃ (b : Nat), v = .int .i64 b ∧ b ≤ M.length ∧ Own B w' F := ⟨_, rfl⟩
  obtain ⟨m1, hm1⟩ : ∃ m : Value → World → Nat, m = fun v _ => match v with | .int _ i => (M.length - i).toNat | _ => 0 := ⟨_, rfl⟩
  refine ⟨I1, m1, by rw [hI1]; exact ⟨0, rfl, by omega, hw9⟩, ?_⟩
  clear hw9
  intro t11 wh2 h1
  rw [hI1] at h1
  obtain ⟨b, rfl, hb', hw11⟩ := h1
  -- a row's place, a place in a row
  have hrow : ∀ {w' : World} (i : Nat) (ri : BR), rl[i]? = some ri → Own B w' F → ∀ {k : Value → Prop}, (∀ q, rd1 q w' = some ri.v → k q) → O (iS 1 lv (.int .i64 i)) k := by
    intro w' i ri hri h k hk
    obtain ⟨c, hix, hrd⟩ := h.bbrow 2 g2 hri
    have h1 := hix .i64 (i : Int) (by omega) (by omega)
    rw [show ((i : Int)).toNat = i by omega] at h1
    exact O.mk h1 (hk _ hrd)
  have hcol : ∀ {w' : World} (i j : Nat) (ri : BR), rl[i]? = some ri → j < M.length → Own B w' F → ∀ {k : Value → Prop}, (∀ q, rd1 q w' = some (.bool (HasB rl i j)) → k q) → O (iS 1 ri.v (.int .i64 j)) k := by
    intro w' i j ri hri hj h k hk
    obtain ⟨z, hz⟩ := list_get (l := ri.l) (j := j) (by rw [hl2 i ri hri]; exact hj)
    obtain ⟨c, hix, hrd⟩ := h.bbel 3 g3 hri hz
    have h1 := hix .i64 (j : Int) (by omega) (by omega)
    rw [show ((j : Int)).toNat = j by omega] at h1
    refine O.mk h1 (hk _ ?_)
    rw [hrd, HasB_row hri, hz]; rfl
  refine hrow a r hrr hw11 fun q1 hq1 => ?_
  refine O.mk hq1 ?_
  refine O.mk (hw11.bblen 3 g3 hrr) ?_
  rw [hrlen]
  (repeat with_reducible first | refine qq ?_ | refine qr ?_ | refine qs ?_)
  refine Bc_dec (fun hlb => ?_) (fun hgb => ?_)
  rotate_left
  · unfold j4_3
    refine Bc_f ?_
    refine O.mk (bi_addb (a := a) (b := 1) (by omega)) ?_
    rw [hI, hm]
    exact ⟨⟨a + 1, rfl, by omega, hw11⟩, by simp only; omega⟩
  have eb : ((b : Int)).toNat = b := by omega
  obtain ⟨n, hnb⟩ := list_get (l := M) (j := b) (by omega)
  have gn := (hr.mks b n hnb).task
  obtain ⟨y, hy⟩ := list_get (l := T) (j := (n.task - 1).toNat) (by omega)
  have JN : ∀ w', Own B w' F → j4_6 R (.int .i64 b) I1 m1 wh2 (.bool false) w' := by
    intro w' h
    unfold j4_6
    refine Bc_f ?_
    refine O.mk (bi_addb (a := b) (b := 1) (by omega)) ?_
    rw [hI1, hm1]
    exact ⟨⟨b + 1, rfl, by omega, h⟩, by simp only; omega⟩
  have JNb : ∀ w' c, c = false → Own B w' F → j4_6 R (.int .i64 b) I1 m1 wh2 (.bool c) w' := by
    rintro w' _ rfl h
    exact JN w' h
  (repeat with_reducible first | refine qq ?_ | refine qr ?_ | refine qs ?_)
  refine O.mk (hw11.rd1_bk 4 g4 rfl) ?_
  refine O.mk (hw11.slLen 1 g1) ?_
  (repeat with_reducible first | refine qq ?_ | refine qr ?_ | refine qs ?_)
  rw [decide_eq_true (by omega)]
  unfold j4_3
  refine Bc_t ?_
  refine hw11.dr fun w12 hw12 => ?_
  clear hw11 hq1
  (repeat with_reducible first | refine qq ?_ | refine qr ?_ | refine qs ?_)
  refine O.mk (hw12.rd1_bk 4 g4 rfl) ?_
  obtain ⟨bm, hixm, hrdm, _⟩ := hw12.el 1 g1 encMK_len hma
  obtain ⟨bn, hixn, hrdn, _⟩ := hw12.el 1 g1 encMK_len hnb
  have hx1 := hixm .i64 (a : Int) (by omega) ea
  have hx2 := hixn .i64 (b : Int) (by omega) eb
  rw [ea] at hx1
  rw [eb] at hx2
  refine O.mk hx1 ?_
  (repeat with_reducible first | refine qq ?_ | refine qr ?_ | refine qs ?_)
  refine O.mk (hrdm 1 _ rfl) ?_
  (repeat with_reducible first | refine qq ?_ | refine qr ?_ | refine qs ?_)
  refine O.mk (hw12.rd1_bk 4 g4 rfl) ?_
  refine O.mk hx2 ?_
  (repeat with_reducible first | refine qq ?_ | refine qr ?_ | refine qs ?_)
  refine O.mk (hrdn 1 _ rfl) ?_
  clear hixm hrdm hixn hrdn hx1 hx2
  refine hw12.dr fun w13 hw13 => ?_
  clear hw12
  have rd : ∀ {w' : World}, Own B w' F → rdN 2 (pp b7) w' = some (runV (tvS bt T.length capt) mv) := fun h => h.rdN_bk 4 g4 (Nat.le_refl 2)
  -- behind the begins of both
  have J4 : ∀ (w14 : World) (u v : Int), IsAt M M.length 1 m.task u → IsAt M M.length 1 n.task v → Own B w14 F → j4_4 R (.int .i64 m.task) (.int .i64 n.task) lv (.int .i64 a) (.int .i64 b) (pp b7) I1 m1 wh2 (.int .i64 u) (.int .i64 v) w14 := by
    intro w14 u v hu hv h14
    obtain ⟨s, k, rfl, hsa, hk, hkm, hk1⟩ := hr.first hma hu
    obtain ⟨t, l, rfl, htb, hl, hln, hl1'⟩ := hr.first hnb hv
    obtain ⟨rs, hrs⟩ := list_get (l := rl) (j := s) (by omega)
    have J5 : ∀ w', Own B w' F → j4_5 R (.int .i64 m.task) (.int .i64 n.task) (pp b7) lv (.int .i64 s) (.int .i64 t) (.int .i64 a) (.int .i64 b) I1 m1 wh2 (.bool false) w' := by
      intro w' h
      unfold j4_5
      refine Bc_f ?_
      refine h.dr fun w2 h2 => ?_
      clear h
      (repeat with_reducible first | refine qq ?_ | refine qr ?_ | refine qs ?_)
      refine Bc_dec (fun hxy => ?_) (fun _ => JN w2 h2)
      obtain ⟨bx, hixx, hrdx, _⟩ := h2.el 0 g0 encTK_len hx
      obtain ⟨by_, hixy, hrdy, _⟩ := h2.el 0 g0 encTK_len hy
      (repeat with_reducible first | refine qq ?_ | refine qr ?_ | refine qs ?_)
      refine O.mk (h2.rd1_bk 4 g4 rfl) ?_
      (repeat with_reducible first | refine qq ?_ | refine qr ?_ | refine qs ?_)
      refine O.mk (hixx _ _ (by omega) rfl) ?_
      (repeat with_reducible first | refine qq ?_ | refine qr ?_ | refine qs ?_)
      refine O.mk (hrdx 4 _ rfl) ?_
      (repeat with_reducible first | refine qq ?_ | refine qr ?_ | refine qs ?_)
      refine Bc_dec (fun hx0 => ?_) (fun _ => JN w2 h2)
      (repeat with_reducible first | refine qq ?_ | refine qr ?_ | refine qs ?_)
      refine O.mk (h2.rd1_bk 4 g4 rfl) ?_
      (repeat with_reducible first | refine qq ?_ | refine qr ?_ | refine qs ?_)
      refine O.mk (hixx _ _ (by omega) rfl) ?_
      (repeat with_reducible first | refine qq ?_ | refine qr ?_ | refine qs ?_)
      refine O.mk (hrdx 4 _ rfl) ?_
      (repeat with_reducible first | refine qq ?_ | refine qr ?_ | refine qs ?_)
      refine O.mk (h2.rd1_bk 4 g4 rfl) ?_
      (repeat with_reducible first | refine qq ?_ | refine qr ?_ | refine qs ?_)
      refine O.mk (hixy _ _ (by omega) rfl) ?_
      (repeat with_reducible first | refine qq ?_ | refine qr ?_ | refine qs ?_)
      refine O.mk (hrdy 4 _ rfl) ?_
      (repeat with_reducible first | refine qq ?_ | refine qr ?_ | refine qs ?_)
      refine Bc_dec (fun hlo => ?_) (fun _ => JN w2 h2)
      refine hrow s rs hrs h2 fun q1 hq1 => ?_
      refine O.mk hq1 ?_
      refine hcol s t rs hrs (by omega) h2 fun q2 hq2 => ?_
      refine O.mk hq2 ?_
      refine Bc_b (fun hst => ?_) (fun _ => JN w2 h2)
      refine hrow a r hrr h2 fun q3 hq3 => ?_
      refine O.mk hq3 ?_
      refine hcol a b r hrr (by omega) h2 fun q4 hq4 => ?_
      refine O.mk hq4 ?_
      have hab := (hl3 a b (by omega) (by omega)).2 (HB.loop hr hb he hma hnb hk hkm hk1 hl hln hl1' htb hx hy hx0 hlo hxy ((hl3 s t (by omega) (by omega)).1 hst))
      rw [hab]
      (repeat with_reducible first | refine qq ?_ | refine qr ?_ | refine qs ?_)
      exact JN w2 h2
    have J5b : ∀ w' c, c = false → Own B w' F → j4_5 R (.int .i64 m.task) (.int .i64 n.task) (pp b7) lv (.int .i64 s) (.int .i64 t) (.int .i64 a) (.int .i64 b) I1 m1 wh2 (.bool c) w' := by
      rintro w' _ rfl h
      exact J5 w' h
    have JM : O (bi .neq (.int .i64 m.task) (.int .i64 n.task)) fun t127 =>
        Bc t127
        (O (bi .neq (.int .i64 s) (.int .i64 a)) fun t131 =>
        Bc t131
        (O (iS 1 lv (.int .i64 a)) fun t136 =>
        O (rd1 t136 w14) fun t137 =>
        O (iS 1 t137 (.int .i64 t)) fun t139 =>
        O (rd1 t139 w14) fun t140 =>
        Bc t140
        (O (iS 1 lv (.int .i64 a)) fun t145 =>
        O (rd1 t145 w14) fun t146 =>
        O (iS 1 t146 (.int .i64 b)) fun t148 =>
        O (rd1 t148 w14) fun t149 =>
        O (un .not t149) fun t150 =>
        j4_5 R (.int .i64 m.task) (.int .i64 n.task) (pp b7) lv (.int .i64 s) (.int .i64 t) (.int .i64 a) (.int .i64 b) I1 m1 wh2 t150 w14)
        (j4_5 R (.int .i64 m.task) (.int .i64 n.task) (pp b7) lv (.int .i64 s) (.int .i64 t) (.int .i64 a) (.int .i64 b) I1 m1 wh2 (.bool false) w14))
        (j4_5 R (.int .i64 m.task) (.int .i64 n.task) (pp b7) lv (.int .i64 s) (.int .i64 t) (.int .i64 a) (.int .i64 b) I1 m1 wh2 (.bool false) w14))
        (j4_5 R (.int .i64 m.task) (.int .i64 n.task) (pp b7) lv (.int .i64 s) (.int .i64 t) (.int .i64 a) (.int .i64 b) I1 m1 wh2 (.bool false) w14) := by
      (repeat with_reducible first | refine qq ?_ | refine qr ?_ | refine qs ?_)
      refine Bc_dec (fun hxy => ?_) (fun _ => J5 _ h14)
      (repeat with_reducible first | refine qq ?_ | refine qr ?_ | refine qs ?_)
      refine Bc_dec (fun hsa' => ?_) (fun _ => J5 _ h14)
      refine hrow a r hrr h14 fun q1 hq1 => ?_
      refine O.mk hq1 ?_
      refine hcol a t r hrr (by omega) h14 fun q2 hq2 => ?_
      refine O.mk hq2 ?_
      refine Bc_b (fun hat => ?_) (fun _ => J5 _ h14)
      refine hrow a r hrr h14 fun q3 hq3 => ?_
      refine O.mk hq3 ?_
      refine hcol a b r hrr (by omega) h14 fun q4 hq4 => ?_
      refine O.mk hq4 ?_
      have hab := (hl3 a b (by omega) (by omega)).2 (HB.into hnb hl hln htb ((hl3 a t (by omega) (by omega)).1 hat))
      rw [hab]
      (repeat with_reducible first | refine qq ?_ | refine qr ?_ | refine qs ?_)
      exact J5 _ h14
    unfold j4_4
    refine O.mk bi_eql ?_
    refine Bc_dec (fun hxy => ?_) (fun _ => JM)
    refine hrow a r hrr h14 fun q1 hq1 => ?_
    refine O.mk hq1 ?_
    refine hcol a b r hrr (by omega) h14 fun q2 hq2 => ?_
    refine O.mk hq2 ?_
    refine O.mk bi_lss ?_
    have hab : HasB rl a b = decide ((a : Int) < b) := by
      rw [Bool.eq_iff_iff, hl3 a b (by omega) (by omega), HB.same hr hb he hma hnb hxy, decide_eq_true_iff]
      omega
    have hbb : bb .neq (.bool (HasB rl a b)) (.bool (decide ((a : Int) < b))) = some (.bool false) := by rw [hab]; simp [bb]
    refine O.mk hbb ?_
    exact Bc_f JM
  refine O.mk (rd hw13) ?_
  refine ⟨?_, ?_⟩
  · refine (h13 m.task hw13).use ?_
    clear hw13
    rintro _ w14 ⟨⟨u, rfl, hu⟩, h14⟩
    refine O.mk (rd h14) ?_
    refine (h13 n.task h14).use ?_
    clear h14
    rintro _ w15 ⟨⟨v, rfl, hv⟩, h15⟩
    exact J4 _ _ _ hu hv h15
  · refine O.mk (rd hw13) ?_
    refine (h13 m.task hw13).use ?_
    clear hw13
    rintro _ w14 ⟨⟨u, rfl, hu⟩, h14⟩
    refine (h13 n.task h14).use ?_
    clear h14
    rintro _ w15 ⟨⟨v, rfl, hv⟩, h15⟩
    exact J4 _ _ _ hu hv h15
set_option maxHeartbeats 4000000 in
set_option maxRecDepth 4000 in
theorem k4 (hP : ProgOK B p) (hbd : p.nl < 2 ^ 48 ∧ p.ng < 2 ^ 48) {ev : Value} {es : List EN} (hE : osl B 3 ev es.length (es.flatMap encEN)) (hw : Own B w L) :
    Cl Try.prog 4 [progV p, ev] w fun v w' => v = .bool true ∧ Own B w' [] := by
  obtain ⟨R, hR⟩ : ∃ R : Value → World → Prop, R = fun v w' => v = .bool true ∧ Own B w' [] := ⟨_, rfl⟩
  rw [← hR]
  have hnil : ∀ {w' : World} {L' : List Atom}, Own B w' L' → Own B w' [] := fun h => h.mono fun _ _ => trivial
  have hfin : ∀ {w' : World} {L' : List Atom}, Own B w' L' → Cl Try.prog 7 [] w' fun t46 w => R t46 w := fun h => by
    refine (k7 (hnil h)).use ?_
    rintro _ w2 ⟨rfl, h2⟩
    rw [hR]; exact ⟨rfl, h2⟩
  refine s4 ?_
  unfold c4
  refine hw.al fun b2 w1 hb2 hw1' => ?_
  have hw1 : Own B w1 (bk b2 30 (pcells p) :: L) := hw1'
  clear hw1' hw
  refine O.mk (v := progV p) (hw1.rdN_bk 0 rfl (Nat.le_refl 8)) ?_
  refine (k5 hP hbd hw1).use ?_
  clear hw1
  rintro _ w2 ⟨c, rfl, hw2⟩
  have J0 : ∀ c w3, (c = false → MayP p ∧ es.length ≤ 120) → Own B w3 (bk b2 30 (pcells p) :: L) → j4_0 R (pp b2) ev (.bool c) w3 := by
    intro c w3 hc hw3
    unfold j4_0
    refine Bc_b (fun _ => hfin hw3) (fun h => ?_)
    obtain ⟨hMy, hes⟩ := hc h
    refine O.mk (v := progV p) (hw3.rdN_bk 0 rfl (Nat.le_refl 8)) ?_
    refine (k8 hP hMy hw3).use ?_
    clear hw3
    rintro _ w4 ⟨s0, rfl, hF, hw4⟩
    obtain ⟨mb, hmb⟩ : ∃ mb, mb = s0.b := ⟨_, rfl⟩
    rw [← hmb]
    obtain ⟨I0, hI⟩ : ∃ I : Value → World → Prop, I = fun v w' => ∃ (i : Nat) (s : Mc), v = .int .i64 i ∧ i ≤ es.length ∧ s.b = mb ∧ Mid p s i ∧ Own B w' (mAtoms p s ++ (bk b2 30 (pcells p) :: L)) := ⟨_, rfl⟩
    obtain ⟨m0, hm⟩ : ∃ m : Value → World → Nat, m = fun v _ => match v with | .int _ i => (es.length - i).toNat | _ => 0 := ⟨_, rfl⟩
    refine ⟨I0, m0, by rw [hI]; exact ⟨0, s0, rfl, by omega, hmb.symm, hF.mid hMy, hw4⟩, ?_⟩
    clear hw4 hF hmb
    intro t6 wh0 h0
    rw [hI] at h0
    obtain ⟨i, s, rfl, hi, hsb, hmid, hw5⟩ := h0
    have hend : j4_1 R ev (.int .i64 i) (pp mb) I0 m0 wh0 (.bool false) wh0 := by
      unfold j4_1
      refine Bc_f ?_
      rw [← hsb]
      refine (k11 hw5).use ?_
      clear hw5
      rintro _ w6 ⟨rfl, hw6⟩
      obtain ⟨bt, capt, htv⟩ := hw6.slShape 6 rfl (by have := hmid.t1; omega)
      have hw7 := (hw6.pull 11 rfl).pull 7 rfl
      have hw8 : Own B w6 (rA s.tv s.mv s.T s.M ++ (((mAtoms p s ++ (bk b2 30 (pcells p) :: L)).eraseIdx 11).eraseIdx 6)) := hw7
      clear hw7 hw6
      obtain ⟨L2, hL2⟩ : ∃ L2, L2 = ((mAtoms p s ++ (bk b2 30 (pcells p) :: L)).eraseIdx 11).eraseIdx 6 := ⟨_, rfl⟩
      rw [← hL2] at hw8
      clear hL2
      have ht2 := hmid.t2
      have hm2 := hmid.m
      have hlt : s.T.length ≤ 256 := by omega
      have hln : s.M.length ≤ 1200 := by omega
      have hrun : RunOK s.T s.M := hmid.ci.run
      refine hw8.al fun b7 w7 hb7 hw7' => ?_
      have hw7 : Own B w7 (rA s.tv s.mv s.T s.M ++ (bk b7 52 [.slice none 0 0, .slice none 0 0] :: L2)) := hw7'.perm (List.perm_middle (l₁ := rA s.tv s.mv s.T s.M)).symm
      clear hw7' hw8
      rw [htv] at hw7 ⊢
      have hone : one s.mv = true := one_lenS (hw7.slLen 1 rfl)
      refine hw7.st_bk (x := runV (tvS bt s.T.length capt) s.mv) 2 rfl (by kernel_rfl) (by show (one (tvS bt s.T.length capt) && (one s.mv && true)) = true; rw [hone]; rfl) (Nat.le_refl 2) fun w9 hw9 => ?_
      clear hw7
      replace hw9 : Own B w9 (rA (tvS bt s.T.length capt) s.mv s.T s.M ++ (bk b7 52 [tvS bt s.T.length capt, s.mv] :: L2)) := hw9
      refine O.mk (v := runV (tvS bt s.T.length capt) s.mv) (hw9.rdN_bk 2 rfl (Nat.le_refl 2)) ?_
      refine (k12 hw9 hrun hlt hln).use ?_
      clear hw9
      rintro _ w10 ⟨lv, rl, bl, el, rfl, hb, he, hl1, hl2, hl3, hw10⟩
      refine O.mk (v := lv) rfl ?_
      refine O.mk (v := .int .i64 0) rfl ?_
      (repeat with_reducible first | refine qq ?_ | refine qr ?_ | refine qs ?_)
      refine Bc_dec (fun h => absurd rfl h) (fun _ => ?_)
      refine O.mk (hw10.slLen 2 rfl) ?_
      (repeat with_reducible first | refine qq ?_ | refine qr ?_ | refine qs ?_)
      refine O.mk (hw10.rd1_bk 4 rfl rfl) ?_
      refine O.mk (hw10.slLen 1 rfl) ?_
      rw [hl1]
      (repeat with_reducible first | refine qq ?_ | refine qr ?_ | refine qs ?_)
      rw [decide_eq_false (by omega)]
      exact k4_2 hR hrun hlt hln hb he hl1 hl2 hl3 hw10
    refine O.mk hE.len ?_
    (repeat with_reducible first | refine qq ?_ | refine qr ?_ | refine qs ?_)
    refine Bc_dec (fun hlt => ?_) (fun hge => hend)
    rw [← hsb]
    (repeat with_reducible first | refine qq ?_ | refine qr ?_ | refine qs ?_ | refine hw5.l 0 ?_)
    refine O.mk (hw5.slLen 11 rfl) ?_
    (repeat with_reducible first | refine qq ?_ | refine qr ?_ | refine qs ?_)
    by_cases hm155 : (s.M.length : Int) < 155
    · rw [decide_eq_true hm155, hsb]
      unfold j4_1
      refine Bc_t ?_
      obtain ⟨e, he⟩ := list_get (l := es) (j := i) (by omega)
      obtain ⟨b, o, hix, _, hrdN⟩ := hE.at_ (by omega) encEN_len he
      have hx := hix .i64 (i : Int) (by omega) (by omega)
      rw [show ((i : Int)).toNat = i by omega] at hx
      refine O.mk hx ?_
      refine O.mk (hrdN _ _ hw5) ?_
      rw [← hsb]
      have ht2 := hmid.t2
      refine (k9 hP hMy hw5 hmid.ok hmid.ci hmid.ne (by omega) (by omega) e.kind e.at_ e.n).use ?_
      rintro _ w6 ⟨er, s', rfl, hd, hw6⟩
      refine O.mk (bi_addb (a := i) (b := 1) (by omega)) ?_
      rw [hI, hm]
      exact ⟨⟨i + 1, s', rfl, by omega, hd.b.trans hsb, hd.mid hMy hmid (by omega), hw6⟩, by simp only; omega⟩
    · rw [decide_eq_false hm155, hsb]
      exact hend
  refine Bc_b (fun _ => J0 true w2 (fun h => by cases h) hw2) (fun _ => ?_)
  refine O.mk (v := progV p) (hw2.rdN_bk 0 rfl (Nat.le_refl 8)) ?_
  refine (k6 hP hw2).use ?_
  clear hw2
  rintro _ w3 ⟨c6, rfl, hc6, hw3⟩
  (repeat with_reducible first | refine qq ?_ | refine qr ?_ | refine qs ?_)
  refine Bc_b (fun _ => J0 true w3 (fun h => by cases h) hw3) (fun h6 => ?_)
  have h6' : c6 = true := by simpa using h6
  refine O.mk hE.len ?_
  (repeat with_reducible first | refine qq ?_ | refine qr ?_ | refine qs ?_)
  refine J0 _ w3 (fun h => ⟨hc6 h6', ?_⟩) hw3
  have := of_decide_eq_false h
  omega
end
end Go.Proofs.Ytedcfkigfcobaaa
end
