/-
  A part of the proof that the statement on the tasks of a machine returns true for every input: no condition is asked beyond those of the theorems below.
-/
import Derived.Test.YtedcfkigfcobaaaB7
set_option linter.unusedVariables false
set_option linter.unusedSimpArgs false
set_option linter.unusedSectionVars false
/- Contracts: a task's next instruction. -/
section
namespace Go.Proofs.Ytedcfkigfcobaaa
open Go Go.Proofs
attribute [local irreducible] Bc O AL BS MS MM ST AP CV Cl
def mkOf (id : Int) (c : AC) : MK := ⟨3, id, 0, c.site, c.kind, c.a, c.b, c.write⟩
/-- a step of a task, as the pure laws see it -/
def StepC (p : PP) (c : CS) (id : Int) (over : Bool) (c' : CS) : Prop :=
  ∃ acc : List MK, acc.length ≤ 1 ∧ (∀ m ∈ acc, m.kind = 3 ∧ m.task = id) ∧ ∃ c2, DeedC p { c with M := c.M ++ acc } id c2 ∧
    ((over = false ∧ c' = c2) ∨ (over = true ∧ ∃ t trap, c2.T[(id - 1).toNat]? = some t ∧ c' = { c2 with T := c2.T.set (id - 1).toNat { t with state := 3, trap := trap }, M := c2.M ++ [⟨2, id, 0, 0, 0, 0, 0, false⟩] }))
/-- what a step leaves -/
structure Stepped (p : PP) (s : Mc) (id : Int) (over : Bool) (e : Int) (s' : Mc) : Prop where
  b : s'.b = s.b
  steps : s'.steps = s.steps
  ok : SOK p s'
  core : StepC p s.core id over s'.core
  keep : ThKeep s s' id
  full : (e = 0 ∧ s'.full = s.full ∧ (over = false → ∀ t, s'.th[(id - 1).toNat]? = some t → t.fs ≠ [])) ∨ (e ≠ 0 ∧ over = false ∧ s'.full = true)
theorem DeedC.len {p : PP} {c c' : CS} {id : Int} (h : DeedC p c id c') : c'.M.length ≤ c.M.length + 2 := by
  rcases h with h | ⟨m, _, _, h⟩ | ⟨m, of_, t, Q', _, _, _, _, _, _, _, h⟩ | ⟨m, e, _, _, _, _, h⟩ | ⟨of_, t, _, _, _, _, h⟩ | ⟨a, of_, nth, Q', _, _, _, h⟩ <;> rw [h] <;> simp
section
variable {B : Base} {w : World} {L : List Atom} {p : PP}
theorem k71m (hP : ProgOK B p) (hM : MayP p) {s : Mc} (hw : Own B w (mAtoms p s ++ L)) (hS : SOK p s) {k : Nat} {th : TH} (hth : s.th[k]? = some th) (task it : Int) :
    Cl Try.prog 71 [pp th.b, pp s.h.b, .int .i64 task, .int .i64 it] w fun v w' => ∃ (a : AS) (e : Int), v = .tuple #[.agg (encAS a).toArray, .int .i64 e] ∧ ∃ (accs : List AC) (t' : TH) (h' : HS), accs.length ≤ 1 ∧ t'.b = th.b ∧ TOK p t' ∧ HOK h' ∧
      (a.op ≠ 0 → t' = th ∧ ∃ f g x, At p th f g x ∧ sharedB x.op = true ∧ AskOK x f.regs a) ∧ Own B w' (mAtoms p { s with h := h', th := s.th.set k t' } ++ (sl 65 5 a.acc accs.length (accs.flatMap encAC) :: L)) := by
  refine (k71 hP hM (hS.tok _ _ hth) hS.h (hw.thout hth) 0 3 rfl rfl (by decide) task it).use ?_
  rintro _ w' ⟨a, e, rfl, accs, t', h', h1, h2, h3, h4, h5, h6, hw'⟩
  refine ⟨a, e, rfl, accs, t', h', h1, h2, h4, h5, h6, ?_⟩
  obtain ⟨hb, hl, hv⟩ := h'
  simp only at h3
  subst h3
  replace hw' : Own B w' (sl 65 5 a.acc accs.length (accs.flatMap encAC) :: (threadA p t' :: sep ((s.th.eraseIdx k).map (threadA p)) :: (mAtoms p { s with h := ⟨s.h.b, hl, hv⟩ }).eraseIdx 8 ++ L)) := hw'
  have hw2 := hw'.perm (List.perm_middle (l₁ := threadA p t' :: sep ((s.th.eraseIdx k).map (threadA p)) :: (mAtoms p { s with h := ⟨s.h.b, hl, hv⟩ }).eraseIdx 8)).symm
  exact Own.thin (s := { s with h := ⟨s.h.b, hl, hv⟩ }) hth h2 hw2

set_option maxHeartbeats 4000000 in
theorem k44 (hP : ProgOK B p) (hMy : MayP p) {s : Mc} (hw : Own B w (mAtoms p s ++ L)) (hS : SOK p s) (hT : s.T.length < 240) (hM : s.M.length < 2 ^ 18) (hnow : 0 ≤ s.now ∧ s.now ≤ 1000000000000)
    (hfresh : ∀ (i j : Nat) q x, s.qs[i]? = some q → q.l[j]? = some x → x.task ≠ s.T.length + 1) (hpost : ∀ (i : Nat) (t : TK), s.T[i]? = some t → t.kind = 4 → 0 ≤ t.looper) {id : Int} (h1 : 1 ≤ id ∧ id ≤ s.T.length) (hj : JoinFree p s id) :
    Cl Try.prog 44 [pp s.b, .int .i64 id] w fun r w' => ∃ (c : Bool) (e : Int) (s' : Mc), r = .tuple #[.bool c, .int .i64 e] ∧ Stepped p s id c e s' ∧ Own B w' (mAtoms p s' ++ L) := by
  obtain ⟨R, hR⟩ : ∃ R : Value → World → Prop, R = fun r w' => ∃ (c : Bool) (e : Int) (s' : Mc), r = .tuple #[.bool c, .int .i64 e] ∧ Stepped p s id c e s' ∧ Own B w' (mAtoms p s' ++ L) := ⟨_, rfl⟩
  rw [← hR]
  have htl := hS.tl
  obtain ⟨th, hth⟩ := list_get (l := s.th) (j := (id - 1).toNat) (by omega)
  refine s44 ?_
  unfold c44
  obtain ⟨bt, hixt, hrdt⟩ := hw.thptr hth (q := id - 1) (by omega) rfl
  (repeat with_reducible first | refine qq ?_ | refine qr ?_ | refine qs ?_ | refine hw.l 0 ?_)
  refine O.mk hixt ?_
  refine O.mk hrdt ?_
  refine hw.dr fun w1 hw1 => ?_
  clear hw hixt hrdt
  obtain ⟨bk0, t, ht, hix, hrd⟩ := hw1.task (id := id) (by omega) (by omega)
  (repeat with_reducible first | refine qq ?_ | refine qr ?_ | refine qs ?_ | refine hw1.l 0 ?_)
  refine O.mk hix ?_
  (repeat with_reducible first | refine qq ?_ | refine qr ?_ | refine qs ?_)
  refine O.mk (hrd 10 _ rfl) ?_
  clear hrd hix
  have hend : ∀ (a : AS) (e : Int) (accs : List AC) (t' : TH) (h' : HS) (b7 : Nat) w', accs.length ≤ 1 → t'.b = th.b → TOK p t' → HOK h' → (a.op ≠ 0 → t' = th ∧ ∃ f g x, At p th f g x ∧ sharedB x.op = true ∧ AskOK x f.regs a) →
      Own B w' (mAtoms p { s with h := h', th := s.th.set (id - 1).toNat t' } ++ (sl 65 5 a.acc accs.length (accs.flatMap encAC) :: bk b7 162 [.int .i64 0, .int .i64 0, .int .i64 0, .int .i64 0, .int .i64 0, .slice none 0 0] :: L)) →
      ST Try.prog 162 (pp b7) (.agg (encAS a).toArray) w' fun _ w => j44_0 R (pp s.b) (.int .i64 id) (pp th.b) (pp b7) (.int .i64 e) w := by
    intro a e accs t' h' b7 w' ha1 hb' htok' hh' hop hw2
    have haone : one a.acc = true := sl_one hw2 13 rfl
    refine hw2.st_bk (x := .agg (encAS a).toArray) 14 rfl (by kernel_rfl) (encAS_one haone) (Nat.le_refl 6) fun w3 hw3 => ?_
    clear hw2
    obtain ⟨L5, hL5⟩ : ∃ L5, L5 = sl 65 5 a.acc accs.length (accs.flatMap encAC) :: bk b7 162 (encAS a) :: L := ⟨_, rfl⟩
    obtain ⟨s1, hs1⟩ : ∃ s1 : Mc, s1 = { s with h := h', th := s.th.set (id - 1).toNat t' } := ⟨_, rfl⟩
    replace hw3 : Own B w3 (mAtoms p s1 ++ L5) := by rw [hL5, hs1]; exact hw3
    have hback : ∀ {s' : Mc} {w'}, Own B w' (mAtoms p s' ++ L5) → Own B w' (mAtoms p s' ++ L) := fun {s' w'} h => by
      rw [hL5] at h
      exact ((h.perm List.perm_middle).tail.perm List.perm_middle).tail
    have h13 : ∀ s' : Mc, (mAtoms p s' ++ L5)[13]? = some (sl 65 5 a.acc accs.length (accs.flatMap encAC)) := fun s' => by rw [hL5]; rfl
    have h14 : ∀ s' : Mc, (mAtoms p s' ++ L5)[14]? = some (bk b7 162 (encAS a)) := fun s' => by rw [hL5]; rfl
    have ask : ∀ {s' : Mc} {w'}, Own B w' (mAtoms p s' ++ L5) → ∀ k y, (encAS a)[k]? = some y → rd1 (.pointer (some ⟨b7, k, none⟩)) w' = some y := fun {s' w'} h k y hy => h.rd1_bk 14 (h14 s') hy
    clear hL5
    have hS1 : SOK p s1 := by rw [hs1]; exact SOK.thset (SOK.heap hS hh') htok'
    have hkeep1 : ∀ s' : Mc, ThKeep s1 s' id → ThKeep s s' id := fun s' h => by
      rw [hs1] at h
      refine ⟨fun k u hk hu => h.1 k u hk (by simp only; rw [List.getElem?_set_ne (Ne.symm hk)]; exact hu), fun k u hk hu => h.2 k u (by simp only [List.length_set]; exact hk) hu⟩
    have hb1 : s1.b = s.b := by rw [hs1]
    have hst1 : s1.steps = s.steps := by rw [hs1]
    have hfl1 : s1.full = s.full := by rw [hs1]
    have hc1 : s1.core = s.core := by rw [hs1]; rfl
    have hT1 : s1.T = s.T := by rw [hs1]
    have hM1 : s1.M = s.M := by rw [hs1]
    have hn1 : s1.now = s.now := by rw [hs1]
    have hq1 : s1.qs = s.qs := by rw [hs1]
    have hth1 : s1.th = s.th.set (id - 1).toNat t' := by rw [hs1]
    have hk1 : (s.th.set (id - 1).toNat t')[(id - 1).toNat]? = some t' := List.getElem?_set_self (list_lt hth)
    clear hs1
    unfold j44_0
    (repeat with_reducible first | refine qq ?_ | refine qr ?_ | refine qs ?_)
    refine Bc_dec (fun he => ?_) (fun he => ?_)
    · rw [← hb1]
      refine (k41 hw3).use ?_
      rintro _ w4 ⟨rfl, hw4⟩
      rw [hR]
      refine ⟨false, 11, { s1 with full := true }, rfl, ⟨hb1, hst1, SOK.flags (n := s1.now) (st := s1.steps) hS1, ?_, hkeep1 _ (ThKeep.same _ rfl), .inr ⟨by decide, rfl, rfl⟩⟩, hback hw4⟩
      refine ⟨[], by decide, (fun m hm => by cases hm), s.core, .inl ?_, .inl ⟨rfl, hc1⟩⟩
      simp
    · obtain ⟨I0, hI⟩ : ∃ I : Value → World → Prop, I = fun v w' => ∃ (i : Nat) (mv : Value), v = .int .i64 i ∧ i ≤ accs.length ∧ Own B w' (mAtoms p { s1 with mv := mv, M := s1.M ++ (accs.take i).map (mkOf id) } ++ L5) := ⟨_, rfl⟩
      obtain ⟨m0, hm⟩ : ∃ m : Value → World → Nat, m = fun v _ => match v with | .int _ i => (accs.length - i).toNat | _ => 0 := ⟨_, rfl⟩
      refine ⟨I0, m0, by rw [hI]; exact ⟨0, s1.mv, rfl, by omega, by simpa using hw3⟩, ?_⟩
      clear hw3
      intro t9 wh0 h0
      rw [hI] at h0
      obtain ⟨i, mv, rfl, hi, hw4⟩ := h0
      (repeat with_reducible first | refine qq ?_ | refine qr ?_ | refine qs ?_)
      refine O.mk (ask hw4 5 _ rfl) ?_
      refine O.mk (hw4.slLen 13 (h13 _)) ?_
      (repeat with_reducible first | refine qq ?_ | refine qr ?_ | refine qs ?_)
      refine Bc_dec (fun hlt => ?_) (fun hge => ?_)
      · refine hw4.dr fun w5 hw5 => ?_
        clear hw4
        rw [← hb1]
        (repeat with_reducible first | refine qq ?_ | refine qr ?_ | refine qs ?_ | refine hw5.l 0 ?_)
        refine O.mk (ask hw5 5 _ rfl) ?_
        obtain ⟨ac, hac⟩ := list_get (l := accs) (j := i) (by omega)
        obtain ⟨ba, hixa, hrda, hrdaN⟩ := hw5.el 13 (h13 _) encAC_len hac
        refine O.mk (hixa _ _ (by omega) rfl) ?_
        refine O.mk hrdaN ?_
        refine O.mk (fill67a _ ac) ?_
        refine hw5.mark (K := fun _ w => O (bi .add (.int .i64 i) (.int .i64 1)) fun t50 => I0 t50 w ∧ m0 t50 w < m0 (.int .i64 i) wh0) (by have := congrArg List.length hM1; simp only [List.length_append, List.length_map, List.length_take]; omega) _ fun v w6 hw6 => ?_
        refine O.mk (bi_addb (a := i) (b := 1) (by omega)) ?_
        rw [hI, hm]
        refine ⟨⟨i + 1, v, rfl, by omega, ?_⟩, by simp only; omega⟩
        have e1 : accs.take (i + 1) = accs.take i ++ [ac] := by rw [List.take_add_one, hac]; rfl
        rw [e1, List.map_append, ← List.append_assoc]
        exact hw6
      · have hie : i = accs.length := by omega
        subst hie
        rw [List.take_length] at hw4
        obtain ⟨s2, hs2⟩ : ∃ s2 : Mc, s2 = { s1 with mv := mv, M := s1.M ++ accs.map (mkOf id) } := ⟨_, rfl⟩
        rw [← hs2] at hw4
        have hS2 : SOK p s2 := by rw [hs2]; exact SOK.marks hS1
        have hth2 : s2.th[(id - 1).toNat]? = some t' := by rw [hs2]; simp only; rw [hth1]; exact hk1
        have hc2 : s2.core = { s.core with M := s.core.M ++ accs.map (mkOf id) } := by rw [hs2, ← hc1]; rfl
        have hb2 : s2.b = s.b := by rw [hs2]; exact hb1
        have hst2 : s2.steps = s.steps := by rw [hs2]; exact hst1
        have hfl2 : s2.full = s.full := by rw [hs2]; exact hfl1
        have hkeep2 : ∀ s' : Mc, ThKeep s2 s' id → ThKeep s s' id := fun s' h => hkeep1 s' (by rw [hs2] at h; exact h)
        have hT2 : s2.T = s.T := by rw [hs2]; exact hT1
        have hn2 : s2.now = s.now := by rw [hs2]; exact hn1
        have hq2 : s2.qs = s.qs := by rw [hs2]; exact hq1
        have hM2 : s2.M.length ≤ s.M.length + 1 := by rw [hs2]; simp only [List.length_append, List.length_map, hM1]; omega
        clear hs2
        have JE : ∀ (s3 : Mc) (tr : Int) w7, s3.b = s.b → s3.steps = s.steps → SOK p s3 → (∃ c2, DeedC p { s.core with M := s.core.M ++ accs.map (mkOf id) } id c2 ∧ s3.core = c2) → ThKeep s s3 id → s3.full = s.full → (∃ t3, s3.th[(id - 1).toNat]? = some t3 ∧ t3.b = th.b) → Own B w7 (mAtoms p s3 ++ L5) → j44_1 R (pp th.b) (pp s.b) (.int .i64 id) (.int .i64 tr) w7 := by
          intro s3 tr w7 e1 e2 e3 e4 e5 e6 ⟨t3, e7, e8⟩ hw7
          have hlt3 := list_lt e7
          have htl3 := e3.tl
          obtain ⟨tk, htk⟩ := list_get (l := s3.T) (j := (id - 1).toNat) (by omega)
          obtain ⟨c2, hd, hcc⟩ := e4
          have hacc : ∀ m ∈ accs.map (mkOf id), m.kind = 3 ∧ m.task = id := fun m hm => by
            obtain ⟨c, _, rfl⟩ := List.mem_map.1 hm
            exact ⟨rfl, rfl⟩
          have hM3 : s3.M.length < 2 ^ 20 := by
            have h4 : s3.M = c2.M := by rw [← hcc]; rfl
            have h5 : s.core.M.length = s.M.length := rfl
            rw [h4]
            have := hd.len
            simp only [List.length_append, List.length_map] at this
            omega
          have JX : j44_2 R (pp s.b) (.int .i64 id) (.int .i64 tr) (.bool false) w7 := by
            unfold j44_2
            refine Bc_f ?_
            rw [← e1]
            obtain ⟨b, tk', htk', hix, hrd⟩ := hw7.task (id := id) (by omega) (by omega)
            rw [htk] at htk'; cases htk'
            (repeat with_reducible first | refine qq ?_ | refine qr ?_ | refine qs ?_ | refine hw7.l 0 ?_)
            refine O.mk hix ?_
            (repeat with_reducible first | refine qq ?_ | refine qr ?_ | refine qs ?_)
            refine hw7.taskst htk (t' := { tk with state := 3 }) (k := 11) (X := .int .i64 3) hix tsz70 rfl (by decide) rfl fun w8 hw8 => ?_
            (repeat with_reducible first | refine qq ?_ | refine qr ?_ | refine qs ?_ | refine hw8.l 0 ?_)
            refine O.mk hix ?_
            (repeat with_reducible first | refine qq ?_ | refine qr ?_ | refine qs ?_)
            refine hw8.taskst (t := { tk with state := 3 }) (t' := { tk with state := 3, trap := tr }) (k := 12) (X := .int .i64 tr) (by simp only; rw [List.getElem?_set_self (list_lt htk)]) hix tsz71 rfl (by show 12 + 1 ≤ 15; decide) rfl fun w9 hw9 => ?_
            simp only [List.set_set] at hw9
            refine (k69 hw9 (by simp only; omega) 2 id 0).use ?_
            rintro _ w10 ⟨rfl, mv3, hw10⟩
            rw [hR]
            refine ⟨true, 0, { s3 with T := s3.T.set (id - 1).toNat { tk with state := 3, trap := tr }, mv := mv3, M := s3.M ++ [⟨2, id, 0, 0, 0, 0, 0, false⟩] }, rfl, ⟨e1, e2, SOK.marks (SOK.taskset e3 htk (t' := { tk with state := 3, trap := tr }) rfl), ?_, e5, .inl ⟨rfl, e6, fun h => by cases h⟩⟩, hback hw10⟩
            refine ⟨accs.map (mkOf id), by rw [List.length_map]; exact ha1, hacc, c2, hd, .inr ⟨rfl, tk, tr, ?_, ?_⟩⟩
            · rw [← hcc]; exact htk
            · rw [← hcc]; rfl
          unfold j44_1
          (repeat with_reducible first | refine qq ?_ | refine qr ?_ | refine qs ?_)
          refine Bc_dec (fun htr => ?_) (fun htr => JX)
          rw [← e8]
          refine (k73 (hw7.thout e7) 0 rfl).use ?_
          rintro _ _ ⟨rfl, rfl⟩
          (repeat with_reducible first | refine qq ?_ | refine qr ?_ | refine qs ?_)
          by_cases hov : t3.fs.length = 0 ∨ t3.trap ≠ 0
          · rw [decide_eq_false (not_not_intro hov)]
            exact JX
          · rw [decide_eq_true hov]
            unfold j44_2
            refine Bc_t ?_
            rw [hR]
            refine ⟨false, 0, s3, rfl, ⟨e1, e2, e3, ⟨accs.map (mkOf id), by rw [List.length_map]; exact ha1, hacc, c2, hd, .inl ⟨rfl, hcc⟩⟩, e5, .inl ⟨rfl, e6, fun _ t5 h5 => ?_⟩⟩, hback hw7⟩
            rw [e7] at h5; cases h5
            intro h0
            apply hov
            rw [h0]
            exact .inl rfl
        have hwt := (hw4.thout hth2).opn 0 rfl
        rw [← hb']
        (repeat with_reducible first | refine qq ?_ | refine qr ?_ | refine qs ?_ | refine hwt.l 0 ?_)
        rw [hb']
        refine O.mk (ask hw4 0 _ rfl) ?_
        (repeat with_reducible first | refine qq ?_ | refine qr ?_ | refine qs ?_)
        have hown : ∃ t3, s2.th[(id - 1).toNat]? = some t3 ∧ t3.b = th.b := ⟨t', hth2, hb'⟩
        refine Bc_dec (fun ha => ?_) (fun ha => JE s2 _ _ hb2 hst2 hS2 ⟨_, .inl rfl, hc2⟩ (hkeep2 _ (ThKeep.same _ rfl)) hfl2 hown hw4)
        obtain ⟨rfl, f, g, x, hA, hsh, hask⟩ := hop ha
        refine O.mk (v := .agg (encAS a).toArray) (hw4.rdN_bk 14 (h14 s2) (Nat.le_refl 6)) ?_
        rw [← hb2]
        have hjf : JoinFree p s2 id := fun th' f' g' x' y h1 h2 h3 h4 t h5 h6 h7 => by
          rw [hth2] at h1; cases h1
          rw [hT2] at h6
          exact hj t' f' g' x' y hth h2 h3 h4 t h5 h6 h7
        refine (k72 hP hMy hw4 hS2 (by rw [hT2]; exact hT) (by omega) (by rw [hn2]; exact hnow) (by rw [hT2, hq2]; exact hfresh) (by rw [hT2]; exact hpost) (by rw [hT2]; exact h1) hth2 hA hsh hask hjf).use ?_
        rintro _ w5 ⟨c, e', s3, rfl, hfull, hD, hw5⟩
        refine O.mk (v := .bool c) rfl ?_
        refine O.mk (v := .int .i64 e') rfl ?_
        (repeat with_reducible first | refine qq ?_ | refine qr ?_ | refine qs ?_)
        have hcore : DeedC p { s.core with M := s.core.M ++ accs.map (mkOf id) } id s3.core := by
          have := hD.core
          rw [hc2] at this
          exact this
        have hk3 : ThKeep s s3 id := hkeep2 _ hD.keep
        refine Bc_dec (fun he' => ?_) (fun he' => ?_)
        · rw [hR]
          rcases hfull with ⟨h0, _⟩ | ⟨_, hf⟩
          · exact absurd h0 he'
          · refine ⟨false, e', s3, rfl, ⟨hD.b.trans hb2, hD.steps.trans hst2, hD.ok, ⟨accs.map (mkOf id), by rw [List.length_map]; exact ha1, fun m hm => ?_, s3.core, hcore, .inl ⟨rfl, rfl⟩⟩, hk3, .inr ⟨he', rfl, hf⟩⟩, hback hw5⟩
            obtain ⟨c, _, rfl⟩ := List.mem_map.1 hm
            exact ⟨rfl, rfl⟩
        · have hf3 : s3.full = s.full := by
            rcases hfull with ⟨_, hf⟩ | ⟨h0, _⟩
            · exact hf.trans hfl2
            · exact absurd h0 he'
          rw [hb2]
          exact Bc_b (fun _ => JE s3 _ _ (hD.b.trans hb2) (hD.steps.trans hst2) hD.ok ⟨_, hcore, rfl⟩ hk3 hf3 hD.own hw5) (fun _ => JE s3 _ _ (hD.b.trans hb2) (hD.steps.trans hst2) hD.ok ⟨_, hcore, rfl⟩ hk3 hf3 hD.own hw5)
  refine ⟨?_, ?_⟩
  · refine (k71m hP hMy hw1 hS hth id t.payload).use ?_
    rintro _ w2 ⟨a, e, rfl, accs, t', h', h3, h4, h5, h6, h7, hw2⟩
    refine O.mk (v := .agg (encAS a).toArray) rfl ?_
    refine O.mk (v := .int .i64 e) rfl ?_
    refine hw2.al fun b7 w3 hb7 hw3 => ?_
    exact hend a e accs t' h' b7 w3 h3 h4 h5 h6 h7 (hw3.perm (List.perm_middle (l₁ := mAtoms p { s with h := h', th := s.th.set (id - 1).toNat t' } ++ [sl 65 5 a.acc accs.length (accs.flatMap encAC)])).symm)
  · refine hw1.al fun b7 w3 hb7 hw3 => ?_
    refine (k71m hP hMy (L := bk b7 162 [.int .i64 0, .int .i64 0, .int .i64 0, .int .i64 0, .int .i64 0, .slice none 0 0] :: L) (hw3.perm (List.perm_middle (l₁ := mAtoms p s)).symm) hS hth id t.payload).use ?_
    rintro _ w2 ⟨a, e, rfl, accs, t', h', h3, h4, h5, h6, h7, hw2⟩
    refine O.mk (v := .agg (encAS a).toArray) rfl ?_
    refine O.mk (v := .int .i64 e) rfl ?_
    exact hend a e accs t' h' b7 w2 h3 h4 h5 h6 h7 hw2
end
end Go.Proofs.Ytedcfkigfcobaaa
end
/- What holds of a machine's run, and what may befall it: the pure view. -/
section
namespace Go.Proofs.Ytedcfkigfcobaaa
open Go Go.Proofs
attribute [local irreducible] Bc O AL BS MS MM ST AP CV Cl
structure MarkOK (T : List TK) (M : List MK) (i : Nat) (m : MK) : Prop where
  task : 1 ≤ m.task ∧ m.task ≤ T.length
  kind : 1 ≤ m.kind ∧ m.kind ≤ 7
  fst : m.kind = 1 ↔ ∀ (j : Nat) (n : MK), j < i → M[j]? = some n → ¬ (n.task = m.task ∧ n.kind = 1)
  noend : ∀ (j : Nat) (n : MK), j < i → M[j]? = some n → n.task = m.task → n.kind ≠ 2
  made : m.kind = 4 ∨ m.kind = 5 → m.task < m.other ∧ ∃ t, T[(m.other - 1).toNat]? = some t ∧ t.kind = m.kind ∧ t.by_ = m.task ∧ t.mark = i ∧ ∀ (j : Nat) (n : MK), j < i → M[j]? = some n → n.task ≠ m.other
  join : m.kind = 6 → 1 ≤ m.other ∧ ∃ t, T[(m.other - 1).toNat]? = some t ∧ t.kind = 5 ∧ ∃ (j : Nat) (n : MK), j < i ∧ M[j]? = some n ∧ n.task = m.other ∧ n.kind = 2
  enable : m.kind = 7 → 0 ≤ m.other
structure TaskOK (p : PP) (c : CS) (i : Nat) (t : TK) : Prop where
  kind : 1 ≤ t.kind ∧ t.kind ≤ 5
  lo : t.looper < p.nl ∧ (t.kind = 5 ↔ t.looper < 0)
  state : 1 ≤ t.state ∧ t.state ≤ 4
  canc : t.state = 4 → t.kind = 4
  fresh : t.state = 1 ∨ t.state = 4 → ∀ (j : Nat) (n : MK), c.M[j]? = some n → n.task ≠ i + 1
  begun : t.state = 2 ∨ t.state = 3 → ∃ (j : Nat) (n : MK), c.M[j]? = some n ∧ n.task = i + 1 ∧ n.kind = 1
  open_ : t.state = 2 → ∀ (j : Nat) (n : MK), c.M[j]? = some n → n.task = i + 1 → n.kind ≠ 2
  over : t.state = 3 → ∃ (j : Nat) (n : MK), c.M[j]? = some n ∧ n.task = i + 1 ∧ n.kind = 2
  mark0 : t.kind = 1 ∨ t.kind = 2 → t.mark < 0
  markP : t.kind = 4 ∨ t.kind = 5 → 0 ≤ t.mark ∧ ∃ n, c.M[t.mark.toNat]? = some n ∧ n.kind = t.kind ∧ n.other = i + 1
  markE : t.kind = 3 → t.mark < 0 ∨ (0 ≤ t.mark ∧ ∃ n, c.M[t.mark.toNat]? = some n ∧ n.kind = 7 ∧ n.other = t.of_)
  later : ∀ (j : Nat) (n : MK), c.M[j]? = some n → n.task = i + 1 → t.mark < j
  foll : t.kind = 2 ∨ t.kind = 3 → t.front = false ∧ t.due ≤ c.now ∧ 0 ≤ t.of_ ∧ (t.kind = 2 → ∃ k, p.comps[t.of_.toNat]? = some k ∧ t.looper = k.looper) ∧ (t.kind = 3 → ∃ k, p.events[t.of_.toNat]? = some k ∧ t.looper = k.looper)
  prev : t.prev = 0 ∨ ∃ (k : Nat) (o : TK), t.prev = k + 1 ∧ k < i ∧ c.T[k]? = some o ∧ (t.kind = 2 ∨ t.kind = 3) ∧ o.kind = t.kind ∧ o.of_ = t.of_ ∧ o.looper = t.looper ∧
    ∀ (j : Nat) (n : MK), c.M[j]? = some n → n.task = i + 1 → ∃ (j' : Nat) (n' : MK), j' < j ∧ c.M[j']? = some n' ∧ n'.task = k + 1 ∧ n'.kind = 2
structure QueueOK (T : List TK) (lo : Nat) (l : List QI) : Prop where
  it : ∀ (j : Nat) (x : QI), l[j]? = some x → 1 ≤ x.task ∧ ∃ t, T[(x.task - 1).toNat]? = some t ∧ t.looper = lo ∧ t.state = 1 ∧ x.front = t.front ∧ x.due = t.due
  all : ∀ (i : Nat) (t : TK), T[i]? = some t → t.looper = lo → t.state = 1 → ∃ (j : Nat) (x : QI), l[j]? = some x ∧ x.task = i + 1
  ord : ∀ (j k : Nat) (x y : QI), j < k → l[j]? = some x → l[k]? = some y → x.task < y.task
structure CI (p : PP) (c : CS) : Prop where
  now : 0 ≤ c.now ∧ c.now ≤ 1000000000000
  tk : ∀ (i : Nat) (t : TK), c.T[i]? = some t → TaskOK p c i t
  mks : ∀ (i : Nat) (m : MK), c.M[i]? = some m → MarkOK c.T c.M i m
  ql : c.Q.length = p.nl
  rl : c.runs.length = p.nl
  ol : c.on.length = p.events.length
  qs : ∀ (lo : Nat) (l : List QI), c.Q[lo]? = some l → QueueOK c.T lo l
  rs : ∀ (lo : Nat) (r : Int), c.runs[lo]? = some r → r = 0 ∨ (1 ≤ r ∧ ∃ t, c.T[(r - 1).toNat]? = some t ∧ t.looper = lo ∧ t.state = 2)
  run1 : ∀ (i : Nat) (t : TK), c.T[i]? = some t → t.state = 2 → 0 ≤ t.looper → c.runs[t.looper.toNat]? = some ((i : Int) + 1)
  on : ∀ (e : Nat) (v : Int), c.on[e]? = some v → v = -1 ∨ (0 ≤ v ∧ ∃ n, c.M[v.toNat]? = some n ∧ n.kind = 7 ∧ n.other = e)
  due : ∀ (i k : Nat) (t u : TK), i < k → c.T[i]? = some t → c.T[k]? = some u → (t.kind = 2 ∨ t.kind = 3) → (u.kind = 2 ∨ u.kind = 3) → t.due ≤ u.due
  alone : ∀ (a b : Nat) (m n : MK) (t u : TK), a < b → c.M[a]? = some m → c.M[b]? = some n → m.kind = 1 → n.kind = 1 → c.T[(m.task - 1).toNat]? = some t → c.T[(n.task - 1).toNat]? = some u → 0 ≤ t.looper → t.looper = u.looper →
    ∃ (e : Nat) (n' : MK), e < b ∧ c.M[e]? = some n' ∧ n'.task = m.task ∧ n'.kind = 2
def newTC (c : CS) (t : TK) : TK := { t with state := 1, due := c.now + t.delay }
def addQC (c : CS) (t : TK) : List (List QI) := if 0 ≤ t.looper then c.Q.modify t.looper.toNat (· ++ [⟨c.T.length + 1, t.front, c.now + t.delay⟩]) else c.Q
def beginC (c : CS) (id : Int) (t : TK) : CS := { c with T := c.T.set (id - 1).toNat { t with state := 2 }, M := c.M ++ beginMarks id t }
/-- what an entry does, as the pure laws see it -/
inductive OpC (p : PP) (c : CS) : CS → Prop
  | same : OpC p c c
  | tick (n : Int) : c.now ≤ n → n ≤ 1000000000000 → OpC p c { c with now := n }
  | take (lo : Nat) (l l' : List QI) (i : Nat) (x : QI) (t : TK) : c.Q[lo]? = some l → c.runs[lo]? = some 0 → DueAt l c.now (some (i, x)) → DropTo l x.task l' → 1 ≤ x.task → c.T[(x.task - 1).toNat]? = some t →
      OpC p c { beginC c x.task t with Q := c.Q.set lo l', runs := c.runs.set lo x.task }
  | start (id : Int) (t : TK) : 1 ≤ id → c.T[(id - 1).toNat]? = some t → t.looper < 0 → t.state = 1 → OpC p c (beginC c id t)
  | step (lo : Nat) (r : Int) (over : Bool) (c1 : CS) : c.runs[lo]? = some r → r ≠ 0 → StepC p c r over c1 → OpC p c (if over then { c1 with runs := c1.runs.set lo 0 } else c1)
  | work (id : Int) (t : TK) (over : Bool) (c1 : CS) : 1 ≤ id → c.T[(id - 1).toNat]? = some t → t.looper < 0 → t.state = 2 → StepC p c id over c1 → OpC p c c1
  | event (e : Nat) (k : PE) (v pr nth pay : Int) : p.events[e]? = some k → c.on[e]? = some v → PrevTo c.T ⟨3, e, 0, k.func, k.looper, 0, 0, false, 0, 0, pay, 0, 0, v, 0⟩ c.T.length pr →
      OpC p c { c with T := c.T ++ [newTC c ⟨3, e, 0, k.func, k.looper, 0, nth, false, 0, 0, pay, 0, 0, v, pr⟩], Q := addQC c ⟨3, e, 0, k.func, k.looper, 0, nth, false, 0, 0, pay, 0, 0, v, pr⟩ }
  | life (e : Nat) (k : PK) (wh f pr nth : Int) : p.comps[e]? = some k → PrevTo c.T ⟨2, e, wh, f, k.looper, 0, 0, false, 0, 0, 0, 0, 0, -1, 0⟩ c.T.length pr →
      OpC p c { c with T := c.T ++ [newTC c ⟨2, e, wh, f, k.looper, 0, nth, false, 0, 0, 0, 0, 0, -1, pr⟩], Q := addQC c ⟨2, e, wh, f, k.looper, 0, nth, false, 0, 0, 0, 0, 0, -1, pr⟩ }
/-- a task that is not over has a frame -/
def NE (s : Mc) : Prop := s.full = false → ∀ (i : Nat) (th : TH) (t : TK), s.th[i]? = some th → s.T[i]? = some t → t.state ≠ 3 → th.fs ≠ []
theorem CI.fresh {p : PP} {s : Mc} (h : CI p s.core) : ∀ (i j : Nat) q x, s.qs[i]? = some q → q.l[j]? = some x → x.task ≠ s.T.length + 1 := by
  intro i j q x hq hx
  have h1 : s.core.Q[i]? = some q.l := by show (s.qs.map (·.l))[i]? = some q.l; rw [List.getElem?_map, hq]; rfl
  obtain ⟨h2, t, h3, _⟩ := (h.qs i q.l h1).it j x hx
  have := list_lt h3
  have h4 : s.core.T.length = s.T.length := rfl
  omega
theorem CI.post {p : PP} {s : Mc} (h : CI p s.core) : ∀ (i : Nat) (t : TK), s.T[i]? = some t → t.kind = 4 → 0 ≤ t.looper := by
  intro i t ht hk
  have := (h.tk i t ht).lo.2
  omega
/-- whose state a deed lets alone -/
theorem DeedC.st {p : PP} {c c' : CS} {id : Int} (h : DeedC p c id c') {i : Nat} {t' : TK} (hi : i < c.T.length) (ht : c'.T[i]? = some t') (h3 : t'.state ≠ 3) : ∃ t, c.T[i]? = some t ∧ t.state ≠ 3 := by
  obtain ⟨t, hti⟩ := list_get (l := c.T) (j := i) hi
  refine ⟨t, hti, ?_⟩
  rcases h with rfl | ⟨m, _, _, rfl⟩ | ⟨m, of_, t1, Q', _, _, h1, h2, _, h4, _, rfl⟩ | ⟨m, e, _, _, _, _, rfl⟩ | ⟨of_, t1, _, _, _, _, rfl⟩ | ⟨a, of_, nth, Q', _, _, _, rfl⟩
  · rw [hti] at ht; cases ht; exact h3
  · rw [hti] at ht; cases ht; exact h3
  · simp only at ht
    rw [List.getElem?_set] at ht
    by_cases he : (of_ - 1).toNat = i
    · subst he
      rw [hti] at h2; cases h2
      omega
    · rw [if_neg he, hti] at ht; cases ht; exact h3
  · rw [hti] at ht; cases ht; exact h3
  · rw [hti] at ht; cases ht; exact h3
  · simp only at ht
    rw [List.getElem?_append_left hi, hti] at ht; cases ht; exact h3
theorem DeedC.grow {p : PP} {c c' : CS} {id : Int} (h : DeedC p c id c') : c.T.length ≤ c'.T.length ∧ c'.T.length ≤ c.T.length + 1 ∧ c'.runs = c.runs := by
  rcases h with rfl | ⟨m, _, _, rfl⟩ | ⟨m, of_, t1, Q', _, _, h1, h2, _, h4, _, rfl⟩ | ⟨m, e, _, _, _, _, rfl⟩ | ⟨of_, t1, _, _, _, _, rfl⟩ | ⟨a, of_, nth, Q', _, _, _, rfl⟩ <;> simp
theorem NE.step {p : PP} {s s' : Mc} {id : Int} {over : Bool} {e : Int} (h : NE s) (hS : SOK p s) (h1 : 1 ≤ id ∧ id ≤ s.T.length) (hst : Stepped p s id over e s') : NE s' := by
  intro hf i th t hth ht h3
  rcases hst.full with ⟨_, hfs, hov⟩ | ⟨_, _, hf'⟩
  · obtain ⟨acc, _, _, c2, hd, hc⟩ := hst.core
    have hT : s'.T = s'.core.T := rfl
    by_cases hi : i = (id - 1).toNat
    · subst hi
      rcases hc with ⟨rfl, _⟩ | ⟨rfl, t2, tr, h4, h5⟩
      · exact hov rfl th hth
      · rw [hT, h5] at ht
        simp only at ht
        rw [List.getElem?_set_self (list_lt h4)] at ht
        cases ht
        exact absurd rfl h3
    · by_cases hlt : i < s.T.length
      · have ht2 : c2.T[i]? = some t := by
          rcases hc with ⟨_, h4⟩ | ⟨rfl, t2, tr, h4, h5⟩
          · rw [hT, h4] at ht; exact ht
          · rw [hT, h5] at ht
            simp only at ht
            rw [List.getElem?_set_ne (Ne.symm hi)] at ht; exact ht
        obtain ⟨t0, ht0, hs0⟩ := hd.st (i := i) hlt ht2 h3
        obtain ⟨u, hu⟩ := list_get (l := s.th) (j := i) (by have := hS.tl; omega)
        have := hst.keep.1 i u hi hu
        rw [hth] at this; cases this
        exact h (hfs ▸ hf) i th t0 hu ht0 hs0
      · exact hst.keep.2 i th (by have := hS.tl; omega) hth
  · rw [hf] at hf'; cases hf'
end Go.Proofs.Ytedcfkigfcobaaa
end
/- Contracts: a looper's, a worker's step. -/
section
namespace Go.Proofs.Ytedcfkigfcobaaa
open Go Go.Proofs
attribute [local irreducible] Bc O AL BS MS MM ST AP CV Cl
/-- what an entry leaves -/
structure Did (p : PP) (s s' : Mc) : Prop where
  b : s'.b = s.b
  core : OpC p s.core s'.core
  ok : SOK p s'
  ne : NE s'
section
variable {B : Base} {w : World} {L : List Atom} {p : PP}
theorem NE.same {s : Mc} (h : NE s) (s' : Mc) (hf : s'.full = s.full ∨ s'.full = true) (ht : s'.th = s.th) (hT : s'.T = s.T) : NE s' := by
  intro h0 i th t h1 h2 h3
  rcases hf with hf | hf
  · exact h (hf ▸ h0) i th t (ht ▸ h1) (hT ▸ h2) h3
  · rw [hf] at h0; cases h0
theorem Did.fulls {s : Mc} (hS : SOK p s) (hN : NE s) : Did p s { s with full := true } := ⟨rfl, .same, SOK.flags (n := s.now) (st := s.steps) hS, hN.same _ (.inr rfl) rfl rfl⟩
theorem Did.refl {s : Mc} (hS : SOK p s) (hN : NE s) : Did p s s := ⟨rfl, .same, hS, hN⟩
theorem NE.begin {s : Mc} (h : NE s) (s' : Mc) (hf : s'.full = s.full) (hth : s'.th = s.th) {k : Nat} {t : TK} (ht : s.T[k]? = some t) (hst : t.state ≠ 3) (hT : s'.T = s.T.set k { t with state := 2 }) : NE s' := by
  intro h0 i th u h1 h2 h3
  rw [hth] at h1
  rw [hT, List.getElem?_set] at h2
  by_cases hi : k = i
  · subst hi
    exact h (hf ▸ h0) k th t h1 ht hst
  · rw [if_neg hi] at h2
    exact h (hf ▸ h0) i th u h1 h2 h3
theorem Own.steps {s : Mc} (hw : Own B w (mAtoms p s ++ L)) (n : Int) {K : Value → World → Prop} (hk : ∀ w', Own B w' (mAtoms p { s with steps := n } ++ L) → K undef w') :
    ST Try.prog 3 (.pointer (some ⟨s.b, 19, none⟩)) (.int .i64 n) w K :=
  hw.st1 0 rfl tsz3 rfl (by show 19 < 21; decide) fun w2 hw2 => hk w2 hw2
set_option maxHeartbeats 4000000 in
theorem k22 (hP : ProgOK B p) (hMy : MayP p) {s : Mc} (hw : Own B w (mAtoms p s ++ L)) (hS : SOK p s) (hC : CI p s.core) (hN : NE s) (hT : s.T.length < 240) (hM : s.M.length < 2 ^ 17) (id : Int) :
    Cl Try.prog 22 [pp s.b, .int .i64 id] w fun r w' => ∃ (e : Int) (s' : Mc), r = .int .i64 e ∧ Did p s s' ∧ Own B w' (mAtoms p s' ++ L) := by
  obtain ⟨R, hR⟩ : ∃ R : Value → World → Prop, R = fun r w' => ∃ (e : Int) (s' : Mc), r = .int .i64 e ∧ Did p s s' ∧ Own B w' (mAtoms p s' ++ L) := ⟨_, rfl⟩
  rw [← hR]
  have hsame : ∀ (e : Int) w', Own B w' (mAtoms p s ++ L) → R (.int .i64 e) w' := fun e w' h => by
    rw [hR]; exact ⟨e, s, rfl, Did.refl hS hN, h⟩
  have J0 : ∀ c w1, Own B w1 (mAtoms p s ++ L) → (c = false → 1 ≤ id ∧ id ≤ s.T.length ∧ ∃ t, s.T[(id - 1).toNat]? = some t ∧ t.looper < 0 ∧ t.state ≠ 3 ∧ (s.full = false → t.state = 2 → JoinFree p s id)) → s.full = false → j22_0 R (pp s.b) (.int .i64 id) (.bool c) w1 := by
    intro c w1 hw1 hc hf
    unfold j22_0
    refine Bc_b (fun _ => hsame _ _ hw1) (fun h => ?_)
    obtain ⟨h1, h2, t, ht, hlo, hst, hj⟩ := hc h
    (repeat with_reducible first | refine qq ?_ | refine qr ?_ | refine qs ?_ | refine hw1.l 0 ?_)
    refine Bc_dec (fun _ => ?_) (fun hns => ?_)
    · refine (k41 hw1).use ?_
      rintro _ w2 ⟨rfl, hw2⟩
      rw [hR]
      exact ⟨11, _, rfl, Did.fulls hS hN, hw2⟩
    (repeat with_reducible first | refine qq ?_ | refine qr ?_ | refine qs ?_ | refine hw1.l 0 ?_)
    refine O.mk bi_addw ?_
    (repeat with_reducible first | refine qq ?_ | refine qr ?_ | refine qs ?_)
    refine hw1.steps _ fun w2 hw2 => ?_
    clear hw1
    obtain ⟨s1, hs1⟩ : ∃ s1 : Mc, s1 = { s with steps := IntKind.i64.wrap (s.steps + 1) } := ⟨_, rfl⟩
    rw [← hs1] at hw2
    have hS1 : SOK p s1 := by rw [hs1]; exact SOK.flags (n := s.now) (f := s.full) hS
    have hc1 : s1.core = s.core := by rw [hs1]; rfl
    have hb1 : s1.b = s.b := by rw [hs1]
    have hT1 : s1.T = s.T := by rw [hs1]
    have hM1 : s1.M = s.M := by rw [hs1]
    have hth1 : s1.th = s.th := by rw [hs1]
    have hf1 : s1.full = s.full := by rw [hs1]
    have hn1 : s1.now = s.now := by rw [hs1]
    have hN1 : NE s1 := hN.same _ (.inl hf1) hth1 hT1
    have hj1 : s.full = false → t.state = 2 → JoinFree p s1 id := fun a b => by
      have := hj a b
      unfold JoinFree
      rw [hT1, hth1]
      exact this
    clear hs1
    rw [← hb1]
    obtain ⟨b, t', ht', hix, hrd⟩ := hw2.task (id := id) (by omega) (by rw [hT1]; omega)
    rw [hT1, ht] at ht'; cases ht'
    (repeat with_reducible first | refine qq ?_ | refine qr ?_ | refine qs ?_ | refine hw2.l 0 ?_)
    refine O.mk hix ?_
    (repeat with_reducible first | refine qq ?_ | refine qr ?_ | refine qs ?_)
    refine O.mk (hrd 11 _ rfl) ?_
    (repeat with_reducible first | refine qq ?_ | refine qr ?_ | refine qs ?_)
    refine Bc_dec (fun hs1 => ?_) (fun hs1 => ?_)
    · refine (k43 hw2 (by rw [hT1]; omega) (by rw [hM1]; omega) (by omega) (t := t) (by rw [hT1]; exact ht)).use ?_
      rintro _ w3 ⟨rfl, mv, hw3⟩
      rw [hR]
      have ht1 : s1.T[(id - 1).toNat]? = some t := by rw [hT1]; exact ht
      refine ⟨0, { s1 with mv := mv, T := s1.T.set (id - 1).toNat { t with state := 2 }, M := s1.M ++ beginMarks id t }, rfl, ⟨hb1, ?_, ?_, ?_⟩, hw3⟩
      · have := OpC.start (p := p) (c := s.core) id t h1 ht hlo hs1
        rw [← hc1] at this ⊢
        exact this
      · exact SOK.marks (SOK.taskset hS1 ht1 (t' := { t with state := 2 }) rfl)
      · exact hN1.begin _ rfl rfl ht1 hst rfl
    · have hst2 : t.state = 2 := by
        have h1' := hC.tk _ t ht
        have h2' := h1'.state
        have h3' := h1'.canc
        have h4' := h1'.lo
        omega
      have hCs : CI p s1.core := by rw [hc1]; exact hC
      refine (k44 hP hMy hw2 hS1 (by rw [hT1]; exact hT) (by rw [hM1]; omega) (by rw [hn1]; exact hC.now) hCs.fresh hCs.post (by rw [hT1]; exact ⟨h1, h2⟩) (hj1 hf hst2)).use ?_
      rintro _ w3 ⟨c', e, s', rfl, hst', hw3⟩
      refine O.mk (v := .bool c') rfl ?_
      refine O.mk (v := .int .i64 e) rfl ?_
      rw [hR]
      refine ⟨e, s', rfl, ⟨hst'.b.trans hb1, ?_, hst'.ok, hN1.step hS1 (by rw [hT1]; exact ⟨h1, h2⟩) hst'⟩, hw3⟩
      have := hst'.core
      rw [hc1] at this
      exact .work id t c' _ h1 ht hlo hst2 this
  refine s22 ?_
  unfold c22
  (repeat with_reducible first | refine qq ?_ | refine qr ?_ | refine qs ?_ | refine hw.l 0 ?_)
  refine Bc_b (fun _ => hsame _ _ hw) (fun hfull => ?_)
  (repeat with_reducible first | refine qq ?_ | refine qr ?_ | refine qs ?_)
  refine Bc_dec (fun _ => J0 true _ hw (fun h => by cases h) hfull) (fun h1 => ?_)
  (repeat with_reducible first | refine qq ?_ | refine qr ?_ | refine qs ?_ | refine hw.l 0 ?_)
  refine O.mk (hw.slLen 6 rfl) ?_
  (repeat with_reducible first | refine qq ?_ | refine qr ?_ | refine qs ?_)
  refine Bc_dec (fun _ => J0 true _ hw (fun h => by cases h) hfull) (fun h2 => ?_)
  obtain ⟨b, t, ht, hix, hrd⟩ := hw.task (id := id) (by omega) (by omega)
  (repeat with_reducible first | refine qq ?_ | refine qr ?_ | refine qs ?_ | refine hw.l 0 ?_)
  refine O.mk hix ?_
  (repeat with_reducible first | refine qq ?_ | refine qr ?_ | refine qs ?_)
  refine O.mk (hrd 4 _ rfl) ?_
  (repeat with_reducible first | refine qq ?_ | refine qr ?_ | refine qs ?_)
  refine Bc_dec (fun _ => J0 true _ hw (fun h => by cases h) hfull) (fun h3 => ?_)
  (repeat with_reducible first | refine qq ?_ | refine qr ?_ | refine qs ?_ | refine hw.l 0 ?_)
  refine O.mk hix ?_
  (repeat with_reducible first | refine qq ?_ | refine qr ?_ | refine qs ?_)
  refine O.mk (hrd 11 _ rfl) ?_
  (repeat with_reducible first | refine qq ?_ | refine qr ?_ | refine qs ?_)
  refine Bc_dec (fun _ => J0 true _ hw (fun h => by cases h) hfull) (fun h4 => ?_)
  refine (k40 hP hMy hw hS (by omega) id (fun th t' h5 h6 h7 => hN hfull _ th t' h5 h6 (by omega))).use ?_
  rintro _ w2 ⟨⟨n, rfl, hn⟩, hw2⟩
  (repeat with_reducible first | refine qq ?_ | refine qr ?_ | refine qs ?_)
  refine J0 _ w2 hw2 (fun h => ⟨by omega, by omega, t, ht, by omega, h4, fun _ hst2 => hn ?_ t (by omega) ht hst2⟩) hfull
  simpa using h
end
end Go.Proofs.Ytedcfkigfcobaaa
end
/- Contracts: a looper's step. -/
section
namespace Go.Proofs.Ytedcfkigfcobaaa
open Go Go.Proofs
attribute [local irreducible] Bc O AL BS MS MM ST AP CV Cl
section
variable {B : Base} {w : World} {L : List Atom} {p : PP}
/-- a looper's queue: its address, and out of the machine -/
theorem Own.qptr {s : Mc} (hw : Own B w (mAtoms p s ++ L)) {k : Nat} {q : QS} (hq : s.qs[k]? = some q) {j : Int} (h0 : 0 ≤ j) (hj : j.toNat = k) : ∃ b, iS 1 s.qv (.int .i64 j) = some (.pointer (some ⟨b, j.toNat * 1, none⟩)) ∧ rd1 (.pointer (some ⟨b, j.toNat * 1, none⟩)) w = some (pp q.b) := by
  obtain ⟨bq, hixq, hrdq, _⟩ := hw.el 3 (enc := ptrC) (xs := s.qs.map (·.b)) (by simp only [List.length_map]; rfl) ptrC_len (i := k) (x := q.b) (by simp [hq])
  refine ⟨bq, hixq _ _ h0 hj, ?_⟩
  rw [hj]; exact hrdq 0 _ rfl
theorem Own.qin {s : Mc} {k : Nat} {q q' : QS} (hq : s.qs[k]? = some q) (hb : q'.b = q.b) (hw : Own B w (queueA q' :: sep ((s.qs.eraseIdx k).map queueA) :: (mAtoms p s ++ L).eraseIdx 4)) : Own B w (mAtoms p { s with qs := s.qs.set k q' } ++ L) := by
  have h := Own.back' (L := mAtoms p s ++ L) (list_lt hq) (i := 4) rfl hw
  unfold mAtoms
  simp only
  rw [map_set_same (f := (·.b)) hb hq, List.length_set]
  exact h
theorem SOK.runset {s : Mc} (h : SOK p s) {l : List Int} (hl : l.length = s.runs.length) : SOK p { s with runs := l } := ⟨h.h, h.ql, hl.trans h.rl, h.tl, h.gl, h.ol, h.tok, h.lo, h.log, h.qb⟩
set_option maxHeartbeats 4000000 in
theorem k21 (hP : ProgOK B p) (hMy : MayP p) {s : Mc} (hw : Own B w (mAtoms p s ++ L)) (hS : SOK p s) (hC : CI p s.core) (hN : NE s) (hT : s.T.length < 240) (hM : s.M.length < 2 ^ 17) (lo : Int) :
    Cl Try.prog 21 [pp s.b, .int .i64 lo] w fun r w' => ∃ (e : Int) (s' : Mc), r = .int .i64 e ∧ Did p s s' ∧ Own B w' (mAtoms p s' ++ L) := by
  obtain ⟨R, hR⟩ : ∃ R : Value → World → Prop, R = fun r w' => ∃ (e : Int) (s' : Mc), r = .int .i64 e ∧ Did p s s' ∧ Own B w' (mAtoms p s' ++ L) := ⟨_, rfl⟩
  rw [← hR]
  have hsame : ∀ (e : Int) w', Own B w' (mAtoms p s ++ L) → R (.int .i64 e) w' := fun e w' h => by
    rw [hR]; exact ⟨e, s, rfl, Did.refl hS hN, h⟩
  have J0 : ∀ c, (c = false → 0 ≤ lo ∧ lo < s.qs.length) → s.full = false → j21_0 R (pp s.b) (.int .i64 lo) (.bool c) w := by
    intro c hc hf
    unfold j21_0
    refine Bc_b (fun _ => hsame _ _ hw) (fun h => ?_)
    obtain ⟨h0, h1⟩ := hc h
    refine hw.dr fun w1 hw1 => ?_
    clear hc h
    obtain ⟨q, hq⟩ := list_get (l := s.qs) (j := lo.toNat) (by omega)
    obtain ⟨rr, hrr⟩ := list_get (l := s.runs) (j := lo.toNat) (by have := hS.ql; have := hS.rl; omega)
    have hql := hS.qb _ _ hq
    have hcq : s.core.Q[lo.toNat]? = some q.l := by show (s.qs.map (·.l))[lo.toNat]? = _; rw [List.getElem?_map, hq]; rfl
    obtain ⟨bq, hixq, hrdq⟩ := hw1.qptr hq h0 rfl
    (repeat with_reducible first | refine qq ?_ | refine qr ?_ | refine qs ?_ | refine hw1.l 0 ?_)
    refine O.mk hixq ?_
    refine O.mk hrdq ?_
    (repeat with_reducible first | refine qq ?_ | refine qr ?_ | refine qs ?_ | refine hw1.l 0 ?_)
    clear hixq hrdq
    have hend : ∀ (y : QI) (is : Bool) (b5 : Nat) w', (is = true → ∃ i, DueAt q.l s.now (some (i, y))) → Own B w' (mAtoms p s ++ (bk b5 133 [.int .i64 0, .bool false, .int .i64 0] :: L)) →
        ST Try.prog 133 (pp b5) (.agg (encQI y).toArray) w' fun _ w => j21_1 R (pp s.b) (.int .i64 lo) (pp b5) (.bool is) w := by
      intro y is b5 w' hy hw'
      refine hw'.st_bk (x := .agg (encQI y).toArray) 13 rfl (by kernel_rfl) (encQI_one y) (Nat.le_refl 3) fun w2 hw2 => ?_
      clear hw'
      replace hw2 : Own B w2 (mAtoms p s ++ (bk b5 133 (encQI y) :: L)) := hw2
      obtain ⟨L5, hL5⟩ : ∃ L5, L5 = bk b5 133 (encQI y) :: L := ⟨_, rfl⟩
      rw [← hL5] at hw2
      have hback : ∀ {s' : Mc} {w'}, Own B w' (mAtoms p s' ++ L5) → Own B w' (mAtoms p s' ++ L) := fun {s' w'} h => by
        rw [hL5] at h
        exact (h.perm List.perm_middle).tail
      have item : ∀ {s' : Mc} {w'}, Own B w' (mAtoms p s' ++ L5) → rd1 (.pointer (some ⟨b5, 0, none⟩)) w' = some (.int .i64 y.task) := fun {s' w'} h => h.rd1_bk 13 (by rw [hL5]; rfl) rfl
      clear hL5
      have J2 : ∀ c w3, Own B w3 (mAtoms p s ++ L5) → (c = false → (rr = 0 → is = true) ∧ (rr ≠ 0 → JoinFree p s rr)) → j21_2 R (pp s.b) (.int .i64 lo) (pp b5) (.bool c) w3 := by
        intro c w3 hw3 hc
        unfold j21_2
        refine Bc_b (fun _ => hsame _ _ (hback hw3)) (fun h => ?_)
        obtain ⟨hc1, hc2⟩ := hc h
        (repeat with_reducible first | refine qq ?_ | refine qr ?_ | refine qs ?_ | refine hw3.l 0 ?_)
        refine Bc_dec (fun _ => ?_) (fun hns => ?_)
        · refine (k41 hw3).use ?_
          rintro _ w4 ⟨rfl, hw4⟩
          rw [hR]
          exact ⟨11, _, rfl, Did.fulls hS hN, hback hw4⟩
        (repeat with_reducible first | refine qq ?_ | refine qr ?_ | refine qs ?_ | refine hw3.l 0 ?_)
        refine O.mk bi_addw ?_
        (repeat with_reducible first | refine qq ?_ | refine qr ?_ | refine qs ?_)
        refine hw3.steps _ fun w4 hw4 => ?_
        clear hw3
        obtain ⟨s1, hs1⟩ : ∃ s1 : Mc, s1 = { s with steps := IntKind.i64.wrap (s.steps + 1) } := ⟨_, rfl⟩
        rw [← hs1] at hw4
        have hS1 : SOK p s1 := by rw [hs1]; exact SOK.flags (n := s.now) (f := s.full) hS
        have hcc1 : s1.core = s.core := by rw [hs1]; rfl
        have hb1 : s1.b = s.b := by rw [hs1]
        have hT1 : s1.T = s.T := by rw [hs1]
        have hM1 : s1.M = s.M := by rw [hs1]
        have hth1 : s1.th = s.th := by rw [hs1]
        have hf1 : s1.full = s.full := by rw [hs1]
        have hn1 : s1.now = s.now := by rw [hs1]
        have hr1 : s1.runs = s.runs := by rw [hs1]
        have hq1 : s1.qs = s.qs := by rw [hs1]
        have hN1 : NE s1 := hN.same _ (.inl hf1) hth1 hT1
        have hj1 : rr ≠ 0 → JoinFree p s1 rr := fun a => by
          have := hc2 a
          unfold JoinFree
          rw [hT1, hth1]
          exact this
        clear hs1
        rw [← hb1]
        rw [← hr1] at hrr
        obtain ⟨br, hixr, hrdr⟩ := hw4.eli 5 rfl hrr
        (repeat with_reducible first | refine qq ?_ | refine qr ?_ | refine qs ?_ | refine hw4.l 0 ?_)
        refine O.mk (hixr _ _ h0 rfl) ?_
        refine O.mk hrdr ?_
        (repeat with_reducible first | refine qq ?_ | refine qr ?_ | refine qs ?_)
        refine Bc_dec (fun hr0 => ?_) (fun hr0 => ?_)
        · obtain ⟨ix, hdy⟩ := hy (hc1 hr0)
          have hix := hdy.2.1
          obtain ⟨hx1, t, ht, htl, hts, _⟩ := (hC.qs _ _ hcq).it _ _ hix
          refine hw4.dr fun w5 hw5 => ?_
          clear hw4
          rw [← hq1] at hq
          obtain ⟨bq, hixq, hrdq⟩ := hw5.qptr hq h0 rfl
          (repeat with_reducible first | refine qq ?_ | refine qr ?_ | refine qs ?_ | refine hw5.l 0 ?_)
          refine O.mk hixq ?_
          refine O.mk hrdq ?_
          (repeat with_reducible first | refine qq ?_ | refine qr ?_ | refine qs ?_ | refine hw5.l 0 ?_)
          have hwq := hw5.out (i := 4) rfl hq
          refine (k42 hwq 0 rfl (by omega) s1.now).use ?_
          clear hwq hw5 hixq hrdq hixr hrdr
          rintro _ w6 ⟨r, rfl, hdr, q', hb', htk, hw6⟩
          have hrs : r = some (ix, y) := DueAt.same (by rw [hn1] at hdr; exact hdr) hdy
          subst hrs
          have hw7 := Own.qin hq hb' hw6
          clear hw6
          obtain ⟨s2, hs2⟩ : ∃ s2 : Mc, s2 = { s1 with qs := s1.qs.set lo.toNat q' } := ⟨_, rfl⟩
          rw [← hs2] at hw7
          refine hw7.dr fun w8 hw8 => ?_
          clear hw7
          have hb2 : s2.b = s1.b := by rw [hs2]
          have hr2 : s2.runs = s1.runs := by rw [hs2]
          have hT2 : s2.T = s1.T := by rw [hs2]
          rw [← hb2]
          rw [← hr2] at hrr
          obtain ⟨br, hixr, hrdr⟩ := hw8.eli 5 rfl hrr
          (repeat with_reducible first | refine qq ?_ | refine qr ?_ | refine qs ?_ | refine hw8.l 0 ?_)
          refine O.mk (item hw8) ?_
          refine O.mk (hixr _ _ h0 rfl) ?_
          refine hw8.elsti 5 rfl (list_lt hrr) y.task (hixr .i64 _ h0 rfl) rfl tsz3 fun w9 hw9 => ?_
          clear hw8 hixr hrdr
          replace hw9 : Own B w9 (mAtoms p { s2 with runs := s2.runs.set lo.toNat y.task } ++ L5) := hw9
          (repeat with_reducible first | refine qq ?_ | refine qr ?_ | refine qs ?_)
          refine O.mk (item hw9) ?_
          have ht2 : s2.T[(y.task - 1).toNat]? = some t := by rw [hT2, hT1]; exact ht
          refine (k43 hw9 (by simp only; rw [hT2, hT1]; omega) (by have h1 : s2.M = s1.M := by { rw [hs2] }; simp only; rw [h1, hM1]; omega) hx1 (t := t) ht2).use ?_
          rintro _ w10 ⟨rfl, mv, hw10⟩
          rw [hR]
          refine ⟨0, { s2 with runs := s2.runs.set lo.toNat y.task, mv := mv, T := s2.T.set (y.task - 1).toNat { t with state := 2 }, M := s2.M ++ beginMarks y.task t }, rfl, ⟨hb2.trans hb1, ?_, ?_, ?_⟩, hback hw10⟩
          · have h3 := OpC.take (p := p) (c := s.core) lo.toNat q.l q'.l ix y t hcq (by show s.runs[lo.toNat]? = _; rw [← hr1, ← hr2, hrr, hr0]) hdy htk hx1 ht
            rw [hs2]
            rw [← hcc1] at h3 ⊢
            have e1 : (s1.qs.set lo.toNat q').map (·.l) = (s1.qs.map (·.l)).set lo.toNat q'.l := by rw [List.map_set]
            unfold Mc.core
            simp only
            rw [e1]
            exact h3
          · have hS2 : SOK p s2 := by
              rw [hs2]
              refine hS1.queues (by simp) fun i q1 h1 => ?_
              rw [List.getElem?_set] at h1
              by_cases hi : lo.toNat = i
              · rw [if_pos hi] at h1
                split at h1
                · cases h1
                  have := htk.len
                  rw [hT1]; omega
                · cases h1
              · rw [if_neg hi] at h1
                exact hS1.qb i q1 h1
            exact SOK.marks (SOK.taskset (SOK.runset hS2 (l := s2.runs.set lo.toNat y.task) (by simp)) ht2 (t' := { t with state := 2 }) rfl)
          · refine hN1.begin _ (by rw [hs2]) (by rw [hs2]) (k := (y.task - 1).toNat) (t := t) (by rw [hT1]; exact ht) (by omega) ?_
            simp only
            rw [hT2]
        · have hcr : s.core.runs[lo.toNat]? = some rr := by show s.runs[lo.toNat]? = _; rw [← hr1]; exact hrr
          obtain ⟨hr1', t, ht, htl, hts⟩ : 1 ≤ rr ∧ ∃ t, s.core.T[(rr - 1).toNat]? = some t ∧ t.looper = lo.toNat ∧ t.state = 2 := by
            rcases hC.rs _ _ hcr with h | h
            · exact absurd h hr0
            · exact h
          have hlt : rr ≤ s.T.length := by have := list_lt ht; have h2 : s.core.T.length = s.T.length := rfl; omega
          (repeat with_reducible first | refine qq ?_ | refine qr ?_ | refine qs ?_ | refine hw4.l 0 ?_)
          refine O.mk (hixr _ _ h0 rfl) ?_
          refine O.mk hrdr ?_
          clear hixr hrdr
          have hCs : CI p s1.core := by rw [hcc1]; exact hC
          refine (k44 hP hMy hw4 hS1 (by rw [hT1]; exact hT) (by rw [hM1]; omega) (by rw [hn1]; exact hC.now) hCs.fresh hCs.post (by rw [hT1]; exact ⟨hr1', hlt⟩) (hj1 hr0)).use ?_
          rintro _ w5 ⟨c', e, s', rfl, hst', hw5⟩
          refine O.mk (v := .bool c') rfl ?_
          refine O.mk (v := .int .i64 e) rfl ?_
          have hstep := hst'.core
          rw [hcc1] at hstep
          have hop := OpC.step (p := p) (c := s.core) lo.toNat rr c' s'.core hcr hr0 hstep
          have hN' := hN1.step hS1 (by rw [hT1]; exact ⟨hr1', hlt⟩) hst'
          refine Bc_b (fun hc' => ?_) (fun hc' => ?_)
          · have hrl : s'.runs.length = s.runs.length := hst'.ok.rl.trans hS.rl.symm
            obtain ⟨r', hr'⟩ := list_get (l := s'.runs) (j := lo.toNat) (by have := hS.ql; have := hS.rl; omega)
            obtain ⟨br, hixr, hrdr⟩ := hw5.eli 5 rfl hr'
            rw [← hst'.b]
            (repeat with_reducible first | refine qq ?_ | refine qr ?_ | refine qs ?_ | refine hw5.l 0 ?_)
            refine O.mk (hixr _ _ h0 rfl) ?_
            refine hw5.elsti 5 rfl (list_lt hr') 0 (hixr .i64 _ h0 rfl) rfl tsz3 fun w6 hw6 => ?_
            rw [hR]
            refine ⟨e, { s' with runs := s'.runs.set lo.toNat 0 }, rfl, ⟨hst'.b.trans hb1, ?_, hst'.ok.runset (l := s'.runs.set lo.toNat 0) (by simp), hN'.same _ (.inl rfl) rfl rfl⟩, hback hw6⟩
            rw [hc'] at hop
            exact hop
          · rw [hR]
            refine ⟨e, s', rfl, ⟨hst'.b.trans hb1, ?_, hst'.ok, hN'⟩, hback hw5⟩
            rw [hc'] at hop
            exact hop
      unfold j21_1
      obtain ⟨br, hixr, hrdr⟩ := hw2.eli 5 rfl hrr
      (repeat with_reducible first | refine qq ?_ | refine qr ?_ | refine qs ?_ | refine hw2.l 0 ?_)
      refine O.mk (hixr _ _ h0 rfl) ?_
      refine O.mk hrdr ?_
      (repeat with_reducible first | refine qq ?_ | refine qr ?_ | refine qs ?_)
      refine Bc_dec (fun hr0 => ?_) (fun hr0 => ?_)
      · (repeat with_reducible first | refine qq ?_ | refine qr ?_ | refine qs ?_)
        refine Bc_b (fun hno => J2 true _ hw2 (fun h => by cases h)) (fun hno => ?_)
        (repeat with_reducible first | refine qq ?_ | refine qr ?_ | refine qs ?_ | refine hw2.l 0 ?_)
        refine O.mk (hixr _ _ h0 rfl) ?_
        refine O.mk hrdr ?_
        (repeat with_reducible first | refine qq ?_ | refine qr ?_ | refine qs ?_)
        refine Bc_dec (fun h => by omega) (fun _ => ?_)
        refine J2 false _ hw2 (fun _ => ⟨fun _ => by simpa using hno, fun h => absurd hr0 h⟩)
      · have hcr : s.core.runs[lo.toNat]? = some rr := hrr
        obtain ⟨hr1', t, ht, htl, hts⟩ : 1 ≤ rr ∧ ∃ t, s.core.T[(rr - 1).toNat]? = some t ∧ t.looper = lo.toNat ∧ t.state = 2 := by
          rcases hC.rs _ _ hcr with h | h
          · exact absurd h hr0
          · exact h
        (repeat with_reducible first | refine qq ?_ | refine qr ?_ | refine qs ?_ | refine hw2.l 0 ?_)
        refine O.mk (hixr _ _ h0 rfl) ?_
        refine O.mk hrdr ?_
        (repeat with_reducible first | refine qq ?_ | refine qr ?_ | refine qs ?_)
        refine Bc_dec (fun _ => ?_) (fun h => by omega)
        (repeat with_reducible first | refine qq ?_ | refine qr ?_ | refine qs ?_ | refine hw2.l 0 ?_)
        refine O.mk (hixr _ _ h0 rfl) ?_
        refine O.mk hrdr ?_
        refine (k40 hP hMy hw2 hS (by omega) rr (fun th t' h5 h6 h7 => hN hf _ th t' h5 h6 (by omega))).use ?_
        rintro _ w3 ⟨⟨n, rfl, hn⟩, hw3⟩
        (repeat with_reducible first | refine qq ?_ | refine qr ?_ | refine qs ?_)
        refine J2 _ w3 hw3 (fun h => ⟨fun h' => absurd h' hr0, fun _ => hn ?_ t hr1' ht hts⟩)
        simpa using h
    refine ⟨?_, ?_⟩
    · have hwq := hw1.out (i := 4) rfl hq
      refine (k39 hwq 0 rfl (by omega) s.now).use ?_
      rintro _ w2 ⟨⟨r, rfl, hd⟩, hw2⟩
      have hw3 := Own.qin (q' := q) hq rfl hw2
      rw [set_id hq] at hw3
      rcases r with _ | ⟨i, x⟩
      · refine O.mk (v := .agg (encQI ⟨0, false, 0⟩).toArray) rfl ?_
        refine O.mk (v := .bool false) rfl ?_
        refine hw3.al fun b5 w4 hb5 hw4 => ?_
        exact hend ⟨0, false, 0⟩ false b5 w4 (fun h => by cases h) (hw4.perm (List.perm_middle (l₁ := mAtoms p s)).symm)
      · refine O.mk (v := .agg (encQI x).toArray) rfl ?_
        refine O.mk (v := .bool true) rfl ?_
        refine hw3.al fun b5 w4 hb5 hw4 => ?_
        exact hend x true b5 w4 (fun h => ⟨i, hd⟩) (hw4.perm (List.perm_middle (l₁ := mAtoms p s)).symm)
    · refine hw1.al fun b5 w4 hb5 hw4 => ?_
      have hw5 : Own B w4 (mAtoms p s ++ (bk b5 133 [.int .i64 0, .bool false, .int .i64 0] :: L)) := hw4.perm (List.perm_middle (l₁ := mAtoms p s)).symm
      have hwq := hw5.out (i := 4) rfl hq
      refine (k39 hwq 0 rfl (by omega) s.now).use ?_
      rintro _ w2 ⟨⟨r, rfl, hd⟩, hw2⟩
      have hw3 := Own.qin (q' := q) (L := bk b5 133 [.int .i64 0, .bool false, .int .i64 0] :: L) hq rfl hw2
      rw [set_id hq] at hw3
      rcases r with _ | ⟨i, x⟩
      · refine O.mk (v := .agg (encQI ⟨0, false, 0⟩).toArray) rfl ?_
        refine O.mk (v := .bool false) rfl ?_
        exact hend ⟨0, false, 0⟩ false b5 w2 (fun h => by cases h) hw3
      · refine O.mk (v := .agg (encQI x).toArray) rfl ?_
        refine O.mk (v := .bool true) rfl ?_
        exact hend x true b5 w2 (fun h => ⟨i, hd⟩) hw3
  refine s21 ?_
  unfold c21
  (repeat with_reducible first | refine qq ?_ | refine qr ?_ | refine qs ?_ | refine hw.l 0 ?_)
  refine Bc_b (fun _ => hsame _ _ hw) (fun hfull => ?_)
  (repeat with_reducible first | refine qq ?_ | refine qr ?_ | refine qs ?_)
  refine Bc_dec (fun _ => J0 true (fun h => by cases h) hfull) (fun h1 => ?_)
  (repeat with_reducible first | refine qq ?_ | refine qr ?_ | refine qs ?_ | refine hw.l 0 ?_)
  refine O.mk (hw.slLen 3 rfl) ?_
  (repeat with_reducible first | refine qq ?_ | refine qr ?_ | refine qs ?_)
  refine J0 _ (fun h => ?_) hfull
  have h2 : ¬ ((s.qs.length : Int) ≤ lo) := by simpa using h
  omega
end
end Go.Proofs.Ytedcfkigfcobaaa
end
/- Contracts: time goes on; an event; a life; an entry. -/
section
namespace Go.Proofs.Ytedcfkigfcobaaa
open Go Go.Proofs
attribute [local irreducible] Bc O AL BS MS MM ST AP CV Cl
section
variable {B : Base} {w : World} {L : List Atom} {p : PP}
theorem NE.add {s : Mc} (h : NE s) (hS : SOK p s) (s' : Mc) (hf : s'.full = s.full) {x : TH} {t : TK} (hx : x.fs.length = 1) (hth : s'.th = s.th ++ [x]) (hT : s'.T = s.T ++ [t]) : NE s' := by
  intro h0 i th u h1 h2 h3
  rw [hth] at h1
  rw [hT] at h2
  by_cases hi : i < s.T.length
  · rw [List.getElem?_append_left (by have := hS.tl; omega)] at h1
    rw [List.getElem?_append_left hi] at h2
    exact h (hf ▸ h0) i th u h1 h2 h3
  · rw [List.getElem?_append_right (by have := hS.tl; omega)] at h1
    rcases hk : i - s.th.length with _ | k
    · rw [hk] at h1; cases h1
      intro h4
      rw [h4] at hx; cases hx
    · rw [hk] at h1; cases h1
theorem k23 {s : Mc} (hw : Own B w (mAtoms p s ++ L)) (hS : SOK p s) (hC : CI p s.core) (hN : NE s) (n : Int) :
    Cl Try.prog 23 [pp s.b, .int .i64 n] w fun r w' => ∃ (e : Int) (s' : Mc), r = .int .i64 e ∧ Did p s s' ∧ Own B w' (mAtoms p s' ++ L) := by
  obtain ⟨R, hR⟩ : ∃ R : Value → World → Prop, R = fun r w' => ∃ (e : Int) (s' : Mc), r = .int .i64 e ∧ Did p s s' ∧ Own B w' (mAtoms p s' ++ L) := ⟨_, rfl⟩
  rw [← hR]
  have hsame : ∀ (e : Int) w', Own B w' (mAtoms p s ++ L) → R (.int .i64 e) w' := fun e w' h => by
    rw [hR]; exact ⟨e, s, rfl, Did.refl hS hN, h⟩
  have hnow : 0 ≤ s.now ∧ s.now ≤ 1000000000000 := hC.now
  have J : ∀ c, (c = false → 1 ≤ n ∧ n ≤ 1000000000000 ∧ s.now + n ≤ 1000000000000) → j23_0 R (pp s.b) (.int .i64 n) (.bool c) w := by
    intro c hc
    unfold j23_0
    refine Bc_b (fun _ => hsame _ _ hw) (fun h => ?_)
    obtain ⟨h1, h2, h3⟩ := hc h
    (repeat with_reducible first | refine qq ?_ | refine qr ?_ | refine qs ?_ | refine hw.l 0 ?_)
    refine hw.st1 0 rfl tsz2 rfl (by show 18 < 21; decide) fun w2 hw2 => ?_
    rw [hR]
    exact ⟨0, { s with now := s.now + n }, rfl, ⟨rfl, .tick _ (by show s.now ≤ s.now + n; omega) h3, SOK.flags (st := s.steps) (f := s.full) hS, hN.same _ (.inl rfl) rfl rfl⟩, hw2⟩
  refine s23 ?_
  unfold c23
  (repeat with_reducible first | refine qq ?_ | refine qr ?_ | refine qs ?_ | refine hw.l 0 ?_)
  refine Bc_b (fun _ => hsame _ _ hw) (fun hfull => ?_)
  (repeat with_reducible first | refine qq ?_ | refine qr ?_ | refine qs ?_)
  refine Bc_dec (fun _ => J true (fun h => by cases h)) (fun h1 => ?_)
  (repeat with_reducible first | refine qq ?_ | refine qr ?_ | refine qs ?_)
  refine Bc_dec (fun _ => J true (fun h => by cases h)) (fun h2 => ?_)
  (repeat with_reducible first | refine qq ?_ | refine qr ?_ | refine qs ?_ | refine hw.l 0 ?_)
  refine J _ (fun h => ⟨by omega, by omega, ?_⟩)
  have : ¬ (1000000000000 < s.now + n) := by simpa using h
  omega
theorem fill73e (a b c d e f : Int) : (fillW Try.prog 73 [(0, .int .i64 a), (1, .int .i64 b), (3, .int .i64 c), (4, .int .i64 d), (10, .int .i64 e), (13, .int .i64 f)]).map Value.agg = some (.agg (encTK ⟨a, b, 0, c, d, 0, 0, false, 0, 0, e, 0, 0, f, 0⟩).toArray) := by kernel_rfl
theorem fill73l (a b c d e f : Int) : (fillW Try.prog 73 [(0, .int .i64 a), (1, .int .i64 b), (2, .int .i64 c), (3, .int .i64 d), (4, .int .i64 e), (13, .int .i64 f)]).map Value.agg = some (.agg (encTK ⟨a, b, c, d, e, 0, 0, false, 0, 0, 0, 0, 0, f, 0⟩).toArray) := by kernel_rfl
set_option maxHeartbeats 2000000 in
theorem k24 (hP : ProgOK B p) (hMy : MayP p) {s : Mc} (hw : Own B w (mAtoms p s ++ L)) (hS : SOK p s) (hC : CI p s.core) (hN : NE s) (hT : s.T.length < 240) (ev pay : Int) :
    Cl Try.prog 24 [pp s.b, .int .i64 ev, .int .i64 pay] w fun r w' => ∃ (e : Int) (s' : Mc), r = .int .i64 e ∧ Did p s s' ∧ Own B w' (mAtoms p s' ++ L) := by
  obtain ⟨R, hR⟩ : ∃ R : Value → World → Prop, R = fun r w' => ∃ (e : Int) (s' : Mc), r = .int .i64 e ∧ Did p s s' ∧ Own B w' (mAtoms p s' ++ L) := ⟨_, rfl⟩
  rw [← hR]
  have hsame : ∀ (e : Int) w', Own B w' (mAtoms p s ++ L) → R (.int .i64 e) w' := fun e w' h => by
    rw [hR]; exact ⟨e, s, rfl, Did.refl hS hN, h⟩
  have J : ∀ c, (c = false → 0 ≤ ev ∧ ev < p.events.length) → j24_0 R (pp s.b) (.int .i64 ev) (.int .i64 pay) (.bool c) w := by
    intro c hc
    unfold j24_0
    refine Bc_b (fun _ => hsame _ _ hw) (fun h => ?_)
    obtain ⟨h1, h2⟩ := hc h
    obtain ⟨k, hk⟩ := list_get (l := p.events) (j := ev.toNat) (by omega)
    obtain ⟨bk0, o, hix, _, hrdN⟩ := hP.evs.at_ (by omega) encPE_len hk
    (repeat with_reducible first | refine qq ?_ | refine qr ?_ | refine qs ?_ | refine hw.l 0 ?_)
    refine O.mk (hix _ _ h1 rfl) ?_
    refine O.mk (hrdN _ _ hw) ?_
    refine hw.al fun b7 w1 hb7 hw1' => ?_
    have hw1 : Own B w1 (mAtoms p s ++ (bk b7 94 [.string ByteArray.empty, .int .i64 0, .bool false, .int .i64 0] :: L)) := hw1'.perm (List.perm_middle (l₁ := mAtoms p s)).symm
    clear hw1' hrdN hix
    refine hw1.st_bk (x := .agg (encPE k).toArray) 13 rfl (by kernel_rfl) (by rfl) (Nat.le_refl 4) fun w2 hw2 => ?_
    clear hw1
    replace hw2 : Own B w2 (mAtoms p s ++ (bk b7 94 (encPE k) :: L)) := hw2
    refine hw2.dr fun w3 hw3 => ?_
    clear hw2
    obtain ⟨v, hv⟩ := list_get (l := s.on) (j := ev.toNat) (by have := hS.ol; omega)
    obtain ⟨bo, hixo, hrdo⟩ := hw3.eli 12 rfl hv
    (repeat with_reducible first | refine qq ?_ | refine qr ?_ | refine qs ?_ | refine hw3.l 0 ?_ | refine hw3.l 13 ?_)
    refine O.mk (hixo _ _ h1 rfl) ?_
    refine O.mk hrdo ?_
    refine O.mk (fill73e _ _ _ _ _ _) ?_
    have hpe := hMy.parts.events _ _ hk
    refine (k46 hP hMy hw3 hS (by omega) (t := ⟨3, ev, 0, k.func, k.looper, 0, 0, false, 0, 0, pay, 0, 0, v, 0⟩) hpe.2 rfl rfl (by simp only; omega) hC.now rfl hC.fresh).use ?_
    rintro _ w4 ⟨rfl, qs', x, tv, hv', pr, nth, h3, h4, h5, h6, h7, hw4⟩
    rw [hR]
    refine ⟨0, { s with qs := qs', tv := tv, T := s.T ++ [newT s ⟨3, ev, 0, k.func, k.looper, 0, nth, false, 0, 0, pay, 0, 0, v, pr⟩], hv := hv', th := s.th ++ [x] }, rfl, ⟨rfl, ?_, ?_, ?_⟩, (hw4.perm List.perm_middle).tail⟩
    · have he : ((ev.toNat : Nat) : Int) = ev := by omega
      have hop := OpC.event (p := p) (c := s.core) ev.toNat k v pr nth pay hk hv (by rw [he]; exact h3)
      rw [he] at hop
      have e1 : s.core.Q = s.qs.map (·.l) := rfl
      unfold Mc.core
      simp only
      rw [h5]
      exact hop
    · exact hS.add (t := ⟨3, ev, 0, k.func, k.looper, 0, nth, false, 0, 0, pay, 0, 0, v, pr⟩) h4 h5 h6 (by simp only; omega)
    · exact hN.add hS _ rfl h7 rfl rfl
  refine s24 ?_
  unfold c24
  (repeat with_reducible first | refine qq ?_ | refine qr ?_ | refine qs ?_ | refine hw.l 0 ?_)
  refine Bc_b (fun _ => hsame _ _ hw) (fun hfull => ?_)
  (repeat with_reducible first | refine qq ?_ | refine qr ?_ | refine qs ?_)
  refine Bc_dec (fun _ => J true (fun h => by cases h)) (fun h1 => ?_)
  (repeat with_reducible first | refine qq ?_ | refine qr ?_ | refine qs ?_ | refine hw.l 0 ?_)
  refine O.mk hP.evs.len ?_
  (repeat with_reducible first | refine qq ?_ | refine qr ?_ | refine qs ?_)
  refine Bc_dec (fun _ => J true (fun h => by cases h)) (fun h2 => ?_)
  (repeat with_reducible first | refine qq ?_ | refine qr ?_ | refine qs ?_ | refine hw.l 0 ?_)
  refine (k45 hw 2 rfl ev).use ?_
  rintro _ _ ⟨⟨b, rfl⟩, rfl⟩
  (repeat with_reducible first | refine qq ?_ | refine qr ?_ | refine qs ?_)
  exact J _ (fun _ => ⟨by omega, by omega⟩)
set_option maxHeartbeats 2000000 in
theorem k25 (hP : ProgOK B p) (hMy : MayP p) {s : Mc} (hw : Own B w (mAtoms p s ++ L)) (hS : SOK p s) (hC : CI p s.core) (hN : NE s) (hT : s.T.length < 240) (cp wh : Int) :
    Cl Try.prog 25 [pp s.b, .int .i64 cp, .int .i64 wh] w fun r w' => ∃ (e : Int) (s' : Mc), r = .int .i64 e ∧ Did p s s' ∧ Own B w' (mAtoms p s' ++ L) := by
  obtain ⟨R, hR⟩ : ∃ R : Value → World → Prop, R = fun r w' => ∃ (e : Int) (s' : Mc), r = .int .i64 e ∧ Did p s s' ∧ Own B w' (mAtoms p s' ++ L) := ⟨_, rfl⟩
  rw [← hR]
  have hsame : ∀ (e : Int) w', Own B w' (mAtoms p s ++ L) → R (.int .i64 e) w' := fun e w' h => by
    rw [hR]; exact ⟨e, s, rfl, Did.refl hS hN, h⟩
  have J1 : ∀ (s1 : Mc) w', Did p s s1 → Own B w' (mAtoms p s1 ++ L) → j25_1 R (pp s.b) (.int .i64 cp) (.int .i64 wh) w' := by
    intro s1 w' hD hw1
    unfold j25_1
    rw [← hD.b]
    (repeat with_reducible first | refine qq ?_ | refine qr ?_ | refine qs ?_ | refine hw1.l 0 ?_)
    refine (k48 hw1 2 rfl cp wh).use ?_
    rintro _ w2 ⟨⟨n, rfl⟩, v', e1, e2, e3, hw2⟩
    rw [hR]
    refine ⟨0, { s1 with v := v' }, rfl, ⟨hD.b, hD.core, SOK.lives hD.ok, hD.ne.same _ (.inl rfl) rfl rfl⟩, ?_⟩
    have : mAtoms p { s1 with v := v' } ++ L = (mAtoms p s1 ++ L).set 2 (livesA v') := by
      unfold mAtoms mcells
      simp only
      rw [e1]
      rfl
    rw [this]; exact hw2
  have J : ∀ c, (c = false → (0 ≤ cp ∧ cp < p.comps.length) ∧ 0 ≤ wh ∧ wh ≤ 3) → j25_0 R (pp s.b) (.int .i64 cp) (.int .i64 wh) (.bool c) w := by
    intro c hc
    unfold j25_0
    refine Bc_b (fun _ => hsame _ _ hw) (fun h => ?_)
    obtain ⟨⟨h1, h2⟩, h3, h4⟩ := hc h
    obtain ⟨k, hk⟩ := list_get (l := p.comps) (j := cp.toNat) (by omega)
    obtain ⟨bk0, o, hix, _, hrdN⟩ := hP.co.at_ (by omega) encPK_len hk
    (repeat with_reducible first | refine qq ?_ | refine qr ?_ | refine qs ?_ | refine hw.l 0 ?_)
    refine O.mk (hix _ _ h1 rfl) ?_
    refine O.mk (hrdN _ _ hw) ?_
    refine hw.al fun b7 w1 hb7 hw1' => ?_
    have hw1 : Own B w1 (mAtoms p s ++ (bk b7 122 [.string ByteArray.empty, .int .i64 0, .int .i64 0, .int .i64 0, .int .i64 0, .int .i64 0] :: L)) := hw1'.perm (List.perm_middle (l₁ := mAtoms p s)).symm
    clear hw1' hrdN hix
    refine hw1.st_bk (x := .agg (encPK k).toArray) 13 rfl (by kernel_rfl) (by rfl) (Nat.le_refl 6) fun w2 hw2 => ?_
    clear hw1
    replace hw2 : Own B w2 (mAtoms p s ++ (bk b7 122 (encPK k) :: L)) := hw2
    have hf : (encPK k)[2 + wh.toNat * 1]? = some (.int .i64 (fK k wh.toNat)) := by
      have : wh.toNat = 0 ∨ wh.toNat = 1 ∨ wh.toNat = 2 ∨ wh.toNat = 3 := by omega
      rcases this with h | h | h | h <;> rw [h] <;> rfl
    (repeat with_reducible first | refine qq ?_ | refine qr ?_ | refine qs ?_ | refine hw2.l 0 ?_ | refine hw2.l 13 ?_)
    refine O.mk (iA_p (by omega) (by omega)) ?_
    refine O.mk (hw2.rd1_bk 13 rfl hf) ?_
    (repeat with_reducible first | refine qq ?_ | refine qr ?_ | refine qs ?_)
    refine Bc_dec (fun hge => ?_) (fun _ => J1 s _ (Did.refl hS hN) ((hw2.perm List.perm_middle).tail))
    refine hw2.dr fun w3 hw3 => ?_
    clear hw2
    (repeat with_reducible first | refine qq ?_ | refine qr ?_ | refine qs ?_ | refine hw3.l 0 ?_ | refine hw3.l 13 ?_)
    refine O.mk (iA_p (by omega) (by omega)) ?_
    refine O.mk (hw3.rd1_bk 13 rfl hf) ?_
    (repeat with_reducible first | refine qq ?_ | refine qr ?_ | refine qs ?_ | refine hw3.l 0 ?_ | refine hw3.l 13 ?_)
    refine O.mk (fill73l _ _ _ _ _ _) ?_
    have hpe := hMy.parts.comps _ _ hk
    refine (k46 hP hMy hw3 hS (by omega) (t := ⟨2, cp, wh, fK k wh.toNat, k.looper, 0, 0, false, 0, 0, 0, 0, 0, -1, 0⟩) (hpe.2 _ (by omega) (by omega)) rfl rfl (by simp only; omega) hC.now rfl hC.fresh).use ?_
    rintro _ w4 ⟨rfl, qs', x, tv, hv', pr, nth, h5, h6, h7, h8, h9, hw4⟩
    (repeat with_reducible first | refine qq ?_ | refine qr ?_ | refine qs ?_)
    refine Bc_dec (fun h => absurd rfl h) (fun _ => ?_)
    refine J1 { s with qs := qs', tv := tv, T := s.T ++ [newT s ⟨2, cp, wh, fK k wh.toNat, k.looper, 0, nth, false, 0, 0, 0, 0, 0, -1, pr⟩], hv := hv', th := s.th ++ [x] } _ ⟨rfl, ?_, ?_, ?_⟩ ((hw4.perm List.perm_middle).tail)
    · have he : ((cp.toNat : Nat) : Int) = cp := by omega
      have hop := OpC.life (p := p) (c := s.core) cp.toNat k wh (fK k wh.toNat) pr nth hk (by rw [he]; exact h5)
      rw [he] at hop
      unfold Mc.core
      simp only
      rw [h7]
      exact hop
    · exact hS.add (t := ⟨2, cp, wh, fK k wh.toNat, k.looper, 0, nth, false, 0, 0, 0, 0, 0, -1, pr⟩) h6 h7 h8 (by simp only; omega)
    · exact hN.add hS _ rfl h9 rfl rfl
  refine s25 ?_
  unfold c25
  (repeat with_reducible first | refine qq ?_ | refine qr ?_ | refine qs ?_ | refine hw.l 0 ?_)
  refine Bc_b (fun _ => hsame _ _ hw) (fun hfull => ?_)
  (repeat with_reducible first | refine qq ?_ | refine qr ?_ | refine qs ?_)
  refine Bc_dec (fun _ => J true (fun h => by cases h)) (fun h1 => ?_)
  (repeat with_reducible first | refine qq ?_ | refine qr ?_ | refine qs ?_ | refine hw.l 0 ?_)
  refine O.mk hP.co.len ?_
  (repeat with_reducible first | refine qq ?_ | refine qr ?_ | refine qs ?_)
  refine Bc_dec (fun _ => J true (fun h => by cases h)) (fun h2 => ?_)
  (repeat with_reducible first | refine qq ?_ | refine qr ?_ | refine qs ?_ | refine hw.l 0 ?_)
  refine (k47 hw 2 rfl cp wh).use ?_
  rintro _ _ ⟨⟨b, rfl, hb⟩, rfl⟩
  (repeat with_reducible first | refine qq ?_ | refine qr ?_ | refine qs ?_)
  exact J _ (fun h => ⟨⟨by omega, by omega⟩, hb (by simpa using h)⟩)
theorem k9 (hP : ProgOK B p) (hMy : MayP p) {s : Mc} (hw : Own B w (mAtoms p s ++ L)) (hS : SOK p s) (hC : CI p s.core) (hN : NE s) (hT : s.T.length < 240) (hM : s.M.length < 2 ^ 17) (kd at_ n : Int) :
    Cl Try.prog 9 [pp s.b, .agg #[.int .i64 kd, .int .i64 at_, .int .i64 n]] w fun r w' => ∃ (e : Int) (s' : Mc), r = .int .i64 e ∧ Did p s s' ∧ Own B w' (mAtoms p s' ++ L) := by
  refine s9 ?_
  unfold c9
  refine hw.al fun b3 w1 hb3 hw1' => ?_
  have hw1 : Own B w1 (mAtoms p s ++ (bk b3 49 [.int .i64 kd, .int .i64 at_, .int .i64 n] :: L)) := hw1'.perm (List.perm_middle (l₁ := mAtoms p s)).symm
  clear hw1' hw
  have hlast : ∀ (v : Value) w', (∃ (e : Int) (s' : Mc), v = .int .i64 e ∧ Did p s s' ∧ Own B w' (mAtoms p s' ++ (bk b3 49 [.int .i64 kd, .int .i64 at_, .int .i64 n] :: L))) → ∃ (e : Int) (s' : Mc), v = .int .i64 e ∧ Did p s s' ∧ Own B w' (mAtoms p s' ++ L) := by
    rintro v w' ⟨e, s', h1, h2, h3⟩
    exact ⟨e, s', h1, h2, (h3.perm List.perm_middle).tail⟩
  (repeat with_reducible first | refine qq ?_ | refine qr ?_ | refine qs ?_ | refine hw1.l 13 ?_)
  refine Bc_dec (fun _ => ?_) (fun _ => ?_)
  · (repeat with_reducible first | refine qq ?_ | refine qr ?_ | refine qs ?_ | refine hw1.l 13 ?_)
    exact (k21 hP hMy hw1 hS hC hN hT hM at_).use hlast
  (repeat with_reducible first | refine qq ?_ | refine qr ?_ | refine qs ?_ | refine hw1.l 13 ?_)
  refine Bc_dec (fun _ => ?_) (fun _ => ?_)
  · (repeat with_reducible first | refine qq ?_ | refine qr ?_ | refine qs ?_ | refine hw1.l 13 ?_)
    exact (k22 hP hMy hw1 hS hC hN hT hM at_).use hlast
  (repeat with_reducible first | refine qq ?_ | refine qr ?_ | refine qs ?_ | refine hw1.l 13 ?_)
  refine Bc_dec (fun _ => ?_) (fun _ => ?_)
  · (repeat with_reducible first | refine qq ?_ | refine qr ?_ | refine qs ?_ | refine hw1.l 13 ?_)
    exact (k23 hw1 hS hC hN n).use hlast
  (repeat with_reducible first | refine qq ?_ | refine qr ?_ | refine qs ?_ | refine hw1.l 13 ?_)
  refine Bc_dec (fun _ => ?_) (fun _ => ?_)
  · (repeat with_reducible first | refine qq ?_ | refine qr ?_ | refine qs ?_ | refine hw1.l 13 ?_)
    exact (k24 hP hMy hw1 hS hC hN hT at_ n).use hlast
  (repeat with_reducible first | refine qq ?_ | refine qr ?_ | refine qs ?_ | refine hw1.l 13 ?_)
  refine Bc_dec (fun _ => ?_) (fun _ => ?_)
  · (repeat with_reducible first | refine qq ?_ | refine qr ?_ | refine qs ?_ | refine hw1.l 13 ?_)
    exact (k25 hP hMy hw1 hS hC hN hT at_ n).use hlast
  exact ⟨2, s, rfl, Did.refl hS hN, (hw1.perm List.perm_middle).tail⟩
end
end Go.Proofs.Ytedcfkigfcobaaa
end
/- Contracts: a new machine; its run. -/
section
namespace Go.Proofs.Ytedcfkigfcobaaa
open Go Go.Proofs
attribute [local irreducible] Bc O AL BS MS MM ST AP CV Cl
/-- a run, as a value -/
def runV (tv mv : Value) : Value := .agg #[tv, mv]
section
variable {B : Base} {w : World} {L : List Atom} {p : PP}
theorem fill52 {a b : Value} (ha : one a = true) (hb : one b = true) : (fillW Try.prog 52 [(0, a), (1, b)]).map Value.agg = some (runV a b) := by
  cases a <;> first | (cases ha; done) | (cases b <;> first | (cases hb; done) | kernel_rfl)
theorem k11 {s : Mc} (hw : Own B w (mAtoms p s ++ L)) : Cl Try.prog 11 [pp s.b] w fun r w' => r = runV s.tv s.mv ∧ Own B w' (mAtoms p s ++ L) := by
  refine s11 ?_
  unfold c11
  refine hw.al fun b2 w1 hb2 hw1 => ?_
  clear hw
  refine hw1.dr fun w2 hw2 => ?_
  clear hw1
  have ht := sl_one hw2 7 rfl
  have hm := sl_one hw2 12 rfl
  (repeat with_reducible first | refine qq ?_ | refine qr ?_ | refine qs ?_ | refine hw2.l 1 ?_)
  refine O.mk (fill52 ht hm) ?_
  refine hw2.st_bk (x := runV s.tv s.mv) 0 rfl (by kernel_rfl) (by show ([s.tv, s.mv] : List Value).all one = true; simp [ht, hm]) (Nat.le_refl 2) fun w3 hw3 => ?_
  refine O.mk (v := runV s.tv s.mv) (hw3.rdN_bk 0 rfl (Nat.le_refl 2)) ?_
  exact ⟨rfl, hw3.tail⟩
theorem fill45n {p : PP} {h v : Value} (hh : one h = true) (hv : one v = true) : (fillW Try.prog 45 [(0, progV p), (1, h), (7, v)]).map Value.agg = some (.agg (pcells p ++ [h, .pointer none, .slice none 0 0, .slice none 0 0, .slice none 0 0, .slice none 0 0, v, .slice none 0 0, .slice none 0 0, .slice none 0 0, .int .i64 0, .int .i64 0, .bool false]).toArray) := by
  cases h <;> first | (cases hh; done) | (cases v <;> first | (cases hv; done) | kernel_rfl)
theorem fill73m (f : Int) : (fillW Try.prog 73 [(0, .int .i64 1), (3, .int .i64 f), (13, .int .i64 (-1))]).map Value.agg = some (.agg (encTK ⟨1, 0, 0, f, 0, 0, 0, false, 0, 0, 0, 0, 0, -1, 0⟩).toArray) := by kernel_rfl
theorem fill92 : (fillW Try.prog 92 []).map Value.agg = some (.agg #[.slice none 0 0]) := by kernel_rfl
theorem fill99 : (fillW Try.prog 99 []).map Value.agg = some (.agg #[.slice none 0 0]) := by kernel_rfl
abbrev mainT (p : PP) : TK := ⟨1, 0, 0, p.main, 0, 0, 0, false, 0, 0, 0, 0, 0, -1, 0⟩
/-- a machine as it is made -/
structure Fresh (p : PP) (s : Mc) : Prop where
  ok : SOK p s
  T : s.T = [{ mainT p with state := 1 }]
  M : s.M = []
  Q : s.qs.map (·.l) = (List.replicate p.nl ([] : List QI)).modify 0 (· ++ [⟨1, false, 0⟩])
  runs : s.runs = List.replicate p.nl 0
  on : s.on = List.replicate p.events.length (-1)
  now : s.now = 0
  ne : ∀ (i : Nat) (t : TH), s.th[i]? = some t → t.fs ≠ []
structure LoopS (p : PP) (bm : Nat) (s : Mc) (i : Nat) : Prop where
  b : s.b = bm
  qs : s.qs.map (·.l) = List.replicate i ([] : List QI)
  runs : s.runs = List.replicate i 0
  T : s.T = []
  th : s.th = []
  M : s.M = []
  log : s.log = []
  h : s.h.os = []
  g : s.g.length = p.ng
  on : s.on = List.replicate p.events.length (-1)
  now : s.now = 0
  h2 : s.full = false
set_option maxHeartbeats 4000000 in
theorem k8 (hP : ProgOK B p) (hMy : MayP p) (hw : Own B w L) : Cl Try.prog 8 [progV p] w fun r w' => ∃ s : Mc, r = pp s.b ∧ Fresh p s ∧ Own B w' (mAtoms p s ++ L) := by
  obtain ⟨R, hR⟩ : ∃ R : Value → World → Prop, R = fun r w' => ∃ s : Mc, r = pp s.b ∧ Fresh p s ∧ Own B w' (mAtoms p s ++ L) := ⟨_, rfl⟩
  rw [← hR]
  have hpl := hMy.parts.lens
  have hnl := hMy.parts.nl
  refine s8 ?_
  unfold c8
  refine hw.al fun b1 w1 hb1 hw1 => ?_
  clear hw
  refine hw1.dr fun w2 hw2 => ?_
  clear hw1
  replace hw2 : Own B w2 (bk b1 30 (pcells p) :: L) := hw2
  refine O.mk (v := progV p) (hw2.rdN_bk 0 rfl (Nat.le_refl 8)) ?_
  refine O.mk fill92 ?_
  (repeat with_reducible first | refine qq ?_ | refine qr ?_ | refine qs ?_ | refine hw2.l 0 ?_)
  refine O.mk hP.gl ?_
  have J0 : ∀ (bm hb : Nat) (gv : Value) w', Own B w' (bk bm 45 (pcells p ++ [pp hb, .pointer none, .slice none 0 0, .slice none 0 0, .slice none 0 0, .slice none 0 0, gv, .slice none 0 0, .slice none 0 0, .slice none 0 0, .int .i64 0, .int .i64 0, .bool false]) :: bk hb 92 [.slice none 0 0] :: sl 2 1 gv p.ng (ints (List.replicate p.ng 0)) :: bk b1 30 (pcells p) :: L) →
      j8_0 R (pp b1) (pp bm) w' := by
    intro bm hb gv w3 hw3
    unfold j8_0
    obtain ⟨I0, hI⟩ : ∃ I : Value → Value → World → Prop, I = fun u v w' => ∃ (i : Nat) (es : List Bool) (ov : Value), v = .int .i64 i ∧ i ≤ p.events.length ∧ es.length = i ∧ Own B w' (sl 4 1 u es.length (bools es) :: bk bm 45 (pcells p ++ [pp hb, .pointer none, .slice none 0 0, .slice none 0 0, .slice none 0 0, .slice none 0 0, gv, .slice none 0 0, .slice none 0 0, ov, .int .i64 0, .int .i64 0, .bool false]) :: sl 3 1 ov i (ints (List.replicate i (-1))) :: bk hb 92 [.slice none 0 0] :: sl 2 1 gv p.ng (ints (List.replicate p.ng 0)) :: bk b1 30 (pcells p) :: L) := ⟨_, rfl⟩
    obtain ⟨m0, hm⟩ : ∃ m : Value → Value → World → Nat, m = fun _ v _ => match v with | .int _ i => (p.events.length - i).toNat | _ => 0 := ⟨_, rfl⟩
    refine ⟨I0, m0, ?_, ?_⟩
    · rw [hI]
      refine ⟨0, [], .slice none 0 0, rfl, by omega, rfl, ?_⟩
      have h1 := hw3.nilSl 3 1
      have h2 := (h1.perm (List.Perm.swap _ _ _)).nilSl 4 1
      exact h2
    clear hw3
    intro u v wh0 h0
    rw [hI] at h0
    obtain ⟨i, es, ov, rfl, hi, hes, hw4⟩ := h0
    (repeat with_reducible first | refine qq ?_ | refine qr ?_ | refine qs ?_ | refine hw4.l 1 ?_ | refine hw4.l 5 ?_)
    refine O.mk hP.evs.len ?_
    (repeat with_reducible first | refine qq ?_ | refine qr ?_ | refine qs ?_)
    refine Bc_dec (fun hlt => ?_) (fun hge => ?_)
    · obtain ⟨k, hk⟩ := list_get (l := p.events) (j := i) (by omega)
      obtain ⟨bk0, o, hix, hrd, _⟩ := hP.evs.at_ (by omega) encPE_len hk
      (repeat with_reducible first | refine qq ?_ | refine qr ?_ | refine qs ?_ | refine hw4.l 1 ?_ | refine hw4.l 5 ?_)
      refine O.mk (hix _ _ (by omega) (by omega)) ?_
      (repeat with_reducible first | refine qq ?_ | refine qr ?_ | refine qs ?_)
      rw [show ((i : Int)).toNat = i by omega]
      refine O.mk (hrd _ _ hw4 2 _ rfl) ?_
      refine hw4.app (xs := [.bool k.on]) T59 ⟨_, T59.under⟩ 0 rfl (by decide) rfl rfl rfl (by omega) fun u' w5 hw5 => ?_
      clear hw4
      (repeat with_reducible first | refine qq ?_ | refine qr ?_ | refine qs ?_ | refine hw5.l 1 ?_ | refine hw5.l 5 ?_)
      refine hw5.app (xs := [.int .i64 (-1)]) T39 ⟨_, T39.under⟩ 2 rfl (by decide) rfl rfl rfl (by omega) fun ov' w6 hw6 => ?_
      clear hw5
      have hone := sl_one hw6 2 rfl
      (repeat with_reducible first | refine qq ?_ | refine qr ?_ | refine qs ?_ | refine hw6.l 1 ?_ | refine hw6.l 5 ?_)
      refine hw6.st1 1 rfl (by kernel_rfl) hone (by show 17 < 21; decide) fun w7 hw7 => ?_
      clear hw6
      refine O.mk (bi_addb (a := i) (b := 1) (by omega)) ?_
      rw [hI, hm]
      refine ⟨⟨i + 1, es ++ [k.on], ov', rfl, by omega, by simp [hes], ?_⟩, by simp only; omega⟩
      have e1 : bools (es ++ [k.on]) = bools es ++ [.bool k.on] := by simp [bools]
      have e2 : ints (List.replicate (i + 1) (-1)) = ints (List.replicate i (-1)) ++ [.int .i64 (-1)] := by simp [ints, List.replicate_succ']
      rw [e1, e2, List.length_append]
      exact hw7
    · have hie : i = p.events.length := by omega
      rw [hie] at hw4 hes
      clear hge hi hie
      (repeat with_reducible first | refine qq ?_ | refine qr ?_ | refine qs ?_ | refine hw4.l 1 ?_ | refine hw4.l 5 ?_)
      refine O.mk hP.co.len ?_
      refine (k19 p.comps.length (by omega) (L := _) hw4 (by omega)).use ?_
      clear hw4
      rintro _ w5 ⟨lv, rfl, hlc, hle, hw5⟩
      (repeat with_reducible first | refine qq ?_ | refine qr ?_ | refine qs ?_ | refine hw5.l 1 ?_ | refine hw5.l 5 ?_)
      refine hw5.st1 1 rfl (by kernel_rfl) rfl (by show 9 < 21; decide) fun w6 hw6 => ?_
      clear hw5
      obtain ⟨s0, hs0⟩ : ∃ s0 : Mc, s0 = ⟨bm, ⟨hb, .slice none 0 0, []⟩, lv, .slice none 0 0, [], .slice none 0 0, [], .slice none 0 0, [], .slice none 0 0, [], gv, List.replicate p.ng 0, .slice none 0 0, [], .slice none 0 0, [], ov, List.replicate p.events.length (-1), 0, 0, false⟩ := ⟨_, rfl⟩
      have hw7 : Own B w6 (mAtoms p s0 ++ (bk b1 30 (pcells p) :: L)) := by
        have h1 := ((hw6.nilSl 67 8).nilSl 2 1).nilSl 128 1 |>.nilSl 73 15 |>.nilSl 3 1 |>.nilSl 96 1
        have h2 := h1.sep0.sep0
        have h3 := h2.sep0.nilSl 195 6
        have h4 := (h3.pull 13 rfl).fold (L1 := [bk hb 92 [.slice none 0 0], sl 195 6 (.slice none 0 0) 0 [], sep []])
        have h5 := ((((((((((((h4.pull 11 rfl).pull 9 rfl).pull 9 rfl).pull 12 rfl).pull 6 rfl).pull 10 rfl).pull 10 rfl).pull 10 rfl).pull 9 rfl).pull 10 rfl).pull 11 rfl).pull 11 rfl).pull 12 rfl
        rw [hs0]
        unfold mAtoms heapA mcells
        simp only [List.length_replicate]
        exact h5
      have hf0 : LoopS p bm s0 0 := by
        rw [hs0]
        exact ⟨rfl, rfl, rfl, rfl, rfl, rfl, rfl, rfl, by simp, rfl, rfl, rfl⟩
      clear hs0 hw6
      obtain ⟨I1, hI1⟩ : ∃ I : Value → World → Prop, I = fun v w' => ∃ (i : Nat) (s : Mc), v = .int .i64 i ∧ i ≤ p.nl ∧ LoopS p bm s i ∧ Own B w' (mAtoms p s ++ (bk b1 30 (pcells p) :: L)) := ⟨_, rfl⟩
      obtain ⟨m1, hm1⟩ : ∃ m : Value → World → Nat, m = fun v _ => match v with | .int _ i => (p.nl - i).toNat | _ => 0 := ⟨_, rfl⟩
      refine ⟨I1, m1, by rw [hI1]; exact ⟨0, s0, rfl, by omega, hf0, hw7⟩, ?_⟩
      clear hw7 hf0
      intro t6 wh1 h1
      rw [hI1] at h1
      obtain ⟨i, s, rfl, hi, hf, hw8⟩ := h1
      have hsb := hf.b
      rw [← hsb]
      have hqr : s.qs.length = i := by have := congrArg List.length hf.qs; simpa using this
      have hrr : s.runs.length = i := by rw [hf.runs]; simp
      (repeat with_reducible first | refine qq ?_ | refine qr ?_ | refine qs ?_ | refine hw8.l 0 ?_ | refine hw8.l 13 ?_)
      refine O.mk hP.lo ?_
      (repeat with_reducible first | refine qq ?_ | refine qr ?_ | refine qs ?_)
      refine Bc_dec (fun hlt => ?_) (fun hge => ?_)
      · (repeat with_reducible first | refine qq ?_ | refine qr ?_ | refine qs ?_ | refine hw8.l 0 ?_ | refine hw8.l 13 ?_)
        refine O.mk fill99 ?_
        refine hw8.al fun bq w9 hbq hw9 => ?_
        clear hw8
        refine hw9.app (xs := ptrC bq) T38 ⟨_, T38.under⟩ 4 rfl (by decide) rfl rfl rfl (by omega) fun qv' w10 hw10 => ?_
        clear hw9
        rw [flat_app] at hw10
        have hone := sl_one hw10 4 rfl
        (repeat with_reducible first | refine qq ?_ | refine qr ?_ | refine qs ?_ | refine hw10.l 1 ?_)
        refine hw10.st1 1 rfl (by kernel_rfl) hone (by show 10 < 21; decide) fun w11 hw11 => ?_
        clear hw10
        (repeat with_reducible first | refine qq ?_ | refine qr ?_ | refine qs ?_ | refine hw11.l 1 ?_)
        refine hw11.app (xs := [.int .i64 0]) T39 ⟨_, T39.under⟩ 6 rfl (by decide) rfl rfl rfl (by omega) fun rv' w12 hw12 => ?_
        clear hw11
        have hone2 := sl_one hw12 6 rfl
        (repeat with_reducible first | refine qq ?_ | refine qr ?_ | refine qs ?_ | refine hw12.l 1 ?_)
        refine hw12.st1 1 rfl (by kernel_rfl) hone2 (by show 11 < 21; decide) fun w13 hw13 => ?_
        clear hw12
        refine O.mk (bi_addb (a := i) (b := 1) (by omega)) ?_
        rw [hI1, hm1]
        refine ⟨⟨i + 1, { s with qv := qv', qs := s.qs ++ [⟨bq, .slice none 0 0, []⟩], rv := rv', runs := s.runs ++ [0] }, rfl, by omega, ?_, ?_⟩, by simp only; omega⟩
        · exact ⟨hf.b, by simp [hf.qs, List.replicate_succ'], by simp [hf.runs, List.replicate_succ'], hf.T, hf.th, hf.M, hf.log, hf.h, hf.g, hf.on, hf.now, hf.h2⟩
        · replace hw13 : Own B w13 (bk bq 99 [.slice none 0 0] :: (mAtoms p { s with qv := qv', rv := rv' }).set 3 (sl 96 1 qv' (s.qs.length + 1) ((s.qs.map (·.b) ++ [bq]).flatMap ptrC)) |>.set 6 (sl 3 1 rv' (s.runs.length + 1) (ints s.runs ++ [.int .i64 0])) |> (· ++ (bk b1 30 (pcells p) :: L))) := hw13
          have h1 := (hw13.nilSl 133 3)
          have h2 := (h1.perm (List.Perm.swap _ _ _)).fold (L1 := [bk bq 99 [.slice none 0 0], sl 133 3 (.slice none 0 0) 0 []])
          have h3 := Own.growAt (i := 4) (xs := s.qs) (f := queueA) (x := ⟨bq, .slice none 0 0, []⟩) rfl h2
          have e1 : (s.qs ++ [(⟨bq, .slice none 0 0, []⟩ : QS)]).length = s.qs.length + 1 := by simp
          have e2 : (s.qs ++ [(⟨bq, .slice none 0 0, []⟩ : QS)]).map (·.b) = s.qs.map (·.b) ++ [bq] := by simp
          have e3 : ints (s.runs ++ [0]) = ints s.runs ++ [.int .i64 0] := by simp [ints]
          have e4 : (s.runs ++ [0]).length = s.runs.length + 1 := by simp
          unfold mAtoms
          simp only
          rw [e1, e2, e3, e4]
          exact h3
      · have hie : i = p.nl := by omega
        have hS : SOK p s := by
          refine ⟨⟨by rw [hf.h]; decide, by rw [hf.h]; simp⟩, by omega, by omega, by rw [hf.T, hf.th]; rfl, hf.g, by rw [hf.on]; simp, ?_, ?_, by rw [hf.log]; decide, ?_⟩
          · intro i t h; rw [hf.th] at h; cases h
          · intro i t h; rw [hf.T] at h; cases h
          · intro i q h
            have h1 : (s.qs.map (·.l))[i]? = some q.l := by rw [List.getElem?_map, h]; rfl
            rw [hf.qs, List.getElem?_replicate] at h1
            split at h1
            · have := Option.some.inj h1
              rw [← this]; simp
            · cases h1
        have hmain := hMy.parts.main
        obtain ⟨g, hg⟩ := list_get (l := p.funcs) (j := p.main.toNat) (by have := hmain.1; have := hmain.2.1; omega)
        (repeat with_reducible first | refine qq ?_ | refine qr ?_ | refine qs ?_ | refine hw8.l 0 ?_ | refine hw8.l 13 ?_)
        refine O.mk (fill73m _) ?_
        refine (k20 hP hMy hw8 hS (by rw [hf.T]; decide) (t := mainT p) hmain.1 hg (cv := .slice none 0 0) (cs := []) (.inl ⟨rfl, rfl⟩) (by have := hmain.2.2 g hg; simp [this]) (by show (0 : Int) < p.nl; omega) (by rw [hf.now]; decide) (by show (0 : Int) ≤ 0 ∧ (0 : Int) ≤ 1000000; decide) ?_).use ?_
        · intro i j q x h1 h2
          have h3 : (s.qs.map (·.l))[i]? = some q.l := by rw [List.getElem?_map, h1]; rfl
          rw [hf.qs, List.getElem?_replicate] at h3
          split at h3
          · have := Option.some.inj h3
            rw [← this] at h2; cases h2
          · cases h3
        rintro _ w9 ⟨rfl, qs', x, tv, hv, e1, e2, e3, e4, hw9⟩
        rw [hR]
        refine ⟨{ s with qs := qs', tv := tv, T := s.T ++ [newT s (mainT p)], hv := hv, th := s.th ++ [x] }, rfl, ⟨hS.add e1 e2 e3 (by show (0 : Int) < p.nl; omega), ?_, hf.M, ?_, by rw [← hie]; exact hf.runs, hf.on, hf.now, ?_⟩, (hw9.perm List.perm_middle).tail⟩
        · simp only
          rw [hf.T]
          unfold newT
          rw [hf.now]
          rfl
        · simp only
          rw [e2]
          unfold addQ
          rw [if_pos (by show (0 : Int) ≤ 0; decide), hf.qs, hf.T, hf.now, hie]
          rfl
        · intro i t h
          simp only at h
          rw [hf.th] at h
          rcases i with _ | i
          · cases h
            intro h0
            rw [h0] at e4; cases e4
          · cases h
  refine ⟨?_, ?_⟩
  · refine hw2.al fun hb w3 hhb hw3 => ?_
    refine hw3.mks (e := 2) (sz := 1) (bytes := 8) (n := p.ng) (z := .int .i64 0) (by decide) rfl (by omega) (by omega) fun gv w4 hw4 => ?_
    rw [ints_zero] at hw4
    refine O.mk (fill45n rfl (sl_one hw4 0 rfl)) ?_
    refine hw4.al fun bm w5 hbm hw5 => ?_
    exact J0 bm hb gv w5 (hw5.perm (List.Perm.cons _ (List.Perm.swap _ _ _)))
  · refine hw2.mks (e := 2) (sz := 1) (bytes := 8) (n := p.ng) (z := .int .i64 0) (by decide) rfl (by omega) (by omega) fun gv w4 hw4 => ?_
    rw [ints_zero] at hw4
    refine hw4.al fun hb w3 hhb hw3 => ?_
    refine O.mk (fill45n rfl (sl_one hw3 1 rfl)) ?_
    refine hw3.al fun bm w5 hbm hw5 => ?_
    exact J0 bm hb gv w5 hw5
end
end Go.Proofs.Ytedcfkigfcobaaa
end
/- What holds of a run goes on to hold: marks of a running task, a cancelled task. -/
section
namespace Go.Proofs.Ytedcfkigfcobaaa
open Go Go.Proofs
attribute [local irreducible] Bc O AL BS MS MM ST AP CV Cl
theorem app_get {α : Type} {M : List α} {m n : α} {j : Nat} : (M ++ [m])[j]? = some n ↔ M[j]? = some n ∨ (j = M.length ∧ n = m) := by
  by_cases h : j < M.length
  · rw [List.getElem?_append_left h]
    constructor
    · exact .inl
    · rintro (h' | ⟨h', _⟩)
      · exact h'
      · omega
  · rw [List.getElem?_append_right (by omega)]
    rcases hk : j - M.length with _ | k
    · constructor
      · intro h'; cases h'; exact .inr ⟨by omega, rfl⟩
      · rintro (h' | ⟨_, rfl⟩)
        · exact absurd (list_lt h') h
        · rfl
    · constructor
      · intro h'; cases h'
      · rintro (h' | ⟨h', _⟩)
        · exact absurd (list_lt h') h
        · omega
theorem app_old {α : Type} {M : List α} {m n : α} {j : Nat} (h : M[j]? = some n) : (M ++ [m])[j]? = some n := app_get.2 (.inl h)
theorem set_get {α : Type} {T : List α} {k i : Nat} {t u x : α} (ht : T[k]? = some t) (h : (T.set k x)[i]? = some u) : (i = k ∧ u = x) ∨ (i ≠ k ∧ T[i]? = some u) := by
  rw [List.getElem?_set] at h
  by_cases hi : k = i
  · subst hi
    rw [if_pos rfl, if_pos (list_lt ht)] at h
    cases h; exact .inl ⟨rfl, rfl⟩
  · rw [if_neg hi] at h
    exact .inr ⟨fun e => hi e.symm, h⟩
theorem get_set {α : Type} {T : List α} {k i : Nat} {u x : α} (hi : i ≠ k) (h : T[i]? = some u) : (T.set k x)[i]? = some u := by
  rw [List.getElem?_set_ne (Ne.symm hi)]; exact h
theorem set_self {α : Type} {T : List α} {k : Nat} {t x : α} (h : T[k]? = some t) : (T.set k x)[k]? = some x := List.getElem?_set_self (list_lt h)
section
variable {p : PP} {c : CS}
/-- one step of a task: its state, a mark behind all others; perhaps new tasks behind all others -/
structure Tr (c : CS) (T' : List TK) (k : Nat) (t : TK) (st tr : Int) (m : MK) : Prop where
  old : c.T[k]? = some t
  new : T'[k]? = some { t with state := st, trap := tr }
  others : ∀ (i : Nat) (u : TK), i ≠ k → c.T[i]? = some u → T'[i]? = some u
  len : c.T.length ≤ T'.length
  task : m.task = k + 1
  sts : (t.state = 1 ∧ st = 2 ∧ m.kind = 1) ∨ (t.state = 2 ∧ st = 2 ∧ 3 ≤ m.kind ∧ m.kind ≤ 7) ∨ (t.state = 2 ∧ st = 3 ∧ m.kind = 2)
theorem Tr.like {T' : List TK} {k : Nat} {t : TK} {st tr : Int} {m : MK} (h : Tr c T' k t st tr m) {i : Nat} {u : TK} (hu : c.T[i]? = some u) : ∃ u', T'[i]? = some u' ∧ u'.kind = u.kind ∧ u'.of_ = u.of_ ∧ u'.by_ = u.by_ ∧ u'.mark = u.mark ∧ u'.looper = u.looper ∧ u'.front = u.front ∧ u'.due = u.due := by
  by_cases hi : i = k
  · subst hi
    rw [h.old] at hu; cases hu
    exact ⟨_, h.new, rfl, rfl, rfl, rfl, rfl, rfl, rfl⟩
  · exact ⟨u, h.others i u hi hu, rfl, rfl, rfl, rfl, rfl, rfl, rfl⟩
theorem Tr.back {T' : List TK} {k : Nat} {t : TK} {st tr : Int} {m : MK} (h : Tr c T' k t st tr m) {i : Nat} {u : TK} (hu : T'[i]? = some u) (hi : i < c.T.length) : (i = k ∧ u = { t with state := st, trap := tr }) ∨ (i ≠ k ∧ c.T[i]? = some u) := by
  by_cases hik : i = k
  · subst hik
    rw [h.new] at hu; cases hu
    exact .inl ⟨rfl, rfl⟩
  · obtain ⟨v, hv⟩ := list_get hi
    have := h.others i v hik hv
    rw [hu] at this; cases this
    exact .inr ⟨hik, hv⟩
theorem TaskOK.markLt {i : Nat} {t : TK} (h : TaskOK p c i t) : t.mark < c.M.length := by
  have hk := h.kind
  have h0 := h.mark0
  by_cases h1 : t.kind = 1 ∨ t.kind = 2
  · have := h0 h1; omega
  · by_cases h3 : t.kind = 3
    · rcases h.markE h3 with h4 | ⟨h4, n, h5, _⟩
      · omega
      · have := list_lt h5; omega
    · obtain ⟨h4, n, h5, _⟩ := h.markP (by omega)
      have := list_lt h5; omega
theorem Tr.tk {T' : List TK} {k : Nat} {t : TK} {st tr : Int} {m : MK} (h : Tr c T' k t st tr m) (hC : CI p c) (hpr : t.state = 1 → t.prev = 0 ∨ ∃ o, c.T[(t.prev - 1).toNat]? = some o ∧ o.state = 3) {i : Nat} {u : TK} (hi : i < c.T.length) (hu : T'[i]? = some u) {c' : CS} (hT : c'.T = T') (hM : c'.M = c.M ++ [m]) (hn : c'.now = c.now) : TaskOK p c' i u := by
  have hmt := h.task
  have hkt := hC.tk k t h.old
  have prevOK : ∀ (o : TK) (j : Nat), c.T[j]? = some o → o.state = 3 → ∃ (e : Nat) (n : MK), c.M[e]? = some n ∧ n.task = j + 1 ∧ n.kind = 2 := fun o j ho h3 => (hC.tk j o ho).over h3
  rcases h.back hu hi with ⟨rfl, rfl⟩ | ⟨hne, hu'⟩
  · refine ⟨hkt.kind, hkt.lo, ?_, ?_, ?_, ?_, ?_, ?_, hkt.mark0, ?_, ?_, ?_, ?_, ?_⟩
    · show 1 ≤ st ∧ st ≤ 4
      rcases h.sts with h' | h' | h' <;> omega
    · intro h4
      rcases h.sts with h' | h' | h' <;> simp only at h4 <;> omega
    · intro h4
      rcases h.sts with h' | h' | h' <;> simp only at h4 <;> omega
    · intro _
      rw [hM]
      rcases h.sts with ⟨h1, h2, h3⟩ | ⟨h1, h2, h3⟩ | ⟨h1, h2, h3⟩
      · exact ⟨c.M.length, m, app_get.2 (.inr ⟨rfl, rfl⟩), hmt, h3⟩
      · obtain ⟨j, n, h4, h5⟩ := hkt.begun (.inl h1)
        exact ⟨j, n, app_old h4, h5⟩
      · obtain ⟨j, n, h4, h5⟩ := hkt.begun (.inl h1)
        exact ⟨j, n, app_old h4, h5⟩
    · intro h4 j n hj hn
      simp only at h4
      rw [hM] at hj
      rcases app_get.1 hj with h5 | ⟨_, rfl⟩
      · rcases h.sts with ⟨h1, h2, h3⟩ | ⟨h1, h2, h3⟩ | ⟨h1, h2, h3⟩
        · exact absurd hn (hkt.fresh (.inl h1) j n h5)
        · exact hkt.open_ h1 j n h5 hn
        · omega
      · rcases h.sts with ⟨h1, h2, h3⟩ | ⟨h1, h2, h3⟩ | ⟨h1, h2, h3⟩ <;> omega
    · intro h4
      simp only at h4
      rw [hM]
      rcases h.sts with ⟨h1, h2, h3⟩ | ⟨h1, h2, h3⟩ | ⟨h1, h2, h3⟩
      · omega
      · omega
      · exact ⟨c.M.length, m, app_get.2 (.inr ⟨rfl, rfl⟩), hmt, h3⟩
    · intro h4
      obtain ⟨h5, n, h6, h7⟩ := hkt.markP h4
      rw [hM]
      exact ⟨h5, n, app_old h6, h7⟩
    · intro h4
      rw [hM]
      rcases hkt.markE h4 with h5 | ⟨h5, n, h6, h7⟩
      · exact .inl h5
      · exact .inr ⟨h5, n, app_old h6, h7⟩
    · intro j n hj hn
      rw [hM] at hj
      rcases app_get.1 hj with h5 | ⟨rfl, rfl⟩
      · exact hkt.later j n h5 hn
      · exact hkt.markLt
    · rw [hn]; exact hkt.foll
    · rcases hkt.prev with h5 | ⟨q, o, h5, h6, h7, h8, h9, h10, h11, h12⟩
      · exact .inl h5
      · obtain ⟨o', ho', e1, e2, _, _, e3, _⟩ := h.like h7
        refine .inr ⟨q, o', h5, h6, by rw [hT]; exact ho', h8, e1.trans h9, e2.trans h10, e3.trans h11, fun j n hj hn => ?_⟩
        rw [hM] at hj ⊢
        rcases app_get.1 hj with h13 | ⟨rfl, rfl⟩
        · obtain ⟨j', n', h14, h15, h16⟩ := h12 j n h13 hn
          exact ⟨j', n', h14, app_old h15, h16⟩
        · by_cases h1 : t.state = 1
          · rcases hpr h1 with h13 | ⟨o2, h13, h14⟩
            · omega
            · obtain ⟨e, n', h15, h16, h17⟩ := prevOK o2 _ h13 h14
              refine ⟨e, n', list_lt h15, app_old h15, ?_, h17⟩
              rw [h16]; omega
          · obtain ⟨j, n', h13, h14, _⟩ := hkt.begun (by rcases h.sts with h' | h' | h' <;> omega)
            obtain ⟨j', n2, h15, h16, h17⟩ := h12 j n' h13 h14
            exact ⟨j', n2, by have := list_lt h13; omega, app_old h16, h17⟩
  · have hut := hC.tk i u hu'
    have hnt : m.task ≠ i + 1 := by omega
    refine ⟨hut.kind, hut.lo, hut.state, hut.canc, ?_, ?_, ?_, ?_, hut.mark0, ?_, ?_, ?_, ?_, ?_⟩
    · intro h4 j n hj
      rw [hM] at hj
      rcases app_get.1 hj with h5 | ⟨_, rfl⟩
      · exact hut.fresh h4 j n h5
      · exact hnt
    · intro h4
      obtain ⟨j, n, h5, h6⟩ := hut.begun h4
      rw [hM]
      exact ⟨j, n, app_old h5, h6⟩
    · intro h4 j n hj hn
      rw [hM] at hj
      rcases app_get.1 hj with h5 | ⟨_, rfl⟩
      · exact hut.open_ h4 j n h5 hn
      · exact absurd hn hnt
    · intro h4
      obtain ⟨j, n, h5, h6⟩ := hut.over h4
      rw [hM]
      exact ⟨j, n, app_old h5, h6⟩
    · intro h4
      obtain ⟨h5, n, h6, h7⟩ := hut.markP h4
      rw [hM]
      exact ⟨h5, n, app_old h6, h7⟩
    · intro h4
      rw [hM]
      rcases hut.markE h4 with h5 | ⟨h5, n, h6, h7⟩
      · exact .inl h5
      · exact .inr ⟨h5, n, app_old h6, h7⟩
    · intro j n hj hn
      rw [hM] at hj
      rcases app_get.1 hj with h5 | ⟨_, rfl⟩
      · exact hut.later j n h5 hn
      · exact absurd hn hnt
    · rw [hn]; exact hut.foll
    · rcases hut.prev with h5 | ⟨q, o, h5, h6, h7, h8, h9, h10, h11, h12⟩
      · exact .inl h5
      · obtain ⟨o', ho', e1, e2, _, _, e3, _⟩ := h.like h7
        refine .inr ⟨q, o', h5, h6, by rw [hT]; exact ho', h8, e1.trans h9, e2.trans h10, e3.trans h11, fun j n hj hn => ?_⟩
        rw [hM] at hj ⊢
        rcases app_get.1 hj with h13 | ⟨_, rfl⟩
        · obtain ⟨j', n', h14, h15, h16⟩ := h12 j n h13 hn
          exact ⟨j', n', h14, app_old h15, h16⟩
        · exact absurd hn hnt
theorem MarkOK.mono {T T' : List TK} {M M' : List MK} {i : Nat} {m : MK} (h : MarkOK T M i m) (hlen : T.length ≤ T'.length) (hT : ∀ (i : Nat) u, T[i]? = some u → ∃ u', T'[i]? = some u' ∧ u'.kind = u.kind ∧ u'.by_ = u.by_ ∧ u'.mark = u.mark) (hM : ∀ (j : Nat) n, j < i → (M'[j]? = some n ↔ M[j]? = some n)) : MarkOK T' M' i m := by
  refine ⟨⟨h.task.1, by have := h.task.2; omega⟩, h.kind, ?_, ?_, ?_, ?_, h.enable⟩
  · rw [h.fst]
    constructor
    · intro h1 j n hj hn; exact h1 j n hj ((hM j n hj).1 hn)
    · intro h1 j n hj hn; exact h1 j n hj ((hM j n hj).2 hn)
  · intro j n hj hn; exact h.noend j n hj ((hM j n hj).1 hn)
  · intro hk
    obtain ⟨h1, t, h2, h3, h4, h5, h6⟩ := h.made hk
    obtain ⟨t', h7, h8, h9, h10⟩ := hT _ _ h2
    exact ⟨h1, t', h7, h8.trans h3, h9.trans h4, h10.trans h5, fun j n hj hn => h6 j n hj ((hM j n hj).1 hn)⟩
  · intro hk
    obtain ⟨h1, t, h2, h3, j, n, h4, h5, h6⟩ := h.join hk
    obtain ⟨t', h7, h8, h9, h10⟩ := hT _ _ h2
    exact ⟨h1, t', h7, h8.trans h3, j, n, h4, (hM j n h4).2 h5, h6⟩
theorem app_lt {α : Type} {M : List α} {m : α} {i : Nat} (hi : i ≤ M.length) (j : Nat) (n : α) (hj : j < i) : (M ++ [m])[j]? = some n ↔ M[j]? = some n := by
  rw [List.getElem?_append_left (by omega)]
theorem Tr.mks {T' : List TK} {k : Nat} {t : TK} {st tr : Int} {m : MK} (h : Tr c T' k t st tr m) (hC : CI p c)
    (hmade : m.kind = 4 ∨ m.kind = 5 → m.task < m.other ∧ ∃ u, T'[(m.other - 1).toNat]? = some u ∧ u.kind = m.kind ∧ u.by_ = m.task ∧ u.mark = c.M.length ∧ ∀ (j : Nat) (n : MK), c.M[j]? = some n → n.task ≠ m.other)
    (hjoin : m.kind = 6 → 1 ≤ m.other ∧ ∃ u, c.T[(m.other - 1).toNat]? = some u ∧ u.kind = 5 ∧ u.state = 3) (hen : m.kind = 7 → 0 ≤ m.other) {i : Nat} {n : MK} (hn : (c.M ++ [m])[i]? = some n) : MarkOK T' (c.M ++ [m]) i n := by
  have hmt := h.task
  have hkl := list_lt h.old
  have hkt := hC.tk k t h.old
  rcases app_get.1 hn with hn' | ⟨rfl, rfl⟩
  · refine (hC.mks i n hn').mono h.len (fun j u hu => ?_) (app_lt (by have := list_lt hn'; omega))
    obtain ⟨u', h1, h2, _, h3, h4, _⟩ := h.like hu
    exact ⟨u', h1, h2, h3, h4⟩
  · refine ⟨⟨by omega, by have := h.len; omega⟩, by rcases h.sts with h' | h' | h' <;> omega, ?_, ?_, ?_, ?_, hen⟩
    · constructor
      · intro h1 j n' hj hn1
        rw [app_lt (Nat.le_refl _) j n' hj] at hn1
        rcases h.sts with ⟨h2, _⟩ | h' | h'
        · intro ⟨h3, _⟩
          exact hkt.fresh (.inl h2) j n' hn1 (by omega)
        · omega
        · omega
      · intro h1
        rcases h.sts with ⟨h2, _, h3⟩ | ⟨h2, _, h3⟩ | ⟨h2, _, h3⟩
        · exact h3
        · obtain ⟨j, n', h4, h5, h6⟩ := hkt.begun (.inl h2)
          exact absurd ⟨by omega, h6⟩ (h1 j n' (list_lt h4) (app_old h4))
        · obtain ⟨j, n', h4, h5, h6⟩ := hkt.begun (.inl h2)
          exact absurd ⟨by omega, h6⟩ (h1 j n' (list_lt h4) (app_old h4))
    · intro j n' hj hn1 ht
      rw [app_lt (Nat.le_refl _) j n' hj] at hn1
      rcases h.sts with ⟨h2, _, h3⟩ | ⟨h2, _, h3⟩ | ⟨h2, _, h3⟩
      · exact absurd (by omega) (hkt.fresh (.inl h2) j n' hn1)
      · exact hkt.open_ h2 j n' hn1 (by omega)
      · exact hkt.open_ h2 j n' hn1 (by omega)
    · intro hk
      obtain ⟨h1, u, h2, h3, h4, h5, h6⟩ := hmade hk
      exact ⟨h1, u, h2, h3, h4, h5, fun j n' hj hn1 => h6 j n' ((app_lt (Nat.le_refl _) j n' hj).1 hn1)⟩
    · intro hk
      obtain ⟨h1, u, h2, h3, h4⟩ := hjoin hk
      obtain ⟨e, n', h5, h6, h7⟩ := (hC.tk _ u h2).over h4
      obtain ⟨u', h8, h9, _⟩ := h.like h2
      exact ⟨h1, u', h8, h9.trans h3, e, n', list_lt h5, app_old h5, by omega, h7⟩
theorem Tr.alone {T' : List TK} {k : Nat} {t : TK} {st tr : Int} {m : MK} (h : Tr c T' k t st tr m) (hC : CI p c) (hone : m.kind = 1 → ∀ (i : Nat) (u : TK), c.T[i]? = some u → i ≠ k → u.looper = t.looper → 0 ≤ t.looper → u.state ≠ 2) :
    ∀ (a b : Nat) (m1 n : MK) (u v : TK), a < b → (c.M ++ [m])[a]? = some m1 → (c.M ++ [m])[b]? = some n → m1.kind = 1 → n.kind = 1 → T'[(m1.task - 1).toNat]? = some u → T'[(n.task - 1).toNat]? = some v → 0 ≤ u.looper → u.looper = v.looper →
    ∃ (e : Nat) (n' : MK), e < b ∧ (c.M ++ [m])[e]? = some n' ∧ n'.task = m1.task ∧ n'.kind = 2 := by
  intro a b m1 n u v hab ha hb h1 h2 hu hv hl hlv
  have hmt := h.task
  have ha' : c.M[a]? = some m1 := by
    rcases app_get.1 ha with h3 | ⟨h3, _⟩
    · exact h3
    · have := list_lt hb; simp at this; omega
  have hlt : ∀ (j : Nat) (n : MK), c.M[j]? = some n → 1 ≤ n.task ∧ (n.task - 1).toNat < c.T.length := fun j n hj => by
    have := (hC.mks j n hj).task
    omega
  have hlike : ∀ (j : Nat) (w : TK), j < c.T.length → T'[j]? = some w → ∃ w0, c.T[j]? = some w0 ∧ w0.looper = w.looper := fun j w hj hw => by
    rcases h.back hw hj with ⟨rfl, rfl⟩ | ⟨_, h4⟩
    · exact ⟨t, h.old, rfl⟩
    · exact ⟨w, h4, rfl⟩
  have hma := hlt a m1 ha'
  obtain ⟨u0, hu0, hul⟩ := hlike _ u hma.2 hu
  rcases app_get.1 hb with hb' | ⟨rfl, rfl⟩
  · obtain ⟨v0, hv0, hvl⟩ := hlike _ v (hlt b n hb').2 hv
    obtain ⟨e, n', h3, h4, h5⟩ := hC.alone a b m1 n u0 v0 hab ha' hb' h1 h2 hu0 hv0 (by omega) (by omega)
    exact ⟨e, n', h3, app_old h4, h5⟩
  · rw [hmt, show ((k : Int) + 1 - 1).toNat = k by omega] at hv
    rw [h.new] at hv; cases hv
    simp only at hlv
    have hst := (hC.tk _ u0 hu0).state
    have hne : (m1.task - 1).toNat ≠ k := by
      intro he
      have h3 := hC.tk _ u0 hu0
      rw [he, h.old] at hu0; cases hu0
      have := (hC.tk k t h.old).fresh (by rcases h.sts with h' | h' | h' <;> omega) a m1 ha'
      omega
    have h2' := hone h2 _ u0 hu0 hne (by omega) (by omega)
    have hf := (hC.tk _ u0 hu0).fresh
    have h3 : u0.state = 3 := by
      by_cases h4 : u0.state = 1 ∨ u0.state = 4
      · have := hf h4 a m1 ha'
        omega
      · omega
    obtain ⟨e, n', h4, h5, h6⟩ := (hC.tk _ u0 hu0).over h3
    exact ⟨e, n', list_lt h4, app_old h4, by omega, h6⟩
theorem QueueOK.same {T T' : List TK} {lo : Nat} {l : List QI} (h : QueueOK T lo l) (h1 : ∀ (i : Nat) t, T[i]? = some t → t.looper = lo → t.state = 1 → ∃ t', T'[i]? = some t' ∧ t'.looper = lo ∧ t'.state = 1 ∧ t'.front = t.front ∧ t'.due = t.due)
    (h2 : ∀ (i : Nat) t', T'[i]? = some t' → t'.looper = lo → t'.state = 1 → ∃ t, T[i]? = some t ∧ t.looper = lo ∧ t.state = 1) : QueueOK T' lo l := by
  refine ⟨fun j x hx => ?_, fun i t' ht hl hs => ?_, h.ord⟩
  · obtain ⟨a, t, b, c, d, e, f⟩ := h.it j x hx
    obtain ⟨t', b', c', d', e', f'⟩ := h1 _ t b c d
    exact ⟨a, t', b', c', d', e.trans e'.symm, f.trans f'.symm⟩
  · obtain ⟨t, b, c, d⟩ := h2 i t' ht hl hs
    exact h.all i t b c d
theorem drop_get {l l' : List QI} {x : Int} (h : DropTo l x l') (ho : ∀ (j k : Nat) (y z : QI), j < k → l[j]? = some y → l[k]? = some z → y.task < z.task) :
    (∀ (j : Nat) y, l'[j]? = some y → ∃ j' : Nat, l[j']? = some y ∧ y.task ≠ x) ∧ (∀ (j : Nat) y, l[j]? = some y → y.task ≠ x → ∃ j' : Nat, l'[j']? = some y) ∧ (∀ (j k : Nat) (y z : QI), j < k → l'[j]? = some y → l'[k]? = some z → y.task < z.task) := by
  rcases h with ⟨rfl, h⟩ | ⟨n, ⟨xn, h1, h2⟩, h3, rfl⟩
  · exact ⟨fun j y hy => ⟨j, hy, h j y hy⟩, fun j y hy _ => ⟨j, hy⟩, ho⟩
  · refine ⟨fun j y hy => ?_, fun j y hy hne => ?_, fun j k y z hjk hy hz => ?_⟩
    · rw [List.getElem?_eraseIdx] at hy
      split at hy
      · exact ⟨j, hy, h3 j y hy (by assumption)⟩
      · have := ho n (j + 1) xn y (by omega) h1 hy
        exact ⟨j + 1, hy, by omega⟩
    · by_cases hj : j < n
      · exact ⟨j, by rw [List.getElem?_eraseIdx, if_pos hj]; exact hy⟩
      · by_cases hjn : j = n
        · subst hjn; rw [h1] at hy; cases hy; exact absurd h2 hne
        · refine ⟨j - 1, ?_⟩
          rw [List.getElem?_eraseIdx, if_neg (by omega), show j - 1 + 1 = j by omega]; exact hy
    · rw [List.getElem?_eraseIdx] at hy hz
      split at hy <;> split at hz
      · exact ho j k y z hjk hy hz
      · exact ho j (k + 1) y z (by omega) hy hz
      · omega
      · exact ho (j + 1) (k + 1) y z (by omega) hy hz
/-- a task leaves its queue -/
theorem QueueOK.drop {T : List TK} {lo k : Nat} {l l' : List QI} {t t' : TK} (h : QueueOK T lo l) (ht : T[k]? = some t) (hs : t'.state ≠ 1) (hd : DropTo l (k + 1) l') : QueueOK (T.set k t') lo l' := by
  obtain ⟨d1, d2, d3⟩ := drop_get hd h.ord
  refine ⟨fun j x hx => ?_, fun i u hu hl hst => ?_, d3⟩
  · obtain ⟨j', hj', hne⟩ := d1 j x hx
    obtain ⟨a, u, b, c⟩ := h.it j' x hj'
    exact ⟨a, u, get_set (by omega) b, c⟩
  · rcases set_get ht hu with ⟨_, rfl⟩ | ⟨hne, hu'⟩
    · exact absurd hst hs
    · obtain ⟨j, x, h1, h2⟩ := h.all i u hu' hl hst
      obtain ⟨j', h3⟩ := d2 j x h1 (by omega)
      exact ⟨j', x, h3, h2⟩
/-- the queue of another looper -/
theorem QueueOK.other {T : List TK} {lo k : Nat} {l : List QI} {t t' : TK} (h : QueueOK T lo l) (ht : T[k]? = some t) (hlo : t.looper ≠ lo) (hl' : t'.looper = t.looper) : QueueOK (T.set k t') lo l := by
  refine h.same (fun i u hu hl hs => ⟨u, get_set (fun he => ?_) hu, hl, hs, rfl, rfl⟩) fun i u hu hl hs => ?_
  · subst he; rw [ht] at hu; cases hu; exact hlo hl
  · rcases set_get ht hu with ⟨_, rfl⟩ | ⟨_, h1⟩
    · exact absurd (hl'.symm.trans hl) hlo
    · exact ⟨u, h1, hl, hs⟩
end
end Go.Proofs.Ytedcfkigfcobaaa
end
/- What holds of a run goes on to hold: every entry. -/
section
namespace Go.Proofs.Ytedcfkigfcobaaa
open Go Go.Proofs
attribute [local irreducible] Bc O AL BS MS MM ST AP CV Cl
section
variable {p : PP} {c : CS}
theorem CI.runs2 (hC : CI p c) {i : Nat} {t : TK} (ht : c.T[i]? = some t) (hs : t.state = 2) {lo : Nat} (hl : t.looper = lo) : c.runs[lo]? = some ((i : Int) + 1) := by
  have := hC.run1 i t ht hs (by omega)
  rw [hl] at this
  exact this
theorem Tr.stay {k : Nat} {t : TK} {m : MK} (ht : c.T[k]? = some t) (hs : t.state = 2) (hm : m.task = k + 1) (hk : 3 ≤ m.kind ∧ m.kind ≤ 7) : Tr c c.T k t 2 t.trap m := by
  refine ⟨ht, ?_, fun i u _ h => h, Nat.le_refl _, hm, .inr (.inl ⟨hs, rfl, hk⟩)⟩
  rw [ht, ← hs]
theorem on_app {M : List MK} {m : MK} {e : Nat} {v : Int} (h : v = -1 ∨ (0 ≤ v ∧ ∃ n, M[v.toNat]? = some n ∧ n.kind = 7 ∧ n.other = e)) : v = -1 ∨ (0 ≤ v ∧ ∃ n, (M ++ [m])[v.toNat]? = some n ∧ n.kind = 7 ∧ n.other = e) := by
  rcases h with h | ⟨h, n, h1, h2⟩
  · exact .inl h
  · exact .inr ⟨h, n, app_old h1, h2⟩
theorem CI.mark (hC : CI p c) {k : Nat} {t : TK} {m : MK} (ht : c.T[k]? = some t) (hs : t.state = 2) (hm : m.task = k + 1) (hk : m.kind = 3 ∨ m.kind = 6 ∨ m.kind = 7) (hjoin : m.kind = 6 → 1 ≤ m.other ∧ ∃ u, c.T[(m.other - 1).toNat]? = some u ∧ u.kind = 5 ∧ u.state = 3) (hen : m.kind = 7 → 0 ≤ m.other) :
    CI p { c with M := c.M ++ [m] } := by
  have hk3 : 3 ≤ m.kind ∧ m.kind ≤ 7 := by clear hjoin hen; omega
  have hk1 : ¬ (m.kind = 4 ∨ m.kind = 5) := by clear hjoin hen; omega
  have hk2 : m.kind ≠ 1 := by clear hjoin hen; omega
  have hst : t.state ≠ 1 := by clear hjoin hen; omega
  have h := Tr.stay (c := c) ht hs hm hk3
  refine ⟨hC.now, fun i u hu => h.tk hC (fun h' => absurd h' hst) (list_lt hu) hu rfl rfl rfl, fun i n hn => h.mks hC (fun h' => absurd h' hk1) hjoin hen hn, hC.ql, hC.rl, hC.ol, hC.qs, hC.rs, hC.run1, fun e v hv => on_app (hC.on e v hv), hC.due, ?_⟩
  exact h.alone hC (fun h' => absurd h' hk2)
theorem CI.onset (hC : CI p c) {e : Nat} {v : Int} (hv : 0 ≤ v ∧ ∃ n, c.M[v.toNat]? = some n ∧ n.kind = 7 ∧ n.other = e) : CI p { c with on := c.on.set e v } := by
  refine ⟨hC.now, fun i u hu => ?_, hC.mks, hC.ql, hC.rl, by simpa using hC.ol, hC.qs, hC.rs, hC.run1, fun e' v' hv' => ?_, hC.due, hC.alone⟩
  · have h := hC.tk i u hu
    exact ⟨h.kind, h.lo, h.state, h.canc, h.fresh, h.begun, h.open_, h.over, h.mark0, h.markP, h.markE, h.later, h.foll, h.prev⟩
  · simp only at hv'
    rw [List.getElem?_set] at hv'
    split at hv'
    · split at hv'
      · cases hv'
        subst_vars
        exact .inr hv
      · cases hv'
    · exact hC.on e' v' hv'
theorem CI.cancel (hC : CI p c) {k : Nat} {t : TK} {Q' : List (List QI)} (ht : c.T[k]? = some t) (hs : t.state = 1) (hk : t.kind = 4) (hq : CancelQ c.Q Q' t (k + 1)) : CI p { c with T := c.T.set k { t with state := 4 }, Q := Q' } := by
  have hkt := hC.tk k t ht
  have hlo : 0 ≤ t.looper := by have := hkt.lo; omega
  have hlike : ∀ (i : Nat) u, c.T[i]? = some u → ∃ u', (c.T.set k { t with state := 4 })[i]? = some u' ∧ u'.kind = u.kind ∧ u'.of_ = u.of_ ∧ u'.looper = u.looper ∧ u'.by_ = u.by_ ∧ u'.mark = u.mark ∧ u'.due = u.due := fun i u hu => by
    by_cases hi : i = k
    · subst hi; rw [ht] at hu; cases hu; exact ⟨_, set_self ht, rfl, rfl, rfl, rfl, rfl, rfl⟩
    · exact ⟨u, get_set hi hu, rfl, rfl, rfl, rfl, rfl, rfl⟩
  have hback : ∀ (i : Nat) u, (c.T.set k { t with state := 4 })[i]? = some u → ∃ u', c.T[i]? = some u' ∧ u.kind = u'.kind ∧ u.looper = u'.looper ∧ u.due = u'.due ∧ (u.state = u'.state ∨ (u'.state = 1 ∧ u.state = 4)) := fun i u hu => by
    rcases set_get ht hu with ⟨rfl, rfl⟩ | ⟨_, h1⟩
    · exact ⟨t, ht, rfl, rfl, rfl, .inr ⟨hs, rfl⟩⟩
    · exact ⟨u, h1, rfl, rfl, rfl, .inl rfl⟩
  obtain ⟨l, l', hl, hd, rfl⟩ := hq
  refine ⟨hC.now, fun i u hu => ?_, fun i n hn => ?_, by simpa using hC.ql, hC.rl, hC.ol, fun lo l1 hl1 => ?_, fun lo r hr => ?_, fun i u hu h2 h0 => ?_, hC.on, fun i j u v hij hu hv h1 h2 => ?_, fun a b m n u v hab ha hb h1 h2 hu hv h3 h4 => ?_⟩
  · simp only at hu
    have hprev : ∀ (u : TK), TaskOK p c i u → u.prev = 0 ∨ ∃ (k' : Nat) (o : TK), u.prev = k' + 1 ∧ k' < i ∧ (c.T.set k { t with state := 4 })[k']? = some o ∧ (u.kind = 2 ∨ u.kind = 3) ∧ o.kind = u.kind ∧ o.of_ = u.of_ ∧ o.looper = u.looper ∧
        ∀ (j : Nat) (n : MK), c.M[j]? = some n → n.task = i + 1 → ∃ (j' : Nat) (n' : MK), j' < j ∧ c.M[j']? = some n' ∧ n'.task = k' + 1 ∧ n'.kind = 2 := by
      intro u h
      rcases h.prev with h1 | ⟨q, o, h1, h2, h3, h4, h5, h6, h7, h8⟩
      · exact .inl h1
      · obtain ⟨o', h9, e1, e2, e3, _⟩ := hlike q o h3
        exact .inr ⟨q, o', h1, h2, h9, h4, e1.trans h5, e2.trans h6, e3.trans h7, h8⟩
    rcases set_get ht hu with ⟨rfl, rfl⟩ | ⟨_, h1⟩
    · refine ⟨hkt.kind, hkt.lo, ⟨(by decide : (1 : Int) ≤ 4), (by decide : (4 : Int) ≤ 4)⟩, fun _ => hk, fun _ => hkt.fresh (.inl hs), fun h => ?_, fun h => ?_, fun h => ?_, hkt.mark0, hkt.markP, hkt.markE, hkt.later, hkt.foll, hprev t hkt⟩
      · simp only at h; omega
      · simp only at h; omega
      · simp only at h; omega
    · have h := hC.tk i u h1
      exact ⟨h.kind, h.lo, h.state, h.canc, h.fresh, h.begun, h.open_, h.over, h.mark0, h.markP, h.markE, h.later, h.foll, hprev u h⟩
  · refine (hC.mks i n hn).mono (by simp) (fun j u hu => ?_) (fun _ _ _ => Iff.rfl)
    obtain ⟨u', h1, h2, _, _, h3, h4, _⟩ := hlike j u hu
    exact ⟨u', h1, h2, h3, h4⟩
  · simp only at hl1
    rw [List.getElem?_set] at hl1
    split at hl1
    · split at hl1
      · cases hl1
        subst_vars
        exact (hC.qs _ l hl).drop ht (by simp) hd
      · cases hl1
    · exact (hC.qs _ l1 hl1).other ht (by omega) rfl
  · rcases hC.rs lo r hr with h1 | ⟨h1, u, h2, h3, h4⟩
    · exact .inl h1
    · refine .inr ⟨h1, u, get_set (fun he => ?_) h2, h3, h4⟩
      rw [he, ht] at h2; cases h2
      omega
  · obtain ⟨u', h1, _, h3, _, h5⟩ := hback i u hu
    rw [h3]
    exact hC.run1 i u' h1 (by omega) (by omega)
  · obtain ⟨u', a1, a2, _, a3, _⟩ := hback i u hu
    obtain ⟨v', b1, b2, _, b3, _⟩ := hback j v hv
    rw [a3, b3]
    exact hC.due i j u' v' hij a1 b1 (by rw [← a2]; exact h1) (by rw [← b2]; exact h2)
  · obtain ⟨u', a1, a2, a4, a3, _⟩ := hback _ u hu
    obtain ⟨v', b1, b2, b4, b3, _⟩ := hback _ v hv
    exact hC.alone a b m n u' v' hab ha hb h1 h2 a1 b1 (by omega) (by omega)
theorem CI.noMark (hC : CI p c) (j : Nat) (n : MK) (h : c.M[j]? = some n) : n.task ≠ c.T.length + 1 := by
  have := (hC.mks j n h).task
  omega
theorem QueueOK.add {T : List TK} {t : TK} {lo : Nat} {l : List QI} (h : QueueOK T lo l) (hs : t.state = 1) (hl : t.looper = lo) : QueueOK (T ++ [t]) lo (l ++ [⟨T.length + 1, t.front, t.due⟩]) := by
  refine ⟨fun j x hx => ?_, fun i u hu hul hus => ?_, fun j k x y hjk hx hy => ?_⟩
  · rcases app_get.1 hx with h1 | ⟨_, rfl⟩
    · obtain ⟨a, u, b, d⟩ := h.it j x h1
      exact ⟨a, u, app_old b, d⟩
    · refine ⟨by simp only; omega, t, app_get.2 (.inr ⟨by simp only; omega, rfl⟩), hl, hs, rfl, rfl⟩
  · rcases app_get.1 hu with h1 | ⟨rfl, rfl⟩
    · obtain ⟨j, x, h2, h3⟩ := h.all i u h1 hul hus
      exact ⟨j, x, app_old h2, h3⟩
    · exact ⟨l.length, _, app_get.2 (.inr ⟨rfl, rfl⟩), rfl⟩
  · rcases app_get.1 hx with h1 | ⟨rfl, rfl⟩
    · rcases app_get.1 hy with h2 | ⟨_, rfl⟩
      · exact h.ord j k x y hjk h1 h2
      · obtain ⟨a, u, b, d⟩ := h.it j x h1
        have := list_lt b
        simp only; omega
    · have := list_lt hy
      simp at this; omega
theorem QueueOK.past {T : List TK} {t : TK} {lo : Nat} {l : List QI} (h : QueueOK T lo l) (hl : t.looper ≠ lo) : QueueOK (T ++ [t]) lo l :=
  h.same (fun i u hu h1 h2 => ⟨u, app_old hu, h1, h2, rfl, rfl⟩) fun i u hu h1 h2 => by
    rcases app_get.1 hu with h3 | ⟨rfl, rfl⟩
    · exact ⟨u, h3, h1, h2⟩
    · exact absurd h1 hl
theorem addQ_ok {T : List TK} {Q : List (List QI)} {t : TK} (h : ∀ (lo : Nat) l, Q[lo]? = some l → QueueOK T lo l) (hs : t.state = 1) {lo : Nat} {l : List QI} (hl : (if 0 ≤ t.looper then Q.modify t.looper.toNat (· ++ [⟨T.length + 1, t.front, t.due⟩]) else Q)[lo]? = some l) : QueueOK (T ++ [t]) lo l := by
  by_cases h0 : 0 ≤ t.looper
  · rw [if_pos h0, List.getElem?_modify] at hl
    rcases hq : Q[lo]? with _ | l0
    · rw [hq] at hl; cases hl
    · rw [hq] at hl
      have hl' : (if t.looper.toNat = lo then l0 ++ [⟨T.length + 1, t.front, t.due⟩] else l0) = l := Option.some.inj hl
      by_cases he : t.looper.toNat = lo
      · rw [if_pos he] at hl'
        rw [← hl']
        exact (h lo l0 hq).add hs (by omega)
      · rw [if_neg he] at hl'
        rw [← hl']
        exact (h lo l0 hq).past (by omega)
  · rw [if_neg h0] at hl
    exact (h lo l hl).past (by omega)
theorem CI.tick (hC : CI p c) {n : Int} (h1 : c.now ≤ n) (h2 : n ≤ 1000000000000) : CI p { c with now := n } := by
  refine ⟨⟨by have := hC.now; simp only; omega, h2⟩, fun i u hu => ?_, hC.mks, hC.ql, hC.rl, hC.ol, hC.qs, hC.rs, hC.run1, hC.on, hC.due, hC.alone⟩
  have h := hC.tk i u hu
  refine ⟨h.kind, h.lo, h.state, h.canc, h.fresh, h.begun, h.open_, h.over, h.mark0, h.markP, h.markE, h.later, fun hk => ?_, h.prev⟩
  obtain ⟨a, b, d⟩ := h.foll hk
  exact ⟨a, by simp only; omega, d⟩
theorem rs_app (hC : CI p c) {t : TK} (lo : Nat) (r : Int) (h : c.runs[lo]? = some r) : r = 0 ∨ (1 ≤ r ∧ ∃ u, (c.T ++ [t])[(r - 1).toNat]? = some u ∧ u.looper = lo ∧ u.state = 2) := by
  rcases hC.rs lo r h with h1 | ⟨h1, u, h2, h3⟩
  · exact .inl h1
  · exact .inr ⟨h1, u, app_old h2, h3⟩
/-- a task that a running one made -/
theorem CI.made (hC : CI p c) {k : Nat} {t t1 : TK} {m : MK} (ht : c.T[k]? = some t) (hs : t.state = 2) (hm : m.task = k + 1) (hk : m.kind = 4 ∨ m.kind = 5) (ho : m.other = c.T.length + 1) (e1 : t1.kind = m.kind) (e2 : t1.by_ = m.task) (e3 : t1.mark = c.M.length) (e4 : t1.state = 1) (e5 : t1.prev = 0)
    (e6 : t1.looper < p.nl ∧ (t1.kind = 5 ↔ t1.looper < 0)) : CI p { c with T := c.T ++ [t1], M := c.M ++ [m], Q := if 0 ≤ t1.looper then c.Q.modify t1.looper.toNat (· ++ [⟨c.T.length + 1, t1.front, t1.due⟩]) else c.Q } := by
  have hkl := list_lt ht
  have h : Tr c (c.T ++ [t1]) k t 2 t.trap m := by
    refine ⟨ht, ?_, fun i u _ h => app_old h, by simp, hm, .inr (.inl ⟨hs, rfl, by omega⟩)⟩
    rw [app_old ht, ← hs]
  have hfr : ∀ (j : Nat) n, (c.M ++ [m])[j]? = some n → n.task ≠ c.T.length + 1 := fun j n hj => by
    rcases app_get.1 hj with h1 | ⟨_, rfl⟩
    · exact hC.noMark j n h1
    · omega
  refine ⟨hC.now, fun i u hu => ?_, fun i n hn => h.mks hC (fun _ => ⟨by omega, t1, app_get.2 (.inr ⟨by omega, rfl⟩), e1, e2, e3, fun j n hj => ?_⟩) (by omega) (by omega) hn, ?_, hC.rl, hC.ol, fun lo l hl => addQ_ok hC.qs e4 hl, rs_app hC, fun i u hu h1 h2 => ?_, fun e v hv => on_app (hC.on e v hv), fun i j u v hij hu hv h1 h2 => ?_, h.alone hC (by omega)⟩
  · rcases app_get.1 hu with h1 | ⟨rfl, rfl⟩
    · exact h.tk hC (by omega) (list_lt h1) hu rfl rfl rfl
    · refine ⟨by omega, e6, by omega, by omega, fun _ => hfr, by omega, by omega, by omega, by omega, fun _ => ⟨by omega, m, app_get.2 (.inr ⟨by omega, rfl⟩), e1.symm, ho⟩, by omega, fun j n hj hn => absurd hn (hfr j n hj), by omega, .inl e5⟩
  · rw [ho]; exact hC.noMark j n hj
  · simp only
    split
    · rw [List.length_modify]; exact hC.ql
    · exact hC.ql
  · rcases app_get.1 hu with h3 | ⟨rfl, rfl⟩
    · exact hC.run1 i u h3 h1 h2
    · omega
  · rcases app_get.1 hu with h3 | ⟨rfl, rfl⟩
    · rcases app_get.1 hv with h4 | ⟨rfl, rfl⟩
      · exact hC.due i j u v hij h3 h4 h1 h2
      · omega
    · omega
/-- a life's, an event's task -/
theorem CI.follow (hC : CI p c) {t1 : TK} {pr : Int} (hk : t1.kind = 2 ∨ t1.kind = 3) (hlo : 0 ≤ t1.looper ∧ t1.looper < p.nl) (e1 : t1.state = 1) (e2 : t1.kind = 2 → t1.mark < 0) (e3 : t1.kind = 3 → t1.mark < 0 ∨ (0 ≤ t1.mark ∧ ∃ n, c.M[t1.mark.toNat]? = some n ∧ n.kind = 7 ∧ n.other = t1.of_))
    (e4 : t1.front = false) (e5 : t1.due = c.now) (e6 : 0 ≤ t1.of_ ∧ (t1.kind = 2 → ∃ k, p.comps[t1.of_.toNat]? = some k ∧ t1.looper = k.looper) ∧ (t1.kind = 3 → ∃ k, p.events[t1.of_.toNat]? = some k ∧ t1.looper = k.looper)) (e7 : t1.prev = pr) {t0 : TK} (h0 : t0.kind = t1.kind ∧ t0.of_ = t1.of_) (hp : PrevTo c.T t0 c.T.length pr) :
    CI p { c with T := c.T ++ [t1], Q := if 0 ≤ t1.looper then c.Q.modify t1.looper.toNat (· ++ [⟨c.T.length + 1, t1.front, t1.due⟩]) else c.Q } := by
  have hlt : ∀ (j : Nat) n, c.M[j]? = some n → 1 ≤ n.task ∧ (n.task - 1).toNat < c.T.length := fun j n hj => by
    have := (hC.mks j n hj).task
    clear e2 e3 e6
    omega
  have f1 : 1 ≤ t1.kind ∧ t1.kind ≤ 5 := by clear e2 e3 e6; omega
  have f2 : t1.kind = 5 ↔ t1.looper < 0 := by clear e2 e3 e6; omega
  have f3 : 1 ≤ t1.state ∧ t1.state ≤ 4 := by clear e2 e3 e6; omega
  have f4 : ¬ (t1.state = 2 ∨ t1.state = 3) := by clear e2 e3 e6; omega
  have f5 : t1.kind = 1 ∨ t1.kind = 2 → t1.mark < 0 := by intro h; apply e2; clear e2 e3 e6; omega
  have f6 : ¬ (t1.kind = 4 ∨ t1.kind = 5) := by clear e2 e3 e6; omega
  have f7 : t1.due ≤ c.now := by clear e2 e3 e6; omega
  have f8 : t1.state ≠ 4 := by clear e2 e3 e6; omega
  refine ⟨hC.now, fun i u hu => ?_, fun i n hn => ?_, ?_, hC.rl, hC.ol, fun lo l hl => addQ_ok hC.qs e1 hl, rs_app hC, fun i u hu h1 h2 => ?_, hC.on, fun i j u v hij hu hv h1 h2 => ?_, fun a b m n u v hab ha hb h1 h2 hu hv h3 h4 => ?_⟩
  · rcases app_get.1 hu with h1 | ⟨rfl, rfl⟩
    · have h := hC.tk i u h1
      refine ⟨h.kind, h.lo, h.state, h.canc, h.fresh, h.begun, h.open_, h.over, h.mark0, h.markP, h.markE, h.later, h.foll, ?_⟩
      rcases h.prev with h2 | ⟨q, o, h2, h3, h4, h5⟩
      · exact .inl h2
      · exact .inr ⟨q, o, h2, h3, app_old h4, h5⟩
    · refine ⟨f1, ⟨hlo.2, f2⟩, f3, fun h => absurd h f8, fun _ => hC.noMark, fun h => absurd h f4, fun h => absurd (.inl h) f4, fun h => absurd (.inr h) f4, f5, fun h => absurd h f6, e3, fun j n hj hn => absurd hn (hC.noMark j n hj), fun _ => ⟨e4, f7, e6⟩, ?_⟩
      rcases hp with ⟨h1, _⟩ | ⟨q, h1, h2, ⟨o, h3, h4, h5⟩, _⟩
      · exact .inl (e7.trans h1)
      · refine .inr ⟨q, o, e7.trans h1, h2, app_old h3, hk, h4.trans h0.1, h5.trans h0.2, ?_, fun j n hj hn => absurd hn (hC.noMark j n hj)⟩
        have ho := (hC.tk q o h3).foll (by rw [h4, h0.1]; exact hk)
        have hof : o.of_ = u.of_ := h5.trans h0.2
        rcases hk with hk | hk
        · obtain ⟨kk, h6, h7⟩ := ho.2.2.2.1 (by rw [h4, h0.1]; exact hk)
          obtain ⟨k2, h8, h9⟩ := e6.2.1 hk
          rw [hof, h8] at h6; cases h6
          rw [h7, h9]
        · obtain ⟨kk, h6, h7⟩ := ho.2.2.2.2 (by rw [h4, h0.1]; exact hk)
          obtain ⟨k2, h8, h9⟩ := e6.2.2 hk
          rw [hof, h8] at h6; cases h6
          rw [h7, h9]
  · exact (hC.mks i n hn).mono (by simp) (fun j u hu => ⟨u, app_old hu, rfl, rfl, rfl⟩) (fun _ _ _ => Iff.rfl)
  · simp only
    split
    · rw [List.length_modify]; exact hC.ql
    · exact hC.ql
  · rcases app_get.1 hu with h3 | ⟨rfl, rfl⟩
    · exact hC.run1 i u h3 h1 h2
    · exact absurd (.inl h1) f4
  · rcases app_get.1 hu with h3 | ⟨rfl, rfl⟩
    · rcases app_get.1 hv with h4 | ⟨rfl, rfl⟩
      · exact hC.due i j u v hij h3 h4 h1 h2
      · rw [e5]; exact ((hC.tk i u h3).foll h1).2.1
    · have := list_lt hv
      clear e2 e3 e6
      simp at this; omega
  · clear e2 e3 e6
    have hu' : c.T[(m.task - 1).toNat]? = some u := by
      rcases app_get.1 hu with h5 | ⟨h5, _⟩
      · exact h5
      · have := hlt a m ha; omega
    have hv' : c.T[(n.task - 1).toNat]? = some v := by
      rcases app_get.1 hv with h5 | ⟨h5, _⟩
      · exact h5
      · have := hlt b n hb; omega
    exact hC.alone a b m n u v hab ha hb h1 h2 hu' hv' h3 h4
end
end Go.Proofs.Ytedcfkigfcobaaa
end
