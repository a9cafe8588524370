/-
  A part of the proof that the statement on the tasks of a machine returns true for every input: no condition is asked beyond those of the theorems below.
-/
import Derived.Test.YtedcfkigfcobaaaB8
import Derived.MapKept
set_option linter.unusedVariables false
set_option linter.unusedSimpArgs false
set_option linter.unusedSectionVars false
/- What holds of a run goes on to hold: a task begins, a task ends, every entry. -/
section
namespace Go.Proofs.Ytedcfkigfcobaaa
open Go Go.Proofs
attribute [local irreducible] Bc O AL BS MS MM ST AP CV Cl
section
variable {p : PP} {c : CS}
theorem Tr.beg {k : Nat} {t : TK} {m : MK} (ht : c.T[k]? = some t) (hs : t.state = 1) (hm : m.task = k + 1) (hk : m.kind = 1) : Tr c (c.T.set k { t with state := 2 }) k t 2 t.trap m :=
  ⟨ht, set_self ht, fun _ _ hi h => get_set hi h, by simp, hm, .inl ⟨hs, rfl, hk⟩⟩
theorem Tr.fin {k : Nat} {t : TK} {m : MK} (ht : c.T[k]? = some t) (hs : t.state = 2) (tr : Int) (hm : m.task = k + 1) (hk : m.kind = 2) : Tr c (c.T.set k { t with state := 3, trap := tr }) k t 3 tr m :=
  ⟨ht, set_self ht, fun _ _ hi h => get_set hi h, by simp, hm, .inr (.inr ⟨hs, rfl, hk⟩)⟩
theorem CI.due_set (hC : CI p c) {k : Nat} {t t' : TK} (ht : c.T[k]? = some t) (e1 : t'.kind = t.kind) (e2 : t'.due = t.due) : ∀ (i j : Nat) (u v : TK), i < j → (c.T.set k t')[i]? = some u → (c.T.set k t')[j]? = some v → (u.kind = 2 ∨ u.kind = 3) → (v.kind = 2 ∨ v.kind = 3) → u.due ≤ v.due := by
  intro i j u v hij hu hv h1 h2
  have hb : ∀ (i : Nat) u, (c.T.set k t')[i]? = some u → ∃ u', c.T[i]? = some u' ∧ u'.kind = u.kind ∧ u'.due = u.due := fun i u hu => by
    rcases set_get ht hu with ⟨rfl, rfl⟩ | ⟨_, h⟩
    · exact ⟨t, ht, e1.symm, e2.symm⟩
    · exact ⟨u, h, rfl, rfl⟩
  obtain ⟨u', a, b, d⟩ := hb i u hu
  obtain ⟨v', a', b', d'⟩ := hb j v hv
  rw [← d, ← d']
  exact hC.due i j u' v' hij a a' (by rw [b]; exact h1) (by rw [b']; exact h2)
theorem CI.begin (hC : CI p c) {k : Nat} {t : TK} {m : MK} {Q' : List (List QI)} {runs' : List Int} (ht : c.T[k]? = some t) (hs : t.state = 1) (hm : m.task = k + 1) (hk : m.kind = 1)
    (hone : ∀ (i : Nat) (u : TK), c.T[i]? = some u → i ≠ k → u.looper = t.looper → 0 ≤ t.looper → u.state ≠ 2) (hpr : t.prev = 0 ∨ ∃ o, c.T[(t.prev - 1).toNat]? = some o ∧ o.state = 3) (hql : Q'.length = p.nl) (hrl : runs'.length = p.nl)
    (hqs : ∀ (lo : Nat) l, Q'[lo]? = some l → QueueOK (c.T.set k { t with state := 2 }) lo l)
    (hru : (t.looper < 0 ∧ runs' = c.runs) ∨ (0 ≤ t.looper ∧ c.runs[t.looper.toNat]? = some 0 ∧ runs' = c.runs.set t.looper.toNat (k + 1))) :
    CI p { c with T := c.T.set k { t with state := 2 }, M := c.M ++ [m], Q := Q', runs := runs' } := by
  have h := Tr.beg (c := c) ht hs hm hk
  have hk1 : ¬ (m.kind = 4 ∨ m.kind = 5) := by omega
  have hk2 : m.kind ≠ 6 := by omega
  have hk3 : m.kind ≠ 7 := by omega
  have hlt := list_lt ht
  refine ⟨hC.now, fun i u hu => h.tk hC (fun _ => hpr) (by have := list_lt hu; simpa using this) hu rfl rfl rfl, fun i n hn => h.mks hC (fun h' => absurd h' hk1) (fun h' => absurd h' hk2) (fun h' => absurd h' hk3) hn, hql, hrl, hC.ol, hqs, ?_, ?_, fun e v hv => on_app (hC.on e v hv), hC.due_set ht rfl rfl, h.alone hC (fun _ => hone)⟩
  · intro lo r hr
    simp only at hr ⊢
    have hold : c.runs[lo]? = some r → r = 0 ∨ (1 ≤ r ∧ ∃ u, (c.T.set k { t with state := 2 })[(r - 1).toNat]? = some u ∧ u.looper = lo ∧ u.state = 2) := fun hr => by
      rcases hC.rs lo r hr with h1 | ⟨h1, u, h2, h3, h4⟩
      · exact .inl h1
      · refine .inr ⟨h1, u, get_set (fun he => ?_) h2, h3, h4⟩
        rw [he, ht] at h2; cases h2
        omega
    rcases hru with ⟨_, rfl⟩ | ⟨h0, _, rfl⟩
    · exact hold hr
    · rw [List.getElem?_set] at hr
      split at hr
      · split at hr
        · cases hr
          refine .inr ⟨by omega, { t with state := 2 }, ?_, by simp only; omega, rfl⟩
          rw [show ((k : Int) + 1 - 1).toNat = k by omega]
          exact set_self ht
        · cases hr
      · exact hold hr
  · intro i u hu h2 h0
    simp only at hu ⊢
    rcases set_get ht hu with ⟨rfl, rfl⟩ | ⟨hne, hu'⟩
    · simp only at h0 ⊢
      rcases hru with ⟨h1, _⟩ | ⟨_, h1, rfl⟩
      · omega
      · rw [List.getElem?_set_self (list_lt h1)]
    · have h3 := hC.run1 i u hu' h2 h0
      rcases hru with ⟨_, rfl⟩ | ⟨h1, h4, rfl⟩
      · exact h3
      · rw [List.getElem?_set]
        split
        · rename_i he
          rw [← he, h4] at h3
          have := Option.some.inj h3
          omega
        · exact h3
theorem CI.over (hC : CI p c) {k : Nat} {t : TK} {m : MK} {runs' : List Int} (ht : c.T[k]? = some t) (hs : t.state = 2) (hm : m.task = k + 1) (hk : m.kind = 2) (tr : Int)
    (hru : (t.looper < 0 ∧ runs' = c.runs) ∨ (0 ≤ t.looper ∧ runs' = c.runs.set t.looper.toNat 0)) :
    CI p { c with T := c.T.set k { t with state := 3, trap := tr }, M := c.M ++ [m], runs := runs' } := by
  have h := Tr.fin (c := c) ht hs tr hm hk
  have hk1 : ¬ (m.kind = 4 ∨ m.kind = 5) := by omega
  have hk2 : m.kind ≠ 6 := by omega
  have hk3 : m.kind ≠ 7 := by omega
  have hk4 : m.kind ≠ 1 := by omega
  have hs1 : t.state ≠ 1 := by omega
  have hlt := list_lt ht
  refine ⟨hC.now, fun i u hu => h.tk hC (fun h' => absurd h' hs1) (by have := list_lt hu; simpa using this) hu rfl rfl rfl, fun i n hn => h.mks hC (fun h' => absurd h' hk1) (fun h' => absurd h' hk2) (fun h' => absurd h' hk3) hn, hC.ql, ?_, hC.ol, fun lo l hl => ?_, ?_, ?_, fun e v hv => on_app (hC.on e v hv), hC.due_set ht rfl rfl, h.alone hC (fun h' => absurd h' hk4)⟩
  · rcases hru with ⟨_, rfl⟩ | ⟨_, rfl⟩
    · exact hC.rl
    · simpa using hC.rl
  · refine (hC.qs lo l hl).same (fun i u hu h1 h2 => ⟨u, get_set (fun he => ?_) hu, h1, h2, rfl, rfl⟩) fun i u hu h1 h2 => ?_
    · subst he; rw [ht] at hu; cases hu; exact hs1 h2
    · rcases set_get ht hu with ⟨_, rfl⟩ | ⟨_, h3⟩
      · simp only at h2; omega
      · exact ⟨u, h3, h1, h2⟩
  · intro lo r hr
    simp only at hr ⊢
    have hold : c.runs[lo]? = some r → (lo : Int) ≠ t.looper → r = 0 ∨ (1 ≤ r ∧ ∃ u, (c.T.set k { t with state := 3, trap := tr })[(r - 1).toNat]? = some u ∧ u.looper = lo ∧ u.state = 2) := fun hr hne => by
      rcases hC.rs lo r hr with h1 | ⟨h1, u, h2, h3, h4⟩
      · exact .inl h1
      · refine .inr ⟨h1, u, get_set (fun he => ?_) h2, h3, h4⟩
        rw [he, ht] at h2; cases h2
        omega
    rcases hru with ⟨h0, rfl⟩ | ⟨h0, rfl⟩
    · exact hold hr (by omega)
    · rw [List.getElem?_set] at hr
      split at hr
      · split at hr
        · cases hr; exact .inl rfl
        · cases hr
      · exact hold hr (by omega)
  · intro i u hu h2 h0
    simp only at hu ⊢
    rcases set_get ht hu with ⟨rfl, rfl⟩ | ⟨hne, hu'⟩
    · simp only at h2; omega
    · have h3 := hC.run1 i u hu' h2 h0
      rcases hru with ⟨_, rfl⟩ | ⟨h1, rfl⟩
      · exact h3
      · rw [List.getElem?_set]
        split
        · rename_i he
          have h4 := hC.run1 k t ht hs h1
          rw [he, h3] at h4
          have := Option.some.inj h4
          omega
        · exact h3
/-- a deed lets its task run on -/
theorem DeedC.self {c' : CS} {k : Nat} (h : DeedC p c (k + 1) c') {t : TK} (ht : c.T[k]? = some t) (hs : t.state = 2) : c'.T[k]? = some t := by
  rcases h with rfl | ⟨m, _, _, rfl⟩ | ⟨m, of_, t1, Q', _, _, h1, h2, _, h4, _, rfl⟩ | ⟨m, e, _, _, _, _, rfl⟩ | ⟨of_, t1, _, _, _, _, rfl⟩ | ⟨a, of_, nth, Q', _, _, _, rfl⟩
  · exact ht
  · exact ht
  · refine get_set (fun he => ?_) ht
    rw [← he, ht] at h2; cases h2; omega
  · exact ht
  · exact ht
  · exact app_old ht
theorem CI.deed (hC : CI p c) {c' : CS} {k : Nat} (h : DeedC p c (k + 1) c') {t : TK} (ht : c.T[k]? = some t) (hs : t.state = 2) : CI p c' := by
  rcases h with rfl | ⟨m, h1, h2, rfl⟩ | ⟨m, of_, t1, Q', h1, h2, h3, h4, h5, h6, h7, rfl⟩ | ⟨m, e, h1, h2, h3, h4, rfl⟩ | ⟨of_, t1, h1, h2, h3, h4, rfl⟩ | ⟨a, of_, nth, Q', h1, h2, rfl, rfl⟩
  · exact hC
  · exact hC.mark ht hs h2 (.inl h1) (fun h => by omega) (fun h => by omega)
  · have hC1 := hC.mark ht hs h2 (.inl h1) (fun h => by omega) (fun h => by omega)
    have e1 : of_ = ((of_ - 1).toNat : Int) + 1 := by omega
    refine hC1.cancel h4 h6 h5 ?_
    rw [← e1]
    exact h7
  · have hC1 := hC.mark ht hs h2 (.inl h1) (fun h => by omega) (fun h => by omega)
    have hC2 := hC1.mark (m := ⟨7, k + 1, e, 0, 0, 0, 0, false⟩) ht hs rfl (.inr (.inr rfl)) (fun h => by cases h) (fun _ => h3)
    refine hC2.onset (e := e.toNat) ⟨by omega, ⟨7, k + 1, e, 0, 0, 0, 0, false⟩, app_get.2 (.inr ⟨?_, rfl⟩), rfl, by simp only; omega⟩
    simp
  · exact hC.mark ht hs rfl (.inr (.inl rfl)) (fun _ => ⟨h1, t1, h2, h3, h4⟩) (fun h => by cases h)
  · have hl : (madeT a of_ (k + 1) c.M.length nth).looper = if a.op = 28 then -1 else a.looper := rfl
    have hkd : (madeT a of_ (k + 1) c.M.length nth).kind = if a.op = 28 then 5 else 4 := rfl
    refine hC.made (t1 := { madeT a of_ (k + 1) c.M.length nth with state := 1, due := c.now + (madeT a of_ (k + 1) c.M.length nth).delay }) (m := ⟨if a.op = 28 then 5 else 4, k + 1, c.T.length + 1, 0, 0, 0, 0, false⟩) ht hs rfl ?_ rfl rfl rfl rfl rfl rfl ?_
    · by_cases h : a.op = 28
      · exact .inr (if_pos h)
      · exact .inl (if_neg h)
    · simp only
      rw [hl, hkd]
      by_cases h : a.op = 28
      · rw [if_pos h, if_pos h]; exact ⟨by omega, by omega⟩
      · rw [if_neg h, if_neg h]
        have := h1 h
        exact ⟨by omega, by omega⟩
theorem CI.step (hC : CI p c) {c1 : CS} {k : Nat} {over : Bool} (h : StepC p c (k + 1) over c1) {t : TK} (ht : c.T[k]? = some t) (hs : t.state = 2) {runs' : List Int}
    (hru : (over = false ∧ runs' = c.runs) ∨ (over = true ∧ ((t.looper < 0 ∧ runs' = c.runs) ∨ (0 ≤ t.looper ∧ runs' = c.runs.set t.looper.toNat 0)))) : CI p { c1 with runs := runs' } := by
  obtain ⟨acc, ha1, ha2, c2, hd, hc⟩ := h
  have hC0 : CI p { c with M := c.M ++ acc } := by
    rcases acc with _ | ⟨m, _ | ⟨m', acc⟩⟩
    · rw [List.append_nil]; exact hC
    · obtain ⟨h1, h2⟩ := ha2 m (by simp)
      exact hC.mark ht hs h2 (.inl h1) (fun h => by omega) (fun h => by omega)
    · simp at ha1
  have hC2 := hC0.deed hd (t := t) ht hs
  have ht2 := hd.self (t := t) ht hs
  have hr2 : c2.runs = c.runs := hd.grow.2.2
  rcases hc with ⟨rfl, rfl⟩ | ⟨rfl, t', tr, h1, rfl⟩
  · rcases hru with ⟨_, rfl⟩ | ⟨h, _⟩
    · rw [← hr2]; exact hC2
    · cases h
  · rw [show ((k : Int) + 1 - 1).toNat = k by omega] at h1 ⊢
    rw [ht2] at h1; cases h1
    rcases hru with ⟨h, _⟩ | ⟨_, h⟩
    · cases h
    · rw [← hr2] at h
      exact hC2.over (m := ⟨2, k + 1, 0, 0, 0, 0, 0, false⟩) ht2 hs rfl rfl tr h
theorem CI.marks (hC : CI p c) {k : Nat} {t : TK} (ht : c.T[k]? = some t) (h : CI p { c with T := c.T.set k { t with state := 2 }, M := c.M ++ [⟨1, k + 1, 0, 0, 0, 0, 0, false⟩] }) : CI p (beginC c (k + 1) t) := by
  unfold beginC beginMarks
  rw [show ((k : Int) + 1 - 1).toNat = k by omega]
  by_cases h4 : t.kind = 4
  · rw [if_pos h4]
    have := h.mark (k := k) (t := { t with state := 2 }) (m := ⟨3, k + 1, 0, t.of_, 5, k + 1, 0, true⟩) (set_self ht) rfl rfl (.inl rfl) (fun h => by cases h) (fun h => by cases h)
    rw [List.append_assoc] at this
    exact this
  · rw [if_neg h4]; exact h
theorem prev5 (hC : CI p c) {k : Nat} {t : TK} (ht : c.T[k]? = some t) (h5 : t.kind = 5) : t.prev = 0 := by
  rcases (hC.tk k t ht).prev with h | ⟨q, o, _, _, _, h, _⟩
  · exact h
  · omega
theorem CI.op (hMy : MayP p) (hC : CI p c) {c' : CS} (h : OpC p c c') : CI p c' := by
  cases h with
  | same => exact hC
  | tick n h1 h2 => exact hC.tick h1 h2
  | start id t h1 h2 h3 h4 =>
    obtain ⟨k, rfl⟩ : ∃ k : Nat, id = k + 1 := ⟨(id - 1).toNat, by omega⟩
    rw [show ((k : Int) + 1 - 1).toNat = k by omega] at h2
    refine hC.marks h2 ?_
    refine hC.begin h2 h4 rfl rfl (fun i u _ _ _ h => by omega) (.inl (prev5 hC h2 ((hC.tk k t h2).lo.2.2 h3))) hC.ql hC.rl (fun lo l hl => ?_) (.inl ⟨h3, rfl⟩)
    exact (hC.qs lo l hl).other h2 (by omega) rfl
  | work id t over c1 h1 h2 h3 h4 h5 =>
    obtain ⟨k, rfl⟩ : ∃ k : Nat, id = k + 1 := ⟨(id - 1).toNat, by omega⟩
    rw [show ((k : Int) + 1 - 1).toNat = k by omega] at h2
    have hr : c'.runs = c.runs := by
      obtain ⟨acc, _, _, c2, hd, hc⟩ := h5
      have := hd.grow.2.2
      rcases hc with ⟨_, rfl⟩ | ⟨_, _, _, _, rfl⟩ <;> exact this
    have := hC.step h5 h2 h4 (runs' := c'.runs) (by cases over <;> simp [hr, h3])
    exact this
  | step lo r over c1 h1 h2 h3 =>
    rcases hC.rs lo r h1 with h4 | ⟨h4, t, h5, h6, h7⟩
    · exact absurd h4 h2
    obtain ⟨k, rfl⟩ : ∃ k : Nat, r = k + 1 := ⟨(r - 1).toNat, by omega⟩
    rw [show ((k : Int) + 1 - 1).toNat = k by omega] at h5
    have hr : c1.runs = c.runs := by
      obtain ⟨acc, _, _, c2, hd, hc⟩ := h3
      have := hd.grow.2.2
      rcases hc with ⟨_, rfl⟩ | ⟨_, _, _, _, rfl⟩ <;> exact this
    rcases over with _ | _
    · exact hC.step h3 h5 h7 (runs' := c1.runs) (.inl ⟨rfl, hr⟩)
    · refine hC.step h3 h5 h7 (runs' := c1.runs.set lo 0) (.inr ⟨rfl, .inr ⟨by omega, ?_⟩⟩)
      rw [hr, show t.looper.toNat = lo by omega]
  | take lo l l' i x t h1 h2 h3 h4 h5 h6 =>
    obtain ⟨hf, hx, hdue⟩ := h3
    have hq := hC.qs lo l h1
    obtain ⟨_, t', ht', hl', hs', hfr, hdu⟩ := hq.it i x hx
    rw [h6] at ht'; cases ht'
    obtain ⟨k, hk⟩ : ∃ k : Nat, x.task = k + 1 := ⟨(x.task - 1).toNat, by omega⟩
    rw [hk] at h4
    have hk' : (x.task - 1).toNat = k := by omega
    rw [hk'] at h6
    have hno : ∀ (i : Nat) (u : TK), c.T[i]? = some u → u.looper = lo → u.state ≠ 2 := fun i u hu hul h => by
      have h7 := hC.runs2 hu h hul
      rw [h2] at h7
      have := Option.some.inj h7
      omega
    have hpr : t.prev = 0 ∨ ∃ o, c.T[(t.prev - 1).toNat]? = some o ∧ o.state = 3 := by
      rcases (hC.tk k t h6).prev with h7 | ⟨q, o, h7, h8, h9, h10, h11, h12, h13, _⟩
      · exact .inl h7
      · refine .inr ⟨o, by rw [h7, show ((q : Int) + 1 - 1).toNat = q by omega]; exact h9, ?_⟩
        have ho := hC.tk q o h9
        have hst := ho.state
        have hn2 := hno q o h9 (by omega)
        have hn4 : o.state ≠ 4 := fun h => by have := ho.canc h; omega
        have hn1 : o.state ≠ 1 := by
          intro h1'
          obtain ⟨j, y, h14, h15⟩ := hq.all q o h9 (by omega) h1'
          have hji : j < i := by
            rcases Nat.lt_trichotomy j i with h | h | h
            · exact h
            · subst h; rw [hx] at h14; cases h14; omega
            · have := hq.ord i j x y h hx h14; omega
          obtain ⟨_, u, h16, _, _, h17, h18⟩ := hq.it j y h14
          rw [show (y.task - 1).toNat = q by omega, h9] at h16; cases h16
          obtain ⟨x', hx', hb, _⟩ := hf
          rw [hx] at hx'; cases hx'
          have htf := ((hC.tk k t h6).foll h10).1
          have hd := hC.due q k o t h8 h9 h6 (by omega) h10
          rcases hb j y h14 hji with h19 | ⟨_, h19⟩
          · rw [hfr, htf] at h19; cases h19
          · omega
        omega
    rw [hk]
    have hlo : t.looper.toNat = lo := by omega
    have hCb : CI p { c with T := c.T.set k { t with state := 2 }, M := c.M ++ [⟨1, k + 1, 0, 0, 0, 0, 0, false⟩], Q := c.Q.set lo l', runs := c.runs.set lo (k + 1) } := by
      refine hC.begin h6 hs' rfl rfl (fun i u hu _ hul _ => hno i u hu (by omega)) hpr (by simpa using hC.ql) (by simpa using hC.rl) (fun lo' l1 hl1 => ?_) (.inr ⟨by omega, by rw [hlo]; exact h2, by rw [hlo]⟩)
      rw [List.getElem?_set] at hl1
      split at hl1
      · split at hl1
        · cases hl1
          subst_vars
          exact hq.drop h6 (by simp) h4
        · cases hl1
      · exact (hC.qs lo' l1 hl1).other h6 (by omega) rfl
    have := CI.marks (c := { c with Q := c.Q.set lo l', runs := c.runs.set lo (k + 1) }) (p := p) (k := k) (t := t)
    unfold beginC beginMarks
    rw [show ((k : Int) + 1 - 1).toNat = k by omega]
    by_cases h4' : t.kind = 4
    · rw [if_pos h4']
      have := hCb.mark (k := k) (t := { t with state := 2 }) (m := ⟨3, k + 1, 0, t.of_, 5, k + 1, 0, true⟩) (set_self h6) rfl rfl (.inl rfl) (fun h => by cases h) (fun h => by cases h)
      simp only [List.append_assoc] at this
      exact this
    · rw [if_neg h4']; exact hCb
  | event e k v pr nth pay h1 h2 h3 =>
    have hk := (hMy.parts.events e k h1).1
    refine hC.follow (t1 := newTC c ⟨3, e, 0, k.func, k.looper, 0, nth, false, 0, 0, pay, 0, 0, v, pr⟩) (.inr rfl) hk rfl (fun h => by cases h) (fun _ => ?_) rfl (by show c.now + 0 = c.now; omega) ⟨by show (0 : Int) ≤ e; omega, (fun h => by cases h), fun _ => ⟨k, h1, rfl⟩⟩ rfl ⟨rfl, rfl⟩ h3
    rcases hC.on e v h2 with h | ⟨h, n, h4, h5⟩
    · refine .inl ?_
      show v < 0
      omega
    · exact .inr ⟨h, n, h4, h5⟩
  | life e k wh f pr nth h1 h2 =>
    have hk := (hMy.parts.comps e k h1).1
    exact hC.follow (t1 := newTC c ⟨2, e, wh, f, k.looper, 0, nth, false, 0, 0, 0, 0, 0, -1, pr⟩) (.inl rfl) hk rfl (fun _ => by show (-1 : Int) < 0; decide) (fun h => by cases h) rfl (by show c.now + 0 = c.now; omega) ⟨by show (0 : Int) ≤ e; omega, fun _ => ⟨k, h1, rfl⟩, fun h => by cases h⟩ rfl ⟨rfl, rfl⟩ h2

/-- a run that may be, as the laws of the model need it -/
structure TaskR (T : List TK) (M : List MK) (i : Nat) (t : TK) : Prop where
  kind : 1 ≤ t.kind ∧ t.kind ≤ 5
  lo : t.kind = 5 ↔ t.looper < 0
  mark0 : t.kind = 1 ∨ t.kind = 2 → t.mark < 0
  markP : t.kind = 4 ∨ t.kind = 5 → 0 ≤ t.mark ∧ ∃ n, M[t.mark.toNat]? = some n ∧ n.kind = t.kind ∧ n.other = i + 1
  markE : t.kind = 3 → t.mark < 0 ∨ (0 ≤ t.mark ∧ ∃ n, M[t.mark.toNat]? = some n ∧ n.kind = 7 ∧ n.other = t.of_)
  later : ∀ (j : Nat) (n : MK), M[j]? = some n → n.task = i + 1 → t.mark < j
  prev : t.prev = 0 ∨ ∃ (k : Nat) (o : TK), t.prev = k + 1 ∧ k < i ∧ T[k]? = some o ∧ (t.kind = 2 ∨ t.kind = 3) ∧ o.kind = t.kind ∧ o.of_ = t.of_ ∧ o.looper = t.looper ∧
    ∀ (j : Nat) (n : MK), M[j]? = some n → n.task = i + 1 → ∃ (j' : Nat) (n' : MK), j' < j ∧ M[j']? = some n' ∧ n'.task = k + 1 ∧ n'.kind = 2
structure RunOK (T : List TK) (M : List MK) : Prop where
  tk : ∀ (i : Nat) (t : TK), T[i]? = some t → TaskR T M i t
  mks : ∀ (i : Nat) (m : MK), M[i]? = some m → MarkOK T M i m
  alone : ∀ (a b : Nat) (m n : MK) (t u : TK), a < b → M[a]? = some m → M[b]? = some n → m.kind = 1 → n.kind = 1 → T[(m.task - 1).toNat]? = some t → T[(n.task - 1).toNat]? = some u → 0 ≤ t.looper → t.looper = u.looper →
    ∃ (e : Nat) (n' : MK), e < b ∧ M[e]? = some n' ∧ n'.task = m.task ∧ n'.kind = 2
theorem CI.run (hC : CI p c) : RunOK c.T c.M :=
  ⟨fun i t ht => let h := hC.tk i t ht; ⟨h.kind, h.lo.2, h.mark0, h.markP, h.markE, h.later, h.prev⟩, hC.mks, hC.alone⟩
theorem rep_get {α : Type} {n i : Nat} {x y : α} (h : (List.replicate n x)[i]? = some y) : y = x := by
  rw [List.getElem?_replicate] at h
  split at h
  · exact (Option.some.inj h).symm
  · cases h
theorem Fresh.ci (hMy : MayP p) {s : Mc} (h : Fresh p s) : CI p s.core := by
  have hT : s.core.T = [{ mainT p with state := 1 }] := h.T
  have hM : s.core.M = [] := h.M
  have hQ : s.core.Q = (List.replicate p.nl ([] : List QI)).modify 0 (· ++ [⟨1, false, 0⟩]) := h.Q
  have hr : s.core.runs = List.replicate p.nl 0 := h.runs
  have ho : s.core.on = List.replicate p.events.length (-1) := h.on
  have hn : s.core.now = 0 := h.now
  have hnl := hMy.parts.nl
  have noM : ∀ (j : Nat) (n : MK), s.core.M[j]? = some n → False := fun j n hj => by rw [hM] at hj; cases hj
  have one : ∀ (i : Nat) (t : TK), s.core.T[i]? = some t → i = 0 ∧ t = { mainT p with state := 1 } := fun i t ht => by
    rw [hT] at ht
    rcases i with _ | i
    · cases ht; exact ⟨rfl, rfl⟩
    · cases ht
  refine ⟨by rw [hn]; decide, fun i t ht => ?_, fun i m hm => (noM i m hm).elim, by rw [hQ]; simp, by rw [hr]; simp, by rw [ho]; simp, fun lo l hl => ?_, fun lo r hr' => ?_, fun i t ht hs => ?_, fun e v hv => ?_, fun i k t u hik ht hu => ?_, fun a b m n t u _ ha => (noM a m ha).elim⟩
  · obtain ⟨rfl, rfl⟩ := one i t ht
    refine ⟨⟨(by decide : (1 : Int) ≤ 1), (by decide : (1 : Int) ≤ 5)⟩, ⟨by show (0 : Int) < p.nl; omega, ?_⟩, ⟨(by decide : (1 : Int) ≤ 1), (by decide : (1 : Int) ≤ 4)⟩, fun h => ?_, fun _ j n hj => (noM j n hj).elim, fun h => ?_, fun h => ?_, fun h => ?_, fun _ => (by decide : (-1 : Int) < 0), fun h => ?_, fun h => ?_, fun j n hj => (noM j n hj).elim, fun h => ?_, .inl rfl⟩
    · show (1 : Int) = 5 ↔ (0 : Int) < 0
      decide
    · have h : (1 : Int) = 4 := h
      omega
    · have h : (1 : Int) = 2 ∨ (1 : Int) = 3 := h
      omega
    · have h : (1 : Int) = 2 := h
      omega
    · have h : (1 : Int) = 3 := h
      omega
    · have h : (1 : Int) = 4 ∨ (1 : Int) = 5 := h
      omega
    · have h : (1 : Int) = 3 := h
      omega
    · have h : (1 : Int) = 2 ∨ (1 : Int) = 3 := h
      omega
  · rw [hQ, List.getElem?_modify] at hl
    rcases hq : (List.replicate p.nl ([] : List QI))[lo]? with _ | l0
    · rw [hq] at hl; cases hl
    · rw [hq] at hl
      have e0 := rep_get hq
      subst e0
      have hl' : (if 0 = lo then ([] : List QI) ++ [⟨1, false, 0⟩] else []) = l := Option.some.inj hl
      by_cases he : 0 = lo
      · rw [if_pos he] at hl'
        subst hl'
        refine ⟨fun j x hx => ?_, fun i t ht _ _ => ?_, fun j k x y hjk hx hy => ?_⟩
        · rcases j with _ | j
          · cases hx
            refine ⟨by decide, { mainT p with state := 1 }, by rw [hT]; rfl, by show (0 : Int) = lo; omega, rfl, rfl, rfl⟩
          · cases hx
        · obtain ⟨rfl, rfl⟩ := one i t ht
          exact ⟨0, _, rfl, rfl⟩
        · rcases k with _ | k
          · omega
          · cases hy
      · rw [if_neg he] at hl'
        subst hl'
        refine ⟨(fun j x hx => by cases hx), fun i t ht hl _ => ?_, (fun j k x y _ hx => by cases hx)⟩
        obtain ⟨rfl, rfl⟩ := one i t ht
        have hl : (0 : Int) = lo := hl
        omega
  · rw [hr] at hr'
    exact .inl (rep_get hr')
  · obtain ⟨rfl, rfl⟩ := one i t ht
    have hs : (1 : Int) = 2 := hs
    omega
  · rw [ho] at hv
    exact .inl (rep_get hv)
  · have := (one i t ht).1
    have := (one k u hu).1
    omega
end
end Go.Proofs.Ytedcfkigfcobaaa
end
/- Maps, as pieces of memory. -/
section
namespace Go.Proofs.Ytedcfkigfcobaaa
open Go Go.Proofs
attribute [local irreducible] Bc O AL BS MS MM ST AP CV Cl
theorem eqT_spec {P : Program} {t n : Nat} (ht : eqT P t = some n) : ∃ fs, P.underlying t = some (.struct fs) ∧ P.stoodInHeld t = false ∧ P.eqGuardType P.depth t = false ∧ fs.toList.all (intField P) = true ∧ fs.toList.map (·.offset) = List.range' 0 fs.toList.length ∧ fs.toList.length = n := by
  unfold eqT at ht
  split at ht
  case h_2 => cases ht
  rename_i fs hu
  split at ht
  case isFalse => cases ht
  rename_i hc
  simp only [Option.some.injEq] at ht
  simp only [Bool.and_eq_true, Bool.not_eq_true', beq_iff_eq] at hc
  obtain ⟨⟨⟨h1, h2⟩, h3⟩, h4⟩ := hc
  exact ⟨fs, hu, h1, h2, h3, h4, ht⟩
theorem equal_agg {P : Program} {t n : Nat} (ht : eqT P t = some n) {xs ys : Array Value} (hl : xs.toList.length = n) {r : Bool} (hr : eqCells xs.toList ys.toList = some r) (w : World) : (Op.equal t (.agg xs) (.agg ys)).run P w = .ok r w := by
  obtain ⟨fs, hu, h1, h2, h3, h4, h5⟩ := eqT_spec ht
  have hfo : P.fieldsOf t = fs := by simp [Program.fieldsOf, hu]
  have hu' : P.underlying t = some (.struct (P.fieldsOf t)) := by rw [hfo]; exact hu
  show (Op.equalIn 10000 t (.agg xs) (.agg ys)).run P w = .ok r w
  rw [run_equalIn_agg w 9999 t xs ys hu' h1, hfo]
  exact eqFields_run 9998 xs ys fs.toList 0 xs.toList ys.toList r h3 h4 (by simp) (by simp) (by omega) hr
theorem forIn_ok {P : Program} {w : World} {α : Type} (f : α → PUnit → Sem (ForInStep PUnit)) : ∀ (l : List α), (∀ x ∈ l, (f x PUnit.unit).run P w = .ok (.yield PUnit.unit) w) → (forIn l PUnit.unit f).run P w = .ok PUnit.unit w
  | [], _ => rfl
  | x :: l, h => by
    rw [List.forIn_cons, run_bind_ok (h x (by simp))]
    exact forIn_ok f l fun y hy => h y (by simp [hy])
theorem check_agg {P : Program} {t n : Nat} (ht : eqT P t = some n) {xs : Array Value} (hl : xs.toList.length = n) (hi : ∀ (i : Nat) v, xs[i]? = some v → ∃ k a, v = .int k a) (em : Bool) (w : World) : (Instr.checkKey em 10000 t (.agg xs)).run P w = .ok () w := by
  obtain ⟨fs, hu, h1, h2, h3, h4, h5⟩ := eqT_spec ht
  unfold Instr.checkKey
  rw [run_bind_ok (run_underlying' hu)]
  simp only
  rw [← Array.forIn_toList]
  refine run_ok_bind (u := PUnit.unit) (forIn_ok _ _ fun f hf => ?_) rfl
  obtain ⟨hn, k, hk⟩ := intField_spec (List.all_eq_true.1 h3 f hf)
  rw [if_pos hn]
  have ho : f.offset < xs.size := by
    have : f.offset ∈ fs.toList.map (·.offset) := List.mem_map.2 ⟨f, hf, rfl⟩
    rw [h4, List.mem_range'_1] at this
    have := this.2
    rw [h5, ← hl] at this
    simpa using this
  have hv : xs[f.offset]? = some xs[f.offset] := Array.getElem?_eq_getElem ho
  rw [run_bind_ok (part_int hk hv)]
  obtain ⟨k', a, he⟩ := hi _ _ hv
  rw [he]
  refine run_ok_bind (u := ()) ?_ rfl
  unfold Instr.checkKey
  rw [run_bind_ok (run_underlying' hk)]
  rfl
/-- what the laws on a map's block need of its keys -/
structure MKey (P : Program) (kt : TypeId) {κ : Type} (enc : κ → Value) : Prop where
  check : ∀ w em a, (Instr.checkKey em 10000 kt (enc a)).run P w = .ok () w
  find : ∀ w a (es : List MapEntry), (∀ (i : Nat) e, es[i]? = some e → ∃ b, e.key = enc b) → ((Instr.findKey kt (enc a) es).run P w = .ok none w ∧ ∀ (i : Nat) e, es[i]? = some e → e.key ≠ enc a) ∨ ∃ (j : Nat) (e : MapEntry), (Instr.findKey kt (enc a) es).run P w = .ok (some (j, e.val)) w ∧ es[j]? = some e ∧ e.key = enc a
  stays : ∀ w a, (Instr.keyThatStays (enc a) (enc a)).run P w = .ok (enc a) w
  inj : ∀ a b, enc a = enc b → a = b
def encI (a : Int) : Value := .int .i64 a
theorem intKey {P : Program} {kt : TypeId} (h : P.underlying kt = some (.int .i64)) : MKey P kt encI where
  check w em a := MapKept.run_checkKey h (k := encI a) rfl em 9999
  find w a es hes := by
    have hk : ∀ x ∈ es, MapKept.IsKey (.int .i64) x.key := fun x hx => by
      obtain ⟨i, hi⟩ := List.getElem?_of_mem hx
      obtain ⟨b, hb⟩ := hes i x hi
      rw [hb]; rfl
    rcases MapKept.findNow_spec (k := encI a) (d := .int .i64) rfl es 0 hk with ⟨h1, h2⟩ | ⟨j, e, h1, h2, h3⟩
    · exact .inl ⟨MapKept.run_findKey h h1, fun i e he => h2 e (List.mem_of_getElem? he)⟩
    · exact .inr ⟨j, e, by simpa using MapKept.run_findKey (w := w) h h1, h2, h3⟩
  stays w a := MapKept.run_keyThatStays (d := .int .i64) (k := encI a) rfl
  inj a b h := by unfold encI at h; cases h; rfl
structure Loc where
  kind : Int
  a : Int
  b : Int
deriving DecidableEq
def encL (x : Loc) : Value := .agg #[.int .i64 x.kind, .int .i64 x.a, .int .i64 x.b]
theorem encL_eq (x y : Loc) : eqCells [.int .i64 x.kind, .int .i64 x.a, .int .i64 x.b] [.int .i64 y.kind, .int .i64 y.a, .int .i64 y.b] = some (decide (x = y)) := by
  simp only [eqCells, if_true, Option.map_some]
  congr 1
  cases x; cases y
  rw [Bool.eq_iff_iff]
  simp
theorem locKey {P : Program} {kt : TypeId} (h : eqT P kt = some 3) : MKey P kt encL where
  check w em a := check_agg h rfl (fun i v hv => by
    rcases i with _ | _ | _ | i
    · cases hv; exact ⟨_, _, rfl⟩
    · cases hv; exact ⟨_, _, rfl⟩
    · cases hv; exact ⟨_, _, rfl⟩
    · simp at hv) em w
  find w a es hes := by
    obtain ⟨fs, hu, _⟩ := eqT_spec h
    have hfn : ∀ (es : List MapEntry) (i : Nat), (∀ (i : Nat) e, es[i]? = some e → ∃ b, e.key = encL b) → Instr.findNow (.struct fs) (encL a) es i = (match es with | [] => some none | _ => none) := fun es i _ => by
      cases es with
      | nil => rfl
      | cons e es => rfl
    have hask : ∀ (es : List MapEntry) (i : Nat), (∀ (i : Nat) e, es[i]? = some e → ∃ b, e.key = encL b) →
        ((Instr.findAsking kt (encL a) es i).run P w = .ok none w ∧ ∀ (i : Nat) e, es[i]? = some e → e.key ≠ encL a) ∨ ∃ (j : Nat) (e : MapEntry), (Instr.findAsking kt (encL a) es i).run P w = .ok (some (i + j, e.val)) w ∧ es[j]? = some e ∧ e.key = encL a := by
      intro es
      induction es with
      | nil => exact fun i _ => .inl ⟨rfl, fun i e he => by cases he⟩
      | cons e es ih =>
        intro i hes
        obtain ⟨b, hb⟩ := hes 0 e rfl
        have he : (Op.equal kt (encL a) e.key).run P w = .ok (decide (a = b)) w := by rw [hb]; exact equal_agg h rfl (encL_eq a b) w
        unfold Instr.findAsking
        rw [run_bind_ok he]
        by_cases hab : a = b
        · subst hab
          refine .inr ⟨0, e, ?_, rfl, hb⟩
          simp
        · rw [decide_eq_false hab]
          simp only [Bool.false_eq_true, if_false]
          have hne : e.key ≠ encL a := by rw [hb]; intro h'; apply hab; unfold encL at h'; cases a; cases b; cases h'; rfl
          rcases ih (i + 1) (fun j e' h' => hes (j + 1) e' h') with ⟨h1, h2⟩ | ⟨j, e', h1, h2, h3⟩
          · refine .inl ⟨h1, fun j e' h' => ?_⟩
            rcases j with _ | j
            · cases h'; exact hne
            · exact h2 j e' h'
          · exact .inr ⟨j + 1, e', by rw [h1]; congr 3; omega, h2, h3⟩
    unfold Instr.findKey
    rw [run_bind_ok (run_underlying' hu)]
    rw [hfn es 0 hes]
    cases es with
    | nil => exact .inl ⟨rfl, fun i e he => by cases he⟩
    | cons e es =>
      have := hask (e :: es) 0 hes
      simpa using this
  stays w a := by
    unfold Instr.keyThatStays
    have : Instr.sameBits 10000 (encL a) (encL a) = true := by
      simp [encL, Instr.sameBits]
    rw [if_pos this]; rfl
  inj a b h := by unfold encL at h; cases a; cases b; cases h; rfl
section
variable {κ ν : Type} [DecidableEq κ] {eK : κ → Value} {eV : ν → Value}
/-- a map's entries, as a function -/
structure MR (eK : κ → Value) (eV : ν → Value) (es : List MapEntry) (clock : Nat) (g : κ → Option ν) : Prop where
  good : ∀ (i : Nat) e, es[i]? = some e → (∃ a, e.key = eK a) ∧ e.born < clock
  uniq : ∀ (i j : Nat) e e', es[i]? = some e → es[j]? = some e' → e.key = e'.key → i = j
  born : ∀ (i j : Nat) e e', es[i]? = some e → es[j]? = some e' → e.born = e'.born → i = j
  some_ : ∀ a v, g a = some v → ∃ (i : Nat) (e : MapEntry), es[i]? = some e ∧ e.key = eK a ∧ e.val = eV v
  none_ : ∀ a, g a = none → ∀ (i : Nat) e, es[i]? = some e → e.key ≠ eK a
def upd (g : κ → Option ν) (a : κ) (v : ν) : κ → Option ν := fun x => if x = a then some v else g x
theorem MR.empty : MR eK eV [] 0 (fun _ : κ => (none : Option ν)) := ⟨(fun i e h => by cases h), (fun i j e e' h => by cases h), (fun i j e e' h => by cases h), (fun a v h => by cases h), (fun a _ i e h => by cases h)⟩
theorem MR.push {es : List MapEntry} {clock : Nat} {g : κ → Option ν} (h : MR eK eV es clock g) (hinj : ∀ a b, eK a = eK b → a = b) {a : κ} (hno : ∀ (i : Nat) e, es[i]? = some e → e.key ≠ eK a) (v : ν) : MR eK eV (es ++ [⟨eK a, eV v, clock⟩]) (clock + 1) (upd g a v) := by
  refine ⟨fun i e he => ?_, fun i j e e' he he' hk => ?_, fun i j e e' he he' hk => ?_, fun b v' hv => ?_, fun b hv i e he => ?_⟩
  · rcases app_get.1 he with h1 | ⟨_, rfl⟩
    · have := h.good i e h1; exact ⟨this.1, by omega⟩
    · exact ⟨⟨a, rfl⟩, by simp⟩
  · rcases app_get.1 he with h1 | ⟨h1, rfl⟩ <;> rcases app_get.1 he' with h2 | ⟨h2, rfl⟩
    · exact h.uniq i j e e' h1 h2 hk
    · exact absurd hk (hno i e h1)
    · exact absurd hk.symm (hno j e' h2)
    · omega
  · rcases app_get.1 he with h1 | ⟨h1, rfl⟩ <;> rcases app_get.1 he' with h2 | ⟨h2, rfl⟩
    · exact h.born i j e e' h1 h2 hk
    · have := (h.good i e h1).2; simp only at hk; omega
    · have := (h.good j e' h2).2; simp only at hk; omega
    · omega
  · unfold upd at hv
    by_cases hb : b = a
    · rw [if_pos hb] at hv; cases hv
      exact ⟨es.length, _, app_get.2 (.inr ⟨rfl, rfl⟩), by rw [hb], rfl⟩
    · rw [if_neg hb] at hv
      obtain ⟨i, e, h1, h2⟩ := h.some_ b v' hv
      exact ⟨i, e, app_old h1, h2⟩
  · unfold upd at hv
    by_cases hb : b = a
    · rw [if_pos hb] at hv; cases hv
    · rw [if_neg hb] at hv
      rcases app_get.1 he with h1 | ⟨_, rfl⟩
      · exact h.none_ b hv i e h1
      · exact fun h' => hb (hinj _ _ h').symm
theorem MR.put {es : List MapEntry} {clock : Nat} {g : κ → Option ν} (h : MR eK eV es clock g) (hinj : ∀ a b, eK a = eK b → a = b) {a : κ} {j : Nat} {e0 : MapEntry} (hj : es[j]? = some e0) (hk : e0.key = eK a) (v : ν) : MR eK eV (es.modify j fun e => { e with key := eK a, val := eV v }) clock (upd g a v) := by
  have get : ∀ (i : Nat) e, (es.modify j fun e => { e with key := eK a, val := eV v })[i]? = some e → ∃ e1, es[i]? = some e1 ∧ e1.key = e.key ∧ e1.born = e.born ∧ (i = j → e.val = eV v) ∧ (i ≠ j → e = e1) := fun i e he => by
    rw [List.getElem?_modify] at he
    rcases hi : es[i]? with _ | e1
    · rw [hi] at he; cases he
    · rw [hi] at he
      have he := Option.some.inj he
      refine ⟨e1, rfl, ?_⟩
      by_cases hij : j = i
      · subst hij
        rw [hi] at hj; cases hj
        simp only [if_true] at he
        rw [← he]
        exact ⟨hk, rfl, fun _ => rfl, fun h => absurd rfl h⟩
      · simp only [if_neg hij] at he
        have he : e1 = e := he
        rw [← he]
        exact ⟨rfl, rfl, fun h => absurd h.symm hij, fun _ => rfl⟩
  have put : ∀ (i : Nat) e1, es[i]? = some e1 → ∃ e, (es.modify j fun e => { e with key := eK a, val := eV v })[i]? = some e ∧ e1.key = e.key ∧ (i = j → e.val = eV v) ∧ (i ≠ j → e = e1) := fun i e1 he => by
    have : i < (es.modify j fun e => { e with key := eK a, val := eV v }).length := by rw [List.length_modify]; exact list_lt he
    obtain ⟨e, h1⟩ := list_get this
    obtain ⟨e2, h2, h3, _, h4, h5⟩ := get i e h1
    rw [he] at h2; cases h2
    exact ⟨e, h1, h3, h4, h5⟩
  refine ⟨fun i e he => ?_, fun i j' e e' he he' hk => ?_, fun i j' e e' he he' hk => ?_, fun b v' hv => ?_, fun b hv i e he => ?_⟩
  · obtain ⟨e1, h1, h2, h3, _⟩ := get i e he
    rw [← h2, ← h3]; exact h.good i e1 h1
  · obtain ⟨e1, h1, h2, _⟩ := get i e he
    obtain ⟨e2, h3, h4, _⟩ := get j' e' he'
    exact h.uniq i j' e1 e2 h1 h3 (by rw [h2, h4, hk])
  · obtain ⟨e1, h1, _, h2, _⟩ := get i e he
    obtain ⟨e2, h3, _, h4, _⟩ := get j' e' he'
    exact h.born i j' e1 e2 h1 h3 (by rw [h2, h4, hk])
  · unfold upd at hv
    by_cases hb : b = a
    · rw [if_pos hb] at hv; cases hv
      obtain ⟨e, h1, h2, h3, _⟩ := put j e0 hj
      exact ⟨j, e, h1, by rw [← h2, hk, hb], h3 rfl⟩
    · rw [if_neg hb] at hv
      obtain ⟨i, e, h1, h2, h3⟩ := h.some_ b v' hv
      have hij : i ≠ j := fun h' => by
        subst h'; rw [hj] at h1; cases h1
        exact hb (hinj _ _ (h2.symm.trans hk))
      obtain ⟨e', h4, _, _, h5⟩ := put i e h1
      have := h5 hij
      subst this
      exact ⟨i, e', h4, h2, h3⟩
  · unfold upd at hv
    by_cases hb : b = a
    · rw [if_pos hb] at hv; cases hv
    · rw [if_neg hb] at hv
      obtain ⟨e1, h1, h2, _⟩ := get i e he
      rw [← h2]; exact h.none_ b hv i e1 h1
/-- one block that is a map -/
def mpA (eK : κ → Value) (eV : ν → Value) (b : Nat) (g : κ → Option ν) : Atom := fun h => ∃ es clock, h b = some (.map es clock) ∧ MR eK eV es.toList clock g
/-- .. of which one entry is known by its stamp -/
def mpE (eK : κ → Value) (eV : ν → Value) (b : Nat) (g : κ → Option ν) (a : κ) (st : Nat) : Atom := fun h => ∃ es clock, h b = some (.map es clock) ∧ MR eK eV es.toList clock g ∧ ∃ (i : Nat) (e : MapEntry), es.toList[i]? = some e ∧ e.key = eK a ∧ e.born = st
variable {P : Program} {B : Base} {w : World} {L : List Atom}
theorem Own.mm (h : Own B w L) (eK : κ → Value) (eV : ν → Value) {k : Value → World → Prop} (hk : ∀ b w', Own B w' (mpA eK eV b (fun _ => none) :: L) → k (.map (some b)) w') : MM w k := by
  unfold MM
  rintro v w' rfl rfl
  exact hk w.heap.size _ (h.new _ fun g hg => ⟨_, _, hg, MR.empty⟩)
theorem Own.mlook (h : Own B w L) {b : Nat} {g : κ → Option ν} (i : Nat) (hi : L[i]? = some (mpA eK eV b g)) {t kt et : TypeId} (K : MKey P kt eK) (ht : P.underlying t = some (.map kt et)) {z : Value} (hz : zer P et = some z) (a : κ) (ok : Bool) {k : Value → World → Prop}
    (hk : k (if ok then .tuple #[((g a).map eV).getD z, .bool (g a).isSome] else ((g a).map eV).getD z) w) : Rn P (Instr.lookup t (.map (some b)) (eK a) ok) w k := by
  obtain ⟨D, es, clock, hA, hm⟩ := h.get hi
  have hb := (hp_some hA).1
  refine Rn.mk (v := if ok then .tuple #[((g a).map eV).getD z, .bool (g a).isSome] else ((g a).map eV).getD z) ?_ hk
  rcases K.find w a es.toList (fun i e he => (hm.good i e he).1) with ⟨h1, h2⟩ | ⟨j, e, h1, h2, h3⟩
  · have hg : g a = none := by
      rcases hg : g a with _ | v
      · rfl
      · obtain ⟨i, e, h4, h5, _⟩ := hm.some_ a v hg
        exact absurd h5 (h2 i e h4)
    rw [hg]
    simp [Instr.lookup, run_underlying ht, MapKept.run_getObj_map hb, K.check w _ a, h1, run_zeroValue' hz, Result.andThen]
  · have hg : ∃ v, g a = some v ∧ e.val = eV v := by
      rcases hg : g a with _ | v
      · exact absurd h3 (hm.none_ a hg j e h2)
      · obtain ⟨i, e', h4, h5, h6⟩ := hm.some_ a v hg
        have := hm.uniq i j e' e h4 h2 (h5.trans h3.symm)
        subst this
        rw [h4] at h2; cases h2
        exact ⟨v, rfl, h6⟩
    obtain ⟨v, hg, hv⟩ := hg
    rw [hg]
    simp [Instr.lookup, run_underlying ht, MapKept.run_getObj_map hb, K.check w _ a, h1, Result.andThen, hv]
theorem Own.mopen (h : Own B w L) {b : Nat} (i : Nat) {Φ : Array MapEntry → Nat → Prop} {A : Atom} (hi : L[i]? = some A) (hA : A = fun h => ∃ es clock, h b = some (.map es clock) ∧ Φ es clock) :
    ∃ es clock, Φ es clock ∧ w.heap[b]? = some (.map es clock) ∧ ∀ es' clock' (A' : Atom), (∀ g' : Hp, g' b = some (.map es' clock') → A' g') → Own B (World.setBlk w b (.map es' clock')) (L.set i A') := by
  subst hA
  obtain ⟨D, es, clock, h1, h2⟩ := h.get hi
  have hb := (hp_some h1).1
  refine ⟨es, clock, h2, hb, fun es' clock' A' hA' => ?_⟩
  refine h.modify hi fun g hg => ?_
  obtain ⟨es1, c1, h3, _⟩ := hg
  exact ⟨⟨_, h3⟩, hA' _ (by simp)⟩
theorem Own.mset (h : Own B w L) {b : Nat} {g : κ → Option ν} (i : Nat) (hi : L[i]? = some (mpA eK eV b g)) {t kt et : TypeId} (K : MKey P kt eK) (ht : P.underlying t = some (.map kt et)) (a : κ) (v : ν) {k : Unit → World → Prop}
    (hk : ∀ w', Own B w' (L.set i (mpA eK eV b (upd g a v))) → k () w') : Rn P (Instr.mapUpdate t (.map (some b)) (eK a) (eV v)) w k := by
  obtain ⟨es, clock, hm, hb, hset⟩ := h.mopen i hi rfl
  rcases K.find w a es.toList (fun i e he => (hm.good i e he).1) with ⟨h1, h2⟩ | ⟨j, e, h1, h2, h3⟩
  · refine Rn.mk (v := ()) (w' := World.setBlk w b (.map (es.push ⟨eK a, eV v, clock⟩) (clock + 1))) ?_ (hk _ (hset _ _ _ fun g' hg' => ⟨_, _, hg', ?_⟩))
    · simp [Instr.mapUpdate, run_underlying ht, MapKept.run_getObj_map hb, K.check w _ a, h1, MapKept.run_setObj_map _ hb, Result.andThen, World.setBlk]
    · rw [Array.toList_push]
      exact hm.push K.inj h2 v
  · have hj : es[j]? = some e := by simpa using h2
    refine Rn.mk (v := ()) (w' := World.setBlk w b (.map (es.modify j fun e => { e with key := eK a, val := eV v }) clock)) ?_ (hk _ (hset _ _ _ fun g' hg' => ⟨_, _, hg', ?_⟩))
    · simp [Instr.mapUpdate, run_underlying ht, MapKept.run_getObj_map hb, K.check w _ a, h1, hj, h3, K.stays w a, MapKept.run_setObj_map _ hb, Result.andThen, World.setBlk]
    · rw [Array.toList_modify]
      exact hm.put K.inj h2 h3 v
theorem MR.stamp {es : List MapEntry} {clock : Nat} {g : κ → Option ν} (h : MR eK eV es clock g) (hinj : ∀ a b, eK a = eK b → a = b) {a : κ} {v : ν} (hg : g a = some v) : upd g a v = g := by
  funext x
  unfold upd
  by_cases hx : x = a
  · rw [if_pos hx, hx, hg]
  · rw [if_neg hx]
theorem Own.mentry (h : Own B w L) {b : Nat} {g : κ → Option ν} (i : Nat) (hi : L[i]? = some (mpA eK eV b g)) {t kt et : TypeId} (K : MKey P kt eK) (ht : P.underlying t = some (.map kt et)) {z : ν} (hz : zer P et = some (eV z)) (a : κ) {k : Value → World → Prop}
    (hk : ∀ w' st, Own B w' (L.set i (mpE eK eV b (upd g a ((g a).getD z)) a st)) → k (.tuple #[eV ((g a).getD z), .int .i64 st]) w') : Rn P (Instr.mapEntry t (.map (some b)) (eK a)) w k := by
  obtain ⟨es, clock, hm, hb, hset⟩ := h.mopen i hi rfl
  rcases K.find w a es.toList (fun i e he => (hm.good i e he).1) with ⟨h1, h2⟩ | ⟨j, e, h1, h2, h3⟩
  · have hg : g a = none := by
      rcases hg : g a with _ | v
      · rfl
      · obtain ⟨i, e, h4, h5, _⟩ := hm.some_ a v hg
        exact absurd h5 (h2 i e h4)
    refine Rn.mk (v := .tuple #[eV ((g a).getD z), .int .i64 clock]) (w' := World.setBlk w b (.map (es.push ⟨eK a, eV z, clock⟩) (clock + 1))) ?_ (hk _ clock (hset _ _ _ fun g' hg' => ⟨_, _, hg', ?_⟩))
    · rw [hg]
      simp [Instr.mapEntry, run_underlying ht, MapKept.run_getObj_map hb, K.check w _ a, h1, run_zeroValue' hz, MapKept.run_setObj_map _ hb, Result.andThen, World.setBlk, goInt]
    · rw [Array.toList_push, hg]
      exact ⟨hm.push K.inj h2 z, _, _, app_get.2 (.inr ⟨rfl, rfl⟩), rfl, rfl⟩
  · have hj : es[j]? = some e := by simpa using h2
    have hg : ∃ v, g a = some v ∧ e.val = eV v := by
      rcases hg : g a with _ | v
      · exact absurd h3 (hm.none_ a hg j e h2)
      · obtain ⟨i, e', h4, h5, h6⟩ := hm.some_ a v hg
        have := hm.uniq i j e' e h4 h2 (h5.trans h3.symm)
        subst this
        rw [h4] at h2; cases h2
        exact ⟨v, rfl, h6⟩
    obtain ⟨v, hg, hv⟩ := hg
    have e1 : (es.modify j fun e => { e with key := eK a }) = es.modify j fun e => { e with key := eK a, val := eV v } := by
      apply Array.ext_getElem?
      intro q
      rw [Array.getElem?_modify, Array.getElem?_modify]
      by_cases hq : j = q
      · subst hq
        rw [hj]
        simp [hv]
      · rw [if_neg hq, if_neg hq]
    refine Rn.mk (v := .tuple #[eV ((g a).getD z), .int .i64 e.born]) (w' := World.setBlk w b (.map (es.modify j fun e => { e with key := eK a }) clock)) ?_ (hk _ e.born (hset _ _ _ fun g' hg' => ⟨_, _, hg', ?_⟩))
    · rw [hg]
      simp [Instr.mapEntry, run_underlying ht, MapKept.run_getObj_map hb, K.check w _ a, h1, hj, h3, K.stays w a, MapKept.run_setObj_map _ hb, Result.andThen, World.setBlk, goInt, hv]
    · rw [e1, Array.toList_modify, hg]
      refine ⟨hm.put K.inj h2 h3 v, j, { e with key := eK a, val := eV v }, ?_, rfl, rfl⟩
      rw [List.getElem?_modify, h2]
      simp
theorem find_born {es : List MapEntry} {clock : Nat} {g : κ → Option ν} (h : MR eK eV es clock g) {i : Nat} {e : MapEntry} (hi : es[i]? = some e) : es.findIdx? (fun x => (x.born : Int) == (e.born : Int)) = some i := by
  rw [List.findIdx?_eq_some_iff_getElem]
  have hlt := list_lt hi
  have he : es[i] = e := by rw [List.getElem?_eq_getElem hlt] at hi; exact Option.some.inj hi
  refine ⟨hlt, by rw [he]; simp, fun j hj => ?_⟩
  intro h'
  have h'' : (es[j].born : Int) = (e.born : Int) := by simpa using h'
  have := h.born j i es[j] e (List.getElem?_eq_getElem (by omega)) hi (by omega)
  omega
theorem Own.mstore (h : Own B w L) {b st : Nat} {g : κ → Option ν} {a : κ} (i : Nat) (hi : L[i]? = some (mpE eK eV b g a st)) {kt : TypeId} (K : MKey P kt eK) {t : TypeId} (v : ν) {k : Unit → World → Prop}
    (hk : ∀ w', Own B w' (L.set i (mpA eK eV b (upd g a v))) → k () w') : Rn P (Instr.entryStore t (.map (some b)) (.int .i64 st) (eV v)) w k := by
  obtain ⟨es, clock, ⟨hm, j, e, h1, h2, h3⟩, hb, hset⟩ := h.mopen i hi rfl
  have hf : es.findIdx? (fun x => (x.born : Int) == (st : Int)) = some j := by
    rw [← h3]
    have e0 : es.findIdx? (fun x => (x.born : Int) == (e.born : Int)) = es.toList.findIdx? (fun x => (x.born : Int) == (e.born : Int)) := by cases es; simp
    rw [e0]
    exact find_born hm h1
  have hj : es[j]? = some e := by simpa using h1
  have e1 : (es.modify j fun e => { e with val := eV v }) = es.modify j fun e => { e with key := eK a, val := eV v } := by
    apply Array.ext_getElem?
    intro q
    rw [Array.getElem?_modify, Array.getElem?_modify]
    by_cases hq : j = q
    · subst hq
      rw [hj]
      simp [h2]
    · rw [if_neg hq, if_neg hq]
  refine Rn.mk (v := ()) (w' := World.setBlk w b (.map (es.modify j fun e => { e with val := eV v }) clock)) ?_ (hk _ (hset _ _ _ fun g' hg' => ⟨_, _, hg', ?_⟩))
  · simp [Instr.entryStore, MapKept.run_getObj_map hb, asInt, asIntOf, hf, MapKept.run_setObj_map _ hb, Result.andThen, World.setBlk]
  · rw [e1, Array.toList_modify]
    exact hm.put K.inj h1 h2 v
end
end Go.Proofs.Ytedcfkigfcobaaa
end
/- Contracts: a mark of a run may stand there. -/
section
namespace Go.Proofs.Ytedcfkigfcobaaa
open Go Go.Proofs
attribute [local irreducible] Bc O AL BS MS MM ST AP CV Cl
abbrev rA (tv mv : Value) (T : List TK) (M : List MK) : List Atom := [sl 73 15 tv T.length (T.flatMap encTK), sl 67 8 mv M.length (M.flatMap encMK)]
/-- the mark of a kind of a task; -1: there is none -/
def IsAt (M : List MK) (i : Nat) (kd : Int) (x : Int) (v : Int) : Prop := (v = -1 ∧ ∀ (j : Nat) (n : MK), j < i → M[j]? = some n → ¬ (n.task = x ∧ n.kind = kd)) ∨ ∃ (j : Nat) (n : MK), v = j ∧ j < i ∧ M[j]? = some n ∧ n.task = x ∧ n.kind = kd
def BE (T : List TK) (M : List MK) (i : Nat) (kd : Int) (l : List Int) : Prop := l.length = T.length + 1 ∧ ∀ (x : Nat) (v : Int), l[x]? = some v → IsAt M i kd x v
theorem BE.skip {T : List TK} {M : List MK} {i : Nat} {kd : Int} {l : List Int} (h : BE T M i kd l) {m : MK} (hm : M[i]? = some m) (hk : m.kind ≠ kd) : BE T M (i + 1) kd l := by
  refine ⟨h.1, fun x v hv => ?_⟩
  rcases h.2 x v hv with ⟨h1, h2⟩ | ⟨j, n, h1, h2, h3⟩
  · refine .inl ⟨h1, fun j n hj hn => ?_⟩
    by_cases hji : j = i
    · subst hji; rw [hm] at hn; cases hn; exact fun h => hk h.2
    · exact h2 j n (by omega) hn
  · exact .inr ⟨j, n, h1, by omega, h3⟩
theorem BE.put {T : List TK} {M : List MK} {i : Nat} {kd : Int} {l : List Int} (h : BE T M i kd l) {m : MK} (hm : M[i]? = some m) (hk : m.kind = kd) (h0 : 0 ≤ m.task) : BE T M (i + 1) kd (l.set m.task.toNat i) := by
  refine ⟨by simpa using h.1, fun x v hv => ?_⟩
  rw [List.getElem?_set] at hv
  by_cases hx : m.task.toNat = x
  · rw [if_pos hx] at hv
    split at hv
    · cases hv
      exact .inr ⟨i, m, rfl, by omega, hm, by omega, hk⟩
    · cases hv
  · rw [if_neg hx] at hv
    rcases h.2 x v hv with ⟨h1, h2⟩ | ⟨j, n, h1, h2, h3⟩
    · refine .inl ⟨h1, fun j n hj hn => ?_⟩
      by_cases hji : j = i
      · subst hji; rw [hm] at hn; cases hn; exact fun h => hx (by omega)
      · exact h2 j n (by omega) hn
    · exact .inr ⟨j, n, h1, by omega, h3⟩
section
variable {B : Base} {w : World} {L : List Atom} {tv mv : Value} {T : List TK} {M : List MK}
theorem k95 (hw : Own B w (rA tv mv T M ++ L)) (n : Int) : Cl Try.prog 95 [runV tv mv, .int .i64 n] w fun v w' => v = .bool (decide (1 ≤ n ∧ n ≤ T.length)) ∧ Own B w' (rA tv mv T M ++ L) := by
  refine s95 ?_
  unfold c95
  refine hw.al fun b2 w1 hb2 hw1 => ?_
  clear hw
  replace hw1 : Own B w1 (bk b2 52 [tv, mv] :: (rA tv mv T M ++ L)) := hw1
  (repeat with_reducible first | refine qq ?_ | refine qr ?_ | refine qs ?_)
  refine Bc_dec (fun h => ?_) (fun h => ?_)
  · (repeat with_reducible first | refine qq ?_ | refine qr ?_ | refine qs ?_ | refine hw1.l 0 ?_)
    refine O.mk (hw1.slLen 1 rfl) ?_
    (repeat with_reducible first | refine qq ?_ | refine qr ?_ | refine qs ?_)
    refine ⟨?_, hw1.tail⟩
    congr 1
    rw [decide_eq_decide]
    omega
  · refine ⟨?_, hw1.tail⟩
    rw [decide_eq_false (by omega)]
/-- the looker's own: its block, where tasks begin and end -/
abbrev lkA (tv mv bv ev : Value) (lb : Nat) (bl el : List Int) : List Atom := [bk lb 169 [tv, mv, bv, ev], sl 3 1 bv bl.length (ints bl), sl 3 1 ev el.length (ints el)]
set_option maxHeartbeats 4000000 in
theorem k77 {bv ev : Value} {lb : Nat} {bl el : List Int} (hw : Own B w (rA tv mv T M ++ (lkA tv mv bv ev lb bl el ++ L))) {i : Nat} {m : MK} (hm : M[i]? = some m) (hok : MarkOK T M i m) (hb : BE T M i 1 bl) (he : BE T M i 2 el) (hT : T.length ≤ 256) :
    Cl Try.prog 77 [pp lb, .int .i64 i, .agg (encMK m).toArray] w fun v w' => v = .bool true ∧ ∃ bl' el', BE T M (i + 1) 1 bl' ∧ BE T M (i + 1) 2 el' ∧ Own B w' (rA tv mv T M ++ (lkA tv mv bv ev lb bl' el' ++ L)) := by
  obtain ⟨R, hR⟩ : ∃ R : Value → World → Prop, R = fun v w' => v = .bool true ∧ ∃ bl' el', BE T M (i + 1) 1 bl' ∧ BE T M (i + 1) 2 el' ∧ Own B w' (rA tv mv T M ++ (lkA tv mv bv ev lb bl' el' ++ L)) := ⟨_, rfl⟩
  rw [← hR]
  have htk := hok.task
  have hkd := hok.kind
  have hbl := hb.1
  have hel := he.1
  refine s77 ?_
  unfold c77
  refine hw.al fun b5 w1 hb5 hw1' => ?_
  obtain ⟨L5, hL5⟩ : ∃ L5, L5 = bk b5 67 (encMK m) :: L := ⟨_, rfl⟩
  have hw1 : Own B w1 (rA tv mv T M ++ (lkA tv mv bv ev lb bl el ++ L5)) := by
    rw [hL5]
    exact hw1'.perm (List.perm_middle (l₁ := rA tv mv T M ++ lkA tv mv bv ev lb bl el)).symm
  clear hw1' hw
  have hback : ∀ {bl el : List Int} {w'}, Own B w' (rA tv mv T M ++ (lkA tv mv bv ev lb bl el ++ L5)) → Own B w' (rA tv mv T M ++ (lkA tv mv bv ev lb bl el ++ L)) := fun {bl el w'} h => by
    rw [hL5] at h
    exact (h.perm (List.perm_middle (l₁ := rA tv mv T M ++ lkA tv mv bv ev lb bl el))).tail
  have mk_ : ∀ {bl el : List Int} {w'}, Own B w' (rA tv mv T M ++ (lkA tv mv bv ev lb bl el ++ L5)) → ∀ k y, (encMK m)[k]? = some y → rd1 (.pointer (some ⟨b5, k, none⟩)) w' = some y := fun {bl el w'} h k y hy => h.rd1_bk 5 (by rw [hL5]; rfl) hy
  refine hw1.dr fun w2 hw2 => ?_
  clear hw1
  obtain ⟨vb, hvb⟩ := list_get (l := bl) (j := m.task.toNat) (by omega)
  obtain ⟨ve, hve⟩ := list_get (l := el) (j := m.task.toNat) (by omega)
  have hib := hb.2 _ _ hvb
  have hie := he.2 _ _ hve
  have e0 : ((m.task.toNat : Nat) : Int) = m.task := by omega
  rw [e0] at hib hie
  have hvb0 : m.kind = 1 ↔ vb < 0 := by
    rw [hok.fst]
    rcases hib with ⟨h1, h2⟩ | ⟨j, n, h1, h2, h3, h4⟩
    · exact ⟨fun _ => by omega, fun _ => h2⟩
    · exact ⟨fun h => absurd h4 (h j n h2 h3), fun h => by omega⟩
  have hve0 : ve < 0 := by
    rcases hie with ⟨h1, h2⟩ | ⟨j, n, h1, h2, h3, h4, h5⟩
    · omega
    · exact absurd h5 (hok.noend j n h2 h3 h4)
  have J0 : ∀ w3, Own B w3 (rA tv mv T M ++ (lkA tv mv bv ev lb bl el ++ L5)) → j77_0 R (pp b5) (pp lb) (.int .i64 i) (.bool false) w3 := by
    intro w3 hw3
    unfold j77_0
    refine Bc_f ?_
    (repeat with_reducible first | refine qq ?_ | refine qr ?_ | refine qs ?_)
    refine O.mk (mk_ hw3 0 _ rfl) ?_
    (repeat with_reducible first | refine qq ?_ | refine qr ?_ | refine qs ?_)
    refine Bc_dec (fun k1 => ?_) (fun k1 => ?_)
    · refine hw3.dr fun w4 hw4 => ?_
      clear hw3
      (repeat with_reducible first | refine qq ?_ | refine qr ?_ | refine qs ?_ | refine hw4.l 2 ?_)
      refine O.mk (mk_ hw4 1 _ rfl) ?_
      obtain ⟨b1, hix1, hrd1⟩ := hw4.eli 3 rfl hvb
      refine O.mk (hix1 _ _ (by omega) rfl) ?_
      refine hw4.elsti 3 rfl (list_lt hvb) i (hix1 .i64 _ (by omega) rfl) rfl tsz3 fun w5 hw5 => ?_
      rw [hR]
      exact ⟨rfl, _, _, hb.put hm k1 (by omega), he.skip hm (by omega), hback hw5⟩
    (repeat with_reducible first | refine qq ?_ | refine qr ?_ | refine qs ?_)
    refine Bc_dec (fun k2 => ?_) (fun k2 => ?_)
    · refine hw3.dr fun w4 hw4 => ?_
      clear hw3
      (repeat with_reducible first | refine qq ?_ | refine qr ?_ | refine qs ?_ | refine hw4.l 2 ?_)
      refine O.mk (mk_ hw4 1 _ rfl) ?_
      obtain ⟨b1, hix1, hrd1⟩ := hw4.eli 4 rfl hve
      refine O.mk (hix1 _ _ (by omega) rfl) ?_
      refine hw4.elsti 4 rfl (list_lt hve) i (hix1 .i64 _ (by omega) rfl) rfl tsz3 fun w5 hw5 => ?_
      rw [hR]
      exact ⟨rfl, _, _, hb.skip hm (by omega), he.put hm k2 (by omega), hback hw5⟩
    have hfin : ∀ w', Own B w' (rA tv mv T M ++ (lkA tv mv bv ev lb bl el ++ L5)) → R (.bool true) w' := fun w' h => by
      rw [hR]; exact ⟨rfl, bl, el, hb.skip hm k1, he.skip hm k2, hback h⟩
    (repeat with_reducible first | refine qq ?_ | refine qr ?_ | refine qs ?_)
    refine Bc_dec (fun k3 => hfin _ hw3) (fun k3 => ?_)
    have J1 : ∀ c, (c = true ↔ (m.kind = 4 ∨ m.kind = 5)) → j77_1 R (pp lb) (pp b5) (.int .i64 i) (.int .i64 m.kind) (.bool c) w3 := by
      intro c hc
      unfold j77_1
      refine Bc_b (fun h => ?_) (fun h => ?_)
      · have k45 := hc.1 h
        obtain ⟨o1, t, ht, ht1, ht2, ht3, ht4⟩ := hok.made k45
        have hol := list_lt ht
        refine hw3.dr fun w4 hw4 => ?_
        clear hw3 hc h
        (repeat with_reducible first | refine qq ?_ | refine qr ?_ | refine qs ?_ | refine hw4.l 2 ?_)
        refine O.mk (v := runV tv mv) (hw4.rdN_bk 2 rfl (by show 0 + 2 ≤ 4; decide)) ?_
        (repeat with_reducible first | refine qq ?_ | refine qr ?_ | refine qs ?_)
        refine O.mk (mk_ hw4 2 _ rfl) ?_
        refine (k95 hw4 m.other).use ?_
        rintro _ w5 ⟨rfl, hw5⟩
        rw [decide_eq_true (by omega)]
        clear hw4
        (repeat with_reducible first | refine qq ?_ | refine qr ?_ | refine qs ?_)
        refine Bc_f ?_
        obtain ⟨vo, hvo⟩ := list_get (l := bl) (j := m.other.toNat) (by omega)
        have hvo0 : vo < 0 := by
          have := hb.2 _ _ hvo
          rw [show ((m.other.toNat : Nat) : Int) = m.other by omega] at this
          rcases this with ⟨h1, _⟩ | ⟨j, n, h1, h2, h3, h4, _⟩
          · omega
          · exact absurd h4 (ht4 j n h2 h3)
        (repeat with_reducible first | refine qq ?_ | refine qr ?_ | refine qs ?_ | refine hw5.l 2 ?_)
        refine O.mk (mk_ hw5 2 _ rfl) ?_
        obtain ⟨b1, hix1, hrd1⟩ := hw5.eli 3 rfl hvo
        refine O.mk (hix1 _ _ (by omega) rfl) ?_
        refine O.mk hrd1 ?_
        (repeat with_reducible first | refine qq ?_ | refine qr ?_ | refine qs ?_)
        rw [decide_eq_false (by omega)]
        unfold j77_2
        refine Bc_f ?_
        refine hw5.dr fun w6 hw6 => ?_
        clear hw5 hrd1
        (repeat with_reducible first | refine qq ?_ | refine qr ?_ | refine qs ?_ | refine hw6.l 2 ?_)
        refine O.mk (mk_ hw6 2 _ rfl) ?_
        (repeat with_reducible first | refine qq ?_ | refine qr ?_ | refine qs ?_)
        obtain ⟨bt, hixt, hrdt, hrdN⟩ := hw6.el 0 rfl encTK_len ht
        refine O.mk (hixt _ _ (by omega) rfl) ?_
        refine O.mk hrdN ?_
        refine hw6.al fun b7 w7 hb7 hw7' => ?_
        have hw7 : Own B w7 (rA tv mv T M ++ (lkA tv mv bv ev lb bl el ++ (bk b7 73 [.int .i64 0, .int .i64 0, .int .i64 0, .int .i64 0, .int .i64 0, .int .i64 0, .int .i64 0, .bool false, .int .i64 0, .int .i64 0, .int .i64 0, .int .i64 0, .int .i64 0, .int .i64 0, .int .i64 0] :: L5))) := hw7'.perm (List.perm_middle (l₁ := rA tv mv T M ++ lkA tv mv bv ev lb bl el)).symm
        clear hw6 hw7' hrdt hrdN hixt
        refine hw7.st_bk (x := .agg (encTK t).toArray) 5 rfl (by kernel_rfl) (encTK_one t) (Nat.le_refl 15) fun w8 hw8 => ?_
        clear hw7
        replace hw8 : Own B w8 (rA tv mv T M ++ (lkA tv mv bv ev lb bl el ++ (bk b7 73 (encTK t) :: L5))) := hw8
        have mk7 : ∀ k y, (encMK m)[k]? = some y → rd1 (.pointer (some ⟨b5, k, none⟩)) w8 = some y := fun k y hy => hw8.rd1_bk 6 (by rw [hL5]; rfl) hy
        (repeat with_reducible first | refine qq ?_ | refine qr ?_ | refine qs ?_ | refine hw8.l 5 ?_)
        refine O.mk (mk7 1 _ rfl) ?_
        (repeat with_reducible first | refine qq ?_ | refine qr ?_ | refine qs ?_)
        refine Bc_dec (fun _ => ?_) (fun h => absurd ht2 h)
        (repeat with_reducible first | refine qq ?_ | refine qr ?_ | refine qs ?_)
        refine O.mk (mk7 1 _ rfl) ?_
        (repeat with_reducible first | refine qq ?_ | refine qr ?_ | refine qs ?_)
        refine O.mk (mk7 2 _ rfl) ?_
        (repeat with_reducible first | refine qq ?_ | refine qr ?_ | refine qs ?_)
        refine Bc_dec (fun _ => ?_) (fun h => absurd o1 h)
        (repeat with_reducible first | refine qq ?_ | refine qr ?_ | refine qs ?_ | refine hw8.l 5 ?_)
        refine Bc_dec (fun _ => ?_) (fun h => absurd ht3 h)
        (repeat with_reducible first | refine qq ?_ | refine qr ?_ | refine qs ?_)
        refine O.mk (mk7 0 _ rfl) ?_
        (repeat with_reducible first | refine qq ?_ | refine qr ?_ | refine qs ?_ | refine hw8.l 5 ?_)
        have hb4 : bb .eql (.bool (decide (m.kind = 4))) (.bool (decide (t.kind = 4))) = some (.bool true) := by rw [ht1]; simp [bb]
        have hb5' : bb .eql (.bool (decide (m.kind = 5))) (.bool (decide (t.kind = 5))) = some (.bool true) := by rw [ht1]; simp [bb]
        refine O.mk hb4 ?_
        refine Bc_t ?_
        (repeat with_reducible first | refine qq ?_ | refine qr ?_ | refine qs ?_)
        refine O.mk (mk7 0 _ rfl) ?_
        (repeat with_reducible first | refine qq ?_ | refine qr ?_ | refine qs ?_ | refine hw8.l 5 ?_)
        refine O.mk hb5' ?_
        exact hfin _ ((hw8.perm (List.perm_middle (l₁ := rA tv mv T M ++ lkA tv mv bv ev lb bl el))).tail)
      · have k45 : ¬ (m.kind = 4 ∨ m.kind = 5) := fun h' => by rw [hc.2 h'] at h; cases h
        (repeat with_reducible first | refine qq ?_ | refine qr ?_ | refine qs ?_)
        refine Bc_dec (fun k6 => ?_) (fun k6 => ?_)
        · obtain ⟨o1, t, ht, ht1, j, n, hj, hn, hn1, hn2⟩ := hok.join k6
          have hol := list_lt ht
          refine hw3.dr fun w4 hw4 => ?_
          clear hw3 hc h
          (repeat with_reducible first | refine qq ?_ | refine qr ?_ | refine qs ?_ | refine hw4.l 2 ?_)
          refine O.mk (v := runV tv mv) (hw4.rdN_bk 2 rfl (by show 0 + 2 ≤ 4; decide)) ?_
          (repeat with_reducible first | refine qq ?_ | refine qr ?_ | refine qs ?_)
          refine O.mk (mk_ hw4 2 _ rfl) ?_
          refine (k95 hw4 m.other).use ?_
          rintro _ w5 ⟨rfl, hw5⟩
          rw [decide_eq_true (by omega)]
          clear hw4
          refine Bc_t ?_
          (repeat with_reducible first | refine qq ?_ | refine qr ?_ | refine qs ?_ | refine hw5.l 2 ?_)
          refine O.mk (mk_ hw5 2 _ rfl) ?_
          (repeat with_reducible first | refine qq ?_ | refine qr ?_ | refine qs ?_)
          obtain ⟨bt, hixt, hrdt, _⟩ := hw5.el 0 rfl encTK_len ht
          refine O.mk (hixt _ _ (by omega) rfl) ?_
          (repeat with_reducible first | refine qq ?_ | refine qr ?_ | refine qs ?_)
          refine O.mk (hrdt 0 _ rfl) ?_
          (repeat with_reducible first | refine qq ?_ | refine qr ?_ | refine qs ?_)
          refine Bc_dec (fun _ => ?_) (fun h => absurd ht1 h)
          (repeat with_reducible first | refine qq ?_ | refine qr ?_ | refine qs ?_ | refine hw5.l 2 ?_)
          refine O.mk (mk_ hw5 2 _ rfl) ?_
          obtain ⟨vo, hvo⟩ := list_get (l := el) (j := m.other.toNat) (by omega)
          have hvo0 : 0 ≤ vo := by
            have := he.2 _ _ hvo
            rw [show ((m.other.toNat : Nat) : Int) = m.other by omega] at this
            rcases this with ⟨_, h1⟩ | ⟨j, n, h1, _⟩
            · exact absurd ⟨hn1, hn2⟩ (h1 j n hj hn)
            · omega
          obtain ⟨b1, hix1, hrd1⟩ := hw5.eli 4 rfl hvo
          refine O.mk (hix1 _ _ (by omega) rfl) ?_
          refine O.mk hrd1 ?_
          (repeat with_reducible first | refine qq ?_ | refine qr ?_ | refine qs ?_)
          rw [decide_eq_true hvo0]
          exact hfin _ hw5
        · (repeat with_reducible first | refine qq ?_ | refine qr ?_ | refine qs ?_)
          refine Bc_dec (fun k7 => ?_) (fun k7 => by omega)
          (repeat with_reducible first | refine qq ?_ | refine qr ?_ | refine qs ?_)
          refine O.mk (mk_ hw3 2 _ rfl) ?_
          (repeat with_reducible first | refine qq ?_ | refine qr ?_ | refine qs ?_)
          rw [decide_eq_true (hok.enable k7)]
          exact hfin _ hw3
    (repeat with_reducible first | refine qq ?_ | refine qr ?_ | refine qs ?_)
    refine Bc_dec (fun k4 => J1 true ⟨fun _ => .inl k4, fun _ => rfl⟩) (fun k4 => ?_)
    (repeat with_reducible first | refine qq ?_ | refine qr ?_ | refine qs ?_)
    refine J1 _ ?_
    simp only [decide_eq_true_eq]
    omega
  (repeat with_reducible first | refine qq ?_ | refine qr ?_ | refine qs ?_ | refine hw2.l 2 ?_)
  refine O.mk (v := runV tv mv) (hw2.rdN_bk 2 rfl (by show 0 + 2 ≤ 4; decide)) ?_
  (repeat with_reducible first | refine qq ?_ | refine qr ?_ | refine qs ?_)
  refine O.mk (mk_ hw2 1 _ rfl) ?_
  refine (k95 hw2 m.task).use ?_
  rintro _ w3 ⟨rfl, hw3⟩
  rw [decide_eq_true htk]
  clear hw2
  (repeat with_reducible first | refine qq ?_ | refine qr ?_ | refine qs ?_)
  refine Bc_f ?_
  (repeat with_reducible first | refine qq ?_ | refine qr ?_ | refine qs ?_)
  refine O.mk (mk_ hw3 0 _ rfl) ?_
  (repeat with_reducible first | refine qq ?_ | refine qr ?_ | refine qs ?_ | refine hw3.l 2 ?_)
  refine O.mk (mk_ hw3 1 _ rfl) ?_
  obtain ⟨b1, hix1, hrd1⟩ := hw3.eli 3 rfl hvb
  refine O.mk (hix1 _ _ (by omega) rfl) ?_
  refine O.mk hrd1 ?_
  (repeat with_reducible first | refine qq ?_ | refine qr ?_ | refine qs ?_)
  have hbb : bb .neq (.bool (decide (m.kind = 1))) (.bool (decide (vb < 0))) = some (.bool false) := by
    have : decide (m.kind = 1) = decide (vb < 0) := by rw [decide_eq_decide]; exact hvb0
    rw [this]; simp [bb]
  refine O.mk hbb ?_
  (repeat with_reducible first | refine qq ?_ | refine qr ?_ | refine qs ?_)
  (repeat with_reducible first | refine qq ?_ | refine qr ?_ | refine qs ?_ | refine hw3.l 2 ?_)
  refine O.mk (mk_ hw3 1 _ rfl) ?_
  obtain ⟨b2, hix2, hrd2⟩ := hw3.eli 4 rfl hve
  refine O.mk (hix2 _ _ (by omega) rfl) ?_
  refine O.mk hrd2 ?_
  (repeat with_reducible first | refine qq ?_ | refine qr ?_ | refine qs ?_)
  rw [decide_eq_false (by omega)]
  exact J0 _ hw3
end
end Go.Proofs.Ytedcfkigfcobaaa
end
/- Contracts: what made a task, what it follows. -/
section
namespace Go.Proofs.Ytedcfkigfcobaaa
open Go Go.Proofs
attribute [local irreducible] Bc O AL BS MS MM ST AP CV Cl
section
variable {B : Base} {w : World} {L : List Atom} {tv mv : Value} {T : List TK} {M : List MK}
theorem BE.at_ {kd : Int} {l : List Int} (h : BE T M M.length kd l) {x v : Int} (h0 : 0 ≤ x) (hv : l[x.toNat]? = some v) : (v = -1 ∧ ∀ (j : Nat) (n : MK), M[j]? = some n → ¬ (n.task = x ∧ n.kind = kd)) ∨ ∃ (j : Nat) (n : MK), v = j ∧ M[j]? = some n ∧ n.task = x ∧ n.kind = kd := by
  have := h.2 _ _ hv
  rw [show ((x.toNat : Nat) : Int) = x by omega] at this
  rcases this with ⟨h1, h2⟩ | ⟨j, n, h1, h2, h3⟩
  · exact .inl ⟨h1, fun j n hn => h2 j n (list_lt hn) hn⟩
  · exact .inr ⟨j, n, h1, h3⟩
set_option maxHeartbeats 4000000 in
theorem k78 {bv ev : Value} {lb : Nat} {bl el : List Int} (hw : Own B w (rA tv mv T M ++ (lkA tv mv bv ev lb bl el ++ L))) {i : Nat} {t : TK} (ht : T[i]? = some t) (hr : TaskR T M i t) (hb : BE T M M.length 1 bl) (hT : T.length ≤ 256) :
    Cl Try.prog 78 [pp lb, .int .i64 (i + 1), .agg (encTK t).toArray] w fun v w' => v = .bool true ∧ Own B w' (rA tv mv T M ++ (lkA tv mv bv ev lb bl el ++ L)) := by
  obtain ⟨R, hR⟩ : ∃ R : Value → World → Prop, R = fun v w' => v = .bool true ∧ Own B w' (rA tv mv T M ++ (lkA tv mv bv ev lb bl el ++ L)) := ⟨_, rfl⟩
  rw [← hR]
  have hlt := list_lt ht
  have hbl := hb.1
  have hkd := hr.kind
  refine s78 ?_
  unfold c78
  refine hw.al fun b5 w1 hb5 hw1' => ?_
  have hw1 : Own B w1 (rA tv mv T M ++ (lkA tv mv bv ev lb bl el ++ (bk b5 73 (encTK t) :: L))) := hw1'.perm (List.perm_middle (l₁ := rA tv mv T M ++ lkA tv mv bv ev lb bl el)).symm
  clear hw1' hw
  have hfin : ∀ w', Own B w' (rA tv mv T M ++ (lkA tv mv bv ev lb bl el ++ (bk b5 73 (encTK t) :: L))) → R (.bool true) w' := fun w' h => by
    rw [hR]; exact ⟨rfl, (h.perm (List.perm_middle (l₁ := rA tv mv T M ++ lkA tv mv bv ev lb bl el))).tail⟩
  (repeat with_reducible first | refine qq ?_ | refine qr ?_ | refine qs ?_ | refine hw1.l 5 ?_)
  refine Bc_dec (fun h0 => ?_) (fun h0 => ?_)
  · have h45 : ¬ (t.kind = 4 ∨ t.kind = 5) := fun h => by have := (hr.markP h).1; omega
    (repeat with_reducible first | refine qq ?_ | refine qr ?_ | refine qs ?_ | refine hw1.l 5 ?_)
    refine Bc_dec (fun _ => ?_) (fun h => by omega)
    (repeat with_reducible first | refine qq ?_ | refine qr ?_ | refine qs ?_ | refine hw1.l 5 ?_)
    rw [decide_eq_true (by omega)]
    exact hfin _ hw1
  · refine hw1.dr fun w2 hw2 => ?_
    clear hw1
    obtain ⟨n, hn, hcase⟩ : ∃ n, M[t.mark.toNat]? = some n ∧ ((t.kind = 4 ∧ n.kind = 4 ∧ n.other = i + 1) ∨ (t.kind = 5 ∧ n.kind = 5 ∧ n.other = i + 1) ∨ (t.kind = 3 ∧ n.kind = 7 ∧ n.other = t.of_)) := by
      have h1 := hr.mark0
      by_cases h3 : t.kind = 3
      · rcases hr.markE h3 with h | ⟨_, n, h4, h5, h6⟩
        · omega
        · exact ⟨n, h4, .inr (.inr ⟨h3, h5, h6⟩)⟩
      · obtain ⟨_, n, h4, h5, h6⟩ := hr.markP (by omega)
        exact ⟨n, h4, by omega⟩
    have hnl := list_lt hn
    have J : ∀ w3, Own B w3 (rA tv mv T M ++ (lkA tv mv bv ev lb bl el ++ (bk b5 73 (encTK t) :: L))) → j78_0 R (pp lb) (pp b5) (.int .i64 (i + 1)) (.bool false) w3 := by
      intro w3 hw3
      unfold j78_0
      refine Bc_f ?_
      refine hw3.dr fun w4 hw4 => ?_
      clear hw3
      (repeat with_reducible first | refine qq ?_ | refine qr ?_ | refine qs ?_ | refine hw4.l 2 ?_ | refine hw4.l 5 ?_)
      obtain ⟨bm, hixm, hrdm, hrdN⟩ := hw4.el 1 rfl encMK_len hn
      refine O.mk (hixm _ _ (by omega) rfl) ?_
      refine O.mk hrdN ?_
      refine hw4.al fun b7 w5 hb7 hw5' => ?_
      clear hrdm hrdN hixm
      have hw5 : Own B w5 (rA tv mv T M ++ (lkA tv mv bv ev lb bl el ++ (bk b7 67 [.int .i64 0, .int .i64 0, .int .i64 0, .int .i64 0, .int .i64 0, .int .i64 0, .int .i64 0, .bool false] :: bk b5 73 (encTK t) :: L))) := hw5'.perm (List.perm_middle (l₁ := rA tv mv T M ++ lkA tv mv bv ev lb bl el)).symm
      clear hw5' hw4
      refine hw5.st_bk (x := .agg (encMK n).toArray) 5 rfl (by kernel_rfl) (encMK_one n) (Nat.le_refl 8) fun w6 hw6 => ?_
      clear hw5
      replace hw6 : Own B w6 (rA tv mv T M ++ (lkA tv mv bv ev lb bl el ++ (bk b7 67 (encMK n) :: bk b5 73 (encTK t) :: L))) := hw6
      have hf : R (.bool true) w6 := hfin _ ((hw6.perm (List.perm_middle (l₁ := rA tv mv T M ++ lkA tv mv bv ev lb bl el))).tail)
      (repeat with_reducible first | refine qq ?_ | refine qr ?_ | refine qs ?_ | refine hw6.l 5 ?_ | refine hw6.l 6 ?_)
      refine Bc_dec (fun k4 => ?_) (fun k4 => ?_)
      · (repeat with_reducible first | refine qq ?_ | refine qr ?_ | refine qs ?_ | refine hw6.l 5 ?_ | refine hw6.l 6 ?_)
        refine Bc_dec (fun _ => ?_) (fun h => by omega)
        (repeat with_reducible first | refine qq ?_ | refine qr ?_ | refine qs ?_ | refine hw6.l 5 ?_ | refine hw6.l 6 ?_)
        rw [decide_eq_true (by omega)]
        exact hf
      (repeat with_reducible first | refine qq ?_ | refine qr ?_ | refine qs ?_ | refine hw6.l 5 ?_ | refine hw6.l 6 ?_)
      refine Bc_dec (fun k5 => ?_) (fun k5 => ?_)
      · (repeat with_reducible first | refine qq ?_ | refine qr ?_ | refine qs ?_ | refine hw6.l 5 ?_ | refine hw6.l 6 ?_)
        refine Bc_dec (fun _ => ?_) (fun h => by omega)
        (repeat with_reducible first | refine qq ?_ | refine qr ?_ | refine qs ?_ | refine hw6.l 5 ?_ | refine hw6.l 6 ?_)
        rw [decide_eq_true (by omega)]
        exact hf
      (repeat with_reducible first | refine qq ?_ | refine qr ?_ | refine qs ?_ | refine hw6.l 5 ?_ | refine hw6.l 6 ?_)
      refine Bc_dec (fun k3 => ?_) (fun k3 => by omega)
      (repeat with_reducible first | refine qq ?_ | refine qr ?_ | refine qs ?_ | refine hw6.l 5 ?_ | refine hw6.l 6 ?_)
      refine Bc_dec (fun _ => ?_) (fun h => by omega)
      (repeat with_reducible first | refine qq ?_ | refine qr ?_ | refine qs ?_ | refine hw6.l 5 ?_ | refine hw6.l 6 ?_)
      rw [decide_eq_true (by omega)]
      exact hf
    (repeat with_reducible first | refine qq ?_ | refine qr ?_ | refine qs ?_ | refine hw2.l 2 ?_ | refine hw2.l 5 ?_)
    refine O.mk (hw2.slLen 1 rfl) ?_
    (repeat with_reducible first | refine qq ?_ | refine qr ?_ | refine qs ?_)
    refine Bc_dec (fun h => by omega) (fun _ => ?_)
    obtain ⟨vb, hvb⟩ := list_get (l := bl) (j := i + 1) (by omega)
    have hvb' : bl[((i : Int) + 1).toNat]? = some vb := by rw [show ((i : Int) + 1).toNat = i + 1 by omega]; exact hvb
    obtain ⟨b1, hix1, hrd1⟩ := hw2.eli 3 rfl hvb'
    (repeat with_reducible first | refine qq ?_ | refine qr ?_ | refine qs ?_ | refine hw2.l 2 ?_ | refine hw2.l 5 ?_)
    refine O.mk (hix1 _ _ (by omega) rfl) ?_
    refine O.mk hrd1 ?_
    (repeat with_reducible first | refine qq ?_ | refine qr ?_ | refine qs ?_)
    refine Bc_dec (fun h1 => ?_) (fun h1 => J _ hw2)
    (repeat with_reducible first | refine qq ?_ | refine qr ?_ | refine qs ?_ | refine hw2.l 2 ?_ | refine hw2.l 5 ?_)
    refine O.mk (hix1 _ _ (by omega) rfl) ?_
    refine O.mk hrd1 ?_
    (repeat with_reducible first | refine qq ?_ | refine qr ?_ | refine qs ?_)
    have hlater : t.mark < vb := by
      rcases hb.at_ (by omega) hvb' with ⟨h2, _⟩ | ⟨j, n', h2, h3, h4, _⟩
      · omega
      · have := hr.later j n' h3 h4; omega
    rw [decide_eq_false (by omega)]
    exact J _ hw2
set_option maxHeartbeats 4000000 in
theorem k79 {bv ev : Value} {lb : Nat} {bl el : List Int} (hw : Own B w (rA tv mv T M ++ (lkA tv mv bv ev lb bl el ++ L))) {i : Nat} {t : TK} (ht : T[i]? = some t) (hr : TaskR T M i t) (hM : ∀ (i : Nat) (m : MK), M[i]? = some m → MarkOK T M i m) (hb : BE T M M.length 1 bl) (he : BE T M M.length 2 el) (hT : T.length ≤ 256) :
    Cl Try.prog 79 [pp lb, .int .i64 (i + 1), .agg (encTK t).toArray] w fun v w' => v = .bool true ∧ Own B w' (rA tv mv T M ++ (lkA tv mv bv ev lb bl el ++ L)) := by
  obtain ⟨R, hR⟩ : ∃ R : Value → World → Prop, R = fun v w' => v = .bool true ∧ Own B w' (rA tv mv T M ++ (lkA tv mv bv ev lb bl el ++ L)) := ⟨_, rfl⟩
  rw [← hR]
  have hlt := list_lt ht
  have hbl := hb.1
  have hel := he.1
  refine s79 ?_
  unfold c79
  refine hw.al fun b5 w1 hb5 hw1' => ?_
  have hw1 : Own B w1 (rA tv mv T M ++ (lkA tv mv bv ev lb bl el ++ (bk b5 73 (encTK t) :: L))) := hw1'.perm (List.perm_middle (l₁ := rA tv mv T M ++ lkA tv mv bv ev lb bl el)).symm
  clear hw1' hw
  have hfin : ∀ w', Own B w' (rA tv mv T M ++ (lkA tv mv bv ev lb bl el ++ (bk b5 73 (encTK t) :: L))) → R (.bool true) w' := fun w' h => by
    rw [hR]; exact ⟨rfl, (h.perm (List.perm_middle (l₁ := rA tv mv T M ++ lkA tv mv bv ev lb bl el))).tail⟩
  (repeat with_reducible first | refine qq ?_ | refine qr ?_ | refine qs ?_ | refine hw1.l 5 ?_)
  refine Bc_dec (fun h0 => hfin _ hw1) (fun h0 => ?_)
  rcases hr.prev with h | ⟨k, o, h2, h3, h4, h5, h6, h7, h8, h9⟩
  · exact absurd h h0
  have J : j79_0 R (pp lb) (pp b5) (.int .i64 (i + 1)) (.bool false) w1 := by
    unfold j79_0
    refine Bc_f ?_
    refine hw1.dr fun w2 hw2 => ?_
    (repeat with_reducible first | refine qq ?_ | refine qr ?_ | refine qs ?_ | refine hw2.l 2 ?_ | refine hw2.l 5 ?_)
    obtain ⟨bt, hixt, hrdt, hrdN⟩ := hw2.el 0 rfl encTK_len h4
    refine O.mk (hixt _ _ (by omega) (by omega)) ?_
    rw [show (t.prev - 1).toNat = k by omega]
    refine O.mk hrdN ?_
    refine hw2.al fun b7 w5 hb7 hw5' => ?_
    clear hrdt hrdN hixt
    have hw5 : Own B w5 (rA tv mv T M ++ (lkA tv mv bv ev lb bl el ++ (bk b7 73 [.int .i64 0, .int .i64 0, .int .i64 0, .int .i64 0, .int .i64 0, .int .i64 0, .int .i64 0, .bool false, .int .i64 0, .int .i64 0, .int .i64 0, .int .i64 0, .int .i64 0, .int .i64 0, .int .i64 0] :: bk b5 73 (encTK t) :: L))) := hw5'.perm (List.perm_middle (l₁ := rA tv mv T M ++ lkA tv mv bv ev lb bl el)).symm
    clear hw5' hw2
    refine hw5.st_bk (x := .agg (encTK o).toArray) 5 rfl (by kernel_rfl) (encTK_one o) (Nat.le_refl 15) fun w6 hw6 => ?_
    clear hw5
    replace hw6 : Own B w6 (rA tv mv T M ++ (lkA tv mv bv ev lb bl el ++ (bk b7 73 (encTK o) :: bk b5 73 (encTK t) :: L))) := hw6
    refine hw6.dr fun w7 hw7 => ?_
    clear hw6
    have hf : R (.bool true) w7 := hfin _ ((hw7.perm (List.perm_middle (l₁ := rA tv mv T M ++ lkA tv mv bv ev lb bl el))).tail)
    (repeat with_reducible first | refine qq ?_ | refine qr ?_ | refine qs ?_ | refine hw7.l 5 ?_ | refine hw7.l 6 ?_)
    refine Bc_dec (fun _ => ?_) (fun h => absurd h6 h)
    (repeat with_reducible first | refine qq ?_ | refine qr ?_ | refine qs ?_ | refine hw7.l 5 ?_ | refine hw7.l 6 ?_)
    refine Bc_dec (fun _ => ?_) (fun h => absurd h7 h)
    (repeat with_reducible first | refine qq ?_ | refine qr ?_ | refine qs ?_ | refine hw7.l 5 ?_ | refine hw7.l 6 ?_)
    refine Bc_dec (fun _ => ?_) (fun h => absurd h8 h)
    obtain ⟨vb, hvb⟩ := list_get (l := bl) (j := ((i : Int) + 1).toNat) (by omega)
    obtain ⟨b1, hix1, hrd1⟩ := hw7.eli 3 rfl hvb
    (repeat with_reducible first | refine qq ?_ | refine qr ?_ | refine qs ?_ | refine hw7.l 2 ?_ | refine hw7.l 5 ?_ | refine hw7.l 6 ?_)
    refine O.mk (hix1 _ _ (by omega) rfl) ?_
    refine O.mk hrd1 ?_
    (repeat with_reducible first | refine qq ?_ | refine qr ?_ | refine qs ?_)
    refine Bc_dec (fun _ => hf) (fun hvb0 => ?_)
    obtain ⟨ve, hve⟩ := list_get (l := el) (j := t.prev.toNat) (by omega)
    have hvv : 0 ≤ ve ∧ ve < vb := by
      rcases hb.at_ (by omega) hvb with ⟨h10, _⟩ | ⟨j, n', h10, h11, h12, _⟩
      · omega
      · obtain ⟨j', n2, h13, h14, h15, h16⟩ := h9 j n' h11 h12
        rcases he.at_ (by omega) hve with ⟨_, h17⟩ | ⟨j2, n3, h17, h18, h19, h20⟩
        · exact absurd ⟨by omega, h16⟩ (h17 j' n2 h14)
        · have hj : j2 = j' := by
            rcases Nat.lt_trichotomy j2 j' with hh | hh | hh
            · exact absurd h20 ((hM j' n2 h14).noend j2 n3 hh h18 (by omega))
            · exact hh
            · exact absurd h16 ((hM j2 n3 h18).noend j' n2 hh h14 (by omega))
          omega
    obtain ⟨b2, hix2, hrd2⟩ := hw7.eli 4 rfl hve
    (repeat with_reducible first | refine qq ?_ | refine qr ?_ | refine qs ?_ | refine hw7.l 2 ?_ | refine hw7.l 5 ?_ | refine hw7.l 6 ?_)
    refine O.mk (hix2 _ _ (by omega) rfl) ?_
    refine O.mk hrd2 ?_
    (repeat with_reducible first | refine qq ?_ | refine qr ?_ | refine qs ?_)
    refine Bc_dec (fun _ => ?_) (fun h => absurd hvv.1 h)
    (repeat with_reducible first | refine qq ?_ | refine qr ?_ | refine qs ?_ | refine hw7.l 2 ?_ | refine hw7.l 5 ?_ | refine hw7.l 6 ?_)
    refine O.mk (hix2 _ _ (by omega) rfl) ?_
    refine O.mk hrd2 ?_
    (repeat with_reducible first | refine qq ?_ | refine qr ?_ | refine qs ?_ | refine hw7.l 2 ?_ | refine hw7.l 5 ?_ | refine hw7.l 6 ?_)
    refine O.mk (hix1 _ _ (by omega) rfl) ?_
    refine O.mk hrd1 ?_
    (repeat with_reducible first | refine qq ?_ | refine qr ?_ | refine qs ?_)
    rw [decide_eq_true hvv.2]
    exact hf
  (repeat with_reducible first | refine qq ?_ | refine qr ?_ | refine qs ?_ | refine hw1.l 5 ?_)
  refine Bc_dec (fun h => by omega) (fun _ => ?_)
  (repeat with_reducible first | refine qq ?_ | refine qr ?_ | refine qs ?_ | refine hw1.l 5 ?_)
  refine Bc_dec (fun h => by omega) (fun _ => ?_)
  (repeat with_reducible first | refine qq ?_ | refine qr ?_ | refine qs ?_ | refine hw1.l 5 ?_)
  refine Bc_dec (fun hk => ?_) (fun _ => J)
  (repeat with_reducible first | refine qq ?_ | refine qr ?_ | refine qs ?_ | refine hw1.l 5 ?_)
  rw [decide_eq_false (by omega)]
  exact J
end
end Go.Proofs.Ytedcfkigfcobaaa
end
/- Contracts: may a run be. -/
section
namespace Go.Proofs.Ytedcfkigfcobaaa
open Go Go.Proofs
attribute [local irreducible] Bc O AL BS MS MM ST AP CV Cl
theorem und172 : Try.prog.underlying 172 = some (.map 3 3) := by kernel_rfl
theorem und3 : Try.prog.underlying 3 = some (.int .i64) := by kernel_rfl
theorem zer3 : zer Try.prog 3 = some (.int .i64 0) := by kernel_rfl
theorem RunOK.uniq1 {T : List TK} {M : List MK} (h : RunOK T M) {i j : Nat} {m n : MK} (hm : M[i]? = some m) (hn : M[j]? = some n) (k1 : m.kind = 1) (k2 : n.kind = 1) (ht : m.task = n.task) : i = j := by
  rcases Nat.lt_trichotomy i j with hh | hh | hh
  · exact absurd ⟨ht, k1⟩ ((h.mks j n hn).fst.1 k2 i m hh hm)
  · exact hh
  · exact absurd ⟨ht.symm, k2⟩ ((h.mks i m hm).fst.1 k1 j n hh hn)
theorem RunOK.uniq2 {T : List TK} {M : List MK} (h : RunOK T M) {i j : Nat} {m n : MK} (hm : M[i]? = some m) (hn : M[j]? = some n) (k1 : m.kind = 2) (k2 : n.kind = 2) (ht : m.task = n.task) : i = j := by
  rcases Nat.lt_trichotomy i j with hh | hh | hh
  · exact absurd k1 ((h.mks j n hn).noend i m hh hm ht)
  · exact hh
  · exact absurd k2 ((h.mks i m hm).noend j n hh hn ht.symm)
section
variable {B : Base} {w : World} {L : List Atom} {tv mv : Value} {T : List TK} {M : List MK}
set_option maxHeartbeats 4000000 in
set_option maxRecDepth 4000 in
theorem k80 {bv ev : Value} {lb : Nat} {bl el : List Int} (hw : Own B w (rA tv mv T M ++ (lkA tv mv bv ev lb bl el ++ L))) (hr : RunOK T M) (hb : BE T M M.length 1 bl) (he : BE T M M.length 2 el) (hT : T.length ≤ 256) (hML : M.length < 2 ^ 40) :
    Cl Try.prog 80 [pp lb] w fun v w' => v = .bool true ∧ Own B w' (rA tv mv T M ++ (lkA tv mv bv ev lb bl el ++ L)) := by
  obtain ⟨R, hR⟩ : ∃ R : Value → World → Prop, R = fun v w' => v = .bool true ∧ Own B w' (rA tv mv T M ++ (lkA tv mv bv ev lb bl el ++ L)) := ⟨_, rfl⟩
  rw [← hR]
  have hbl := hb.1
  have hel := he.1
  refine s80 ?_
  unfold c80
  refine hw.mm encI encI fun mb w1 hw1' => ?_
  have hw1 : Own B w1 (rA tv mv T M ++ (lkA tv mv bv ev lb bl el ++ (mpA encI encI mb (fun _ => none) :: L))) := hw1'.perm (List.perm_middle (l₁ := rA tv mv T M ++ lkA tv mv bv ev lb bl el)).symm
  clear hw1' hw
  (repeat with_reducible first | refine qq ?_ | refine qr ?_ | refine qs ?_ | refine hw1.l 2 ?_)
  refine O.mk (hw1.slLen 1 rfl) ?_
  obtain ⟨I0, hI⟩ : ∃ I : Value → World → Prop, I = fun v w' => ∃ (i : Nat) (g : Int → Option Int), v = .int .i64 i ∧ i ≤ M.length ∧ (∀ lo x, g lo = some x → ∃ (a : Nat) (n : MK) (t : TK), a < i ∧ M[a]? = some n ∧ n.kind = 1 ∧ n.task = x ∧ T[(x - 1).toNat]? = some t ∧ t.looper = lo) ∧ Own B w' (rA tv mv T M ++ (lkA tv mv bv ev lb bl el ++ (mpA encI encI mb g :: L))) := ⟨_, rfl⟩
  obtain ⟨m0, hm⟩ : ∃ m : Value → World → Nat, m = fun v _ => match v with | .int _ i => (M.length - i).toNat | _ => 0 := ⟨_, rfl⟩
  refine ⟨I0, m0, by rw [hI]; exact ⟨0, _, rfl, by omega, (fun lo x h => by cases h), hw1⟩, ?_⟩
  clear hw1
  intro t15 wh0 h0
  rw [hI] at h0
  obtain ⟨i, g, rfl, hi, hg, hw2⟩ := h0
  (repeat with_reducible first | refine qq ?_ | refine qr ?_ | refine qs ?_)
  refine Bc_dec (fun hlt => ?_) (fun hge => ?_)
  · obtain ⟨m, hmm⟩ := list_get (l := M) (j := i) (by omega)
    have hok := hr.mks i m hmm
    have htk := hok.task
    obtain ⟨bm, hixm, hrdm, hrdN⟩ := hw2.el 1 rfl encMK_len hmm
    refine O.mk (hixm _ _ (by omega) (by omega)) ?_
    rw [show ((i : Int)).toNat = i by omega]
    refine O.mk hrdN ?_
    refine hw2.al fun b5 w3 hb5 hw3' => ?_
    clear hrdm hrdN hixm
    have hw3 : Own B w3 (rA tv mv T M ++ (lkA tv mv bv ev lb bl el ++ (bk b5 67 [.int .i64 0, .int .i64 0, .int .i64 0, .int .i64 0, .int .i64 0, .int .i64 0, .int .i64 0, .bool false] :: mpA encI encI mb g :: L))) := hw3'.perm (List.perm_middle (l₁ := rA tv mv T M ++ lkA tv mv bv ev lb bl el)).symm
    clear hw3' hw2
    refine hw3.st_bk (x := .agg (encMK m).toArray) 5 rfl (by kernel_rfl) (encMK_one m) (Nat.le_refl 8) fun w4 hw4 => ?_
    clear hw3
    replace hw4 : Own B w4 (rA tv mv T M ++ (lkA tv mv bv ev lb bl el ++ (bk b5 67 (encMK m) :: mpA encI encI mb g :: L))) := hw4
    refine hw4.dr fun w5 hw5 => ?_
    clear hw4
    obtain ⟨t, ht⟩ := list_get (l := T) (j := (m.task - 1).toNat) (by omega)
    (repeat with_reducible first | refine qq ?_ | refine qr ?_ | refine qs ?_ | refine hw5.l 2 ?_ | refine hw5.l 5 ?_)
    obtain ⟨bt, hixt, hrdt, _⟩ := hw5.el 0 rfl encTK_len ht
    refine O.mk (hixt _ _ (by omega) rfl) ?_
    (repeat with_reducible first | refine qq ?_ | refine qr ?_ | refine qs ?_)
    refine O.mk (hrdt 4 _ rfl) ?_
    (repeat with_reducible first | refine qq ?_ | refine qr ?_ | refine qs ?_ | refine hw5.l 2 ?_ | refine hw5.l 5 ?_)
    clear hixt hrdt
    have JN : ∀ (g' : Int → Option Int) w', (∀ lo x, g' lo = some x → ∃ (a : Nat) (n : MK) (t : TK), a < i + 1 ∧ M[a]? = some n ∧ n.kind = 1 ∧ n.task = x ∧ T[(x - 1).toNat]? = some t ∧ t.looper = lo) → Own B w' (rA tv mv T M ++ (lkA tv mv bv ev lb bl el ++ (bk b5 67 (encMK m) :: mpA encI encI mb g' :: L))) → j80_0 R (.int .i64 i) I0 m0 wh0 w' := by
      intro g' w' hg' hw'
      unfold j80_0
      refine O.mk (bi_addb (a := i) (b := 1) (by omega)) ?_
      rw [hI, hm]
      exact ⟨⟨i + 1, g', rfl, by omega, hg', (hw'.perm (List.perm_middle (l₁ := rA tv mv T M ++ lkA tv mv bv ev lb bl el))).tail⟩, by simp only; omega⟩
    have hgw : ∀ lo x, g lo = some x → ∃ (a : Nat) (n : MK) (t : TK), a < i + 1 ∧ M[a]? = some n ∧ n.kind = 1 ∧ n.task = x ∧ T[(x - 1).toNat]? = some t ∧ t.looper = lo := fun lo x h => by
      obtain ⟨a, n, t, h1, h2⟩ := hg lo x h
      exact ⟨a, n, t, by omega, h2⟩
    have JS : ∀ w', m.kind = 1 → Own B w' (rA tv mv T M ++ (lkA tv mv bv ev lb bl el ++ (bk b5 67 (encMK m) :: mpA encI encI mb g :: L))) → j80_2 R (pp b5) (.map (some mb)) (.int .i64 t.looper) (.int .i64 i) I0 m0 wh0 (.bool false) w' := by
      intro w' hk hw'
      unfold j80_2
      refine Bc_f ?_
      (repeat with_reducible first | refine qq ?_ | refine qr ?_ | refine qs ?_ | refine hw'.l 5 ?_)
      refine hw'.mset 6 rfl (intKey und3) und172 t.looper m.task fun w6 hw6 => ?_
      refine JN _ w6 (fun lo x hx => ?_) hw6
      unfold upd at hx
      by_cases hlo : lo = t.looper
      · rw [if_pos hlo] at hx; cases hx
        exact ⟨i, m, t, by omega, hmm, hk, rfl, ht, hlo.symm⟩
      · rw [if_neg hlo] at hx
        exact hgw lo x hx
    have J1 : ∀ c, (c = false → m.kind = 1 ∧ 0 ≤ t.looper) → j80_1 R (.int .i64 i) I0 m0 wh0 (.map (some mb)) (.int .i64 t.looper) (pp lb) (pp b5) (.bool c) w5 := by
      intro c hc
      unfold j80_1
      refine Bc_b (fun _ => JN g _ hgw hw5) (fun h => ?_)
      obtain ⟨hk, hlo⟩ := hc h
      refine hw5.mlook 6 rfl (intKey und3) und172 zer3 t.looper false ?_
      refine hw5.dr fun w6 hw6 => ?_
      clear hw5
      rcases hgl : g t.looper with _ | o
      · show O (bi .gtr (.int .i64 0) (.int .i64 0)) _
        (repeat with_reducible first | refine qq ?_ | refine qr ?_ | refine qs ?_)
        refine Bc_dec (fun h => by omega) (fun _ => JS _ hk hw6)
      · show O (bi .gtr (.int .i64 o) (.int .i64 0)) _
        obtain ⟨a, n, u, ha, hn, hnk, hnt, hu, hul⟩ := hg _ _ hgl
        have hno := (hr.mks a n hn).task
        obtain ⟨e, n', h1, h2, h3, h4⟩ := hr.alone a i n m u t ha hn hmm hnk hk (by rw [hnt]; exact hu) ht (by omega) hul
        obtain ⟨ve, hve⟩ := list_get (l := el) (j := o.toNat) (by omega)
        obtain ⟨vb, hvb⟩ := list_get (l := bl) (j := m.task.toNat) (by omega)
        have hvee : ve = e := by
          rcases he.at_ (by omega) hve with ⟨_, h5⟩ | ⟨j, n2, h5, h6, h7, h8⟩
          · exact absurd ⟨by omega, h4⟩ (h5 e n' h2)
          · have := hr.uniq2 h6 h2 h8 h4 (by omega)
            omega
        have hvbi : vb = i := by
          rcases hb.at_ (by omega) hvb with ⟨_, h5⟩ | ⟨j, n2, h5, h6, h7, h8⟩
          · exact absurd ⟨rfl, hk⟩ (h5 i m hmm)
          · have := hr.uniq1 h6 hmm h8 hk (by omega)
            omega
        (repeat with_reducible first | refine qq ?_ | refine qr ?_ | refine qs ?_)
        refine Bc_dec (fun _ => ?_) (fun h => by omega)
        obtain ⟨b1, hix1, hrd1⟩ := hw6.eli 4 rfl hve
        (repeat with_reducible first | refine qq ?_ | refine qr ?_ | refine qs ?_ | refine hw6.l 2 ?_ | refine hw6.l 5 ?_)
        refine O.mk (hix1 _ _ (by omega) rfl) ?_
        refine O.mk hrd1 ?_
        (repeat with_reducible first | refine qq ?_ | refine qr ?_ | refine qs ?_)
        refine Bc_dec (fun h => by omega) (fun _ => ?_)
        (repeat with_reducible first | refine qq ?_ | refine qr ?_ | refine qs ?_ | refine hw6.l 2 ?_ | refine hw6.l 5 ?_)
        refine O.mk (hix1 _ _ (by omega) rfl) ?_
        refine O.mk hrd1 ?_
        (repeat with_reducible first | refine qq ?_ | refine qr ?_ | refine qs ?_ | refine hw6.l 2 ?_ | refine hw6.l 5 ?_)
        obtain ⟨b2, hix2, hrd2⟩ := hw6.eli 3 rfl hvb
        refine O.mk (hix2 _ _ (by omega) rfl) ?_
        refine O.mk hrd2 ?_
        (repeat with_reducible first | refine qq ?_ | refine qr ?_ | refine qs ?_)
        rw [decide_eq_false (by omega)]
        exact JS _ hk hw6
    refine Bc_dec (fun hk => J1 true (fun h => by cases h)) (fun hk => ?_)
    (repeat with_reducible first | refine qq ?_ | refine qr ?_ | refine qs ?_)
    refine J1 _ (fun h => ⟨by omega, ?_⟩)
    have : ¬ t.looper < 0 := by simpa using h
    omega
  · rw [hR]
    exact ⟨rfl, (hw2.perm (List.perm_middle (l₁ := rA tv mv T M ++ lkA tv mv bv ev lb bl el))).tail⟩
end
end Go.Proofs.Ytedcfkigfcobaaa
end
/- Contracts: may a run be, all of it. -/
section
namespace Go.Proofs.Ytedcfkigfcobaaa
open Go Go.Proofs
attribute [local irreducible] Bc O AL BS MS MM ST AP CV Cl
theorem fill169 {a b c d : Value} (ha : one a = true) (hb : one b = true) (hc : one c = true) (hd : one d = true) : (fillW Try.prog 169 [(0, runV a b), (1, c), (2, d)]).map Value.agg = some (.agg #[a, b, c, d]) := by
  cases c <;> first | (cases hc; done) | (cases d <;> first | (cases hd; done) | kernel_rfl)
section
variable {B : Base} {w : World} {L : List Atom} {tv mv : Value} {T : List TK} {M : List MK}
set_option maxHeartbeats 4000000 in
set_option maxRecDepth 4000 in
theorem k54 (hw : Own B w (rA tv mv T M ++ L)) (hr : RunOK T M) (hT : T.length ≤ 256) (hML : M.length ≤ 60000) :
    Cl Try.prog 54 [runV tv mv] w fun v w' => v = .bool true ∧ Own B w' (rA tv mv T M ++ L) := by
  obtain ⟨R, hR⟩ : ∃ R : Value → World → Prop, R = fun v w' => v = .bool true ∧ Own B w' (rA tv mv T M ++ L) := ⟨_, rfl⟩
  rw [← hR]
  have htv := sl_one hw 0 rfl
  have hmv := sl_one hw 1 rfl
  refine s54 ?_
  unfold c54
  refine hw.al fun b1 w1 hb1 hw1' => ?_
  have hw1 : Own B w1 (rA tv mv T M ++ (bk b1 52 [tv, mv] :: L)) := hw1'.perm (List.perm_middle (l₁ := rA tv mv T M)).symm
  clear hw1' hw
  (repeat with_reducible first | refine qq ?_ | refine qr ?_ | refine qs ?_ | refine hw1.l 2 ?_)
  refine O.mk (hw1.slLen 0 rfl) ?_
  (repeat with_reducible first | refine qq ?_ | refine qr ?_ | refine qs ?_)
  refine Bc_dec (fun h => by omega) (fun _ => ?_)
  (repeat with_reducible first | refine qq ?_ | refine qr ?_ | refine qs ?_ | refine hw1.l 2 ?_)
  refine O.mk (hw1.slLen 1 rfl) ?_
  (repeat with_reducible first | refine qq ?_ | refine qr ?_ | refine qs ?_)
  rw [decide_eq_false (by omega)]
  unfold j54_0
  refine Bc_f ?_
  refine hw1.dr fun w2 hw2 => ?_
  clear hw1
  refine O.mk (v := runV tv mv) (hw2.rdN_bk 2 rfl (Nat.le_refl 2)) ?_
  (repeat with_reducible first | refine qq ?_ | refine qr ?_ | refine qs ?_ | refine hw2.l 2 ?_)
  refine O.mk (hw2.slLen 0 rfl) ?_
  refine O.mk (bi_addb (a := T.length) (b := 1) (by omega)) ?_
  (repeat with_reducible first | refine qq ?_ | refine qr ?_ | refine qs ?_ | refine hw2.l 2 ?_)
  refine O.mk (hw2.slLen 0 rfl) ?_
  refine O.mk (bi_addb (a := T.length) (b := 1) (by omega)) ?_
  have J1 : ∀ (lb : Nat) (bv ev : Value) w3, Own B w3 (rA tv mv T M ++ (lkA tv mv bv ev lb (List.replicate (T.length + 1) 0) (List.replicate (T.length + 1) 0) ++ (bk b1 52 [tv, mv] :: L))) → j54_1 R (pp b1) (pp lb) w3 := by
    intro lb bv ev w3 hw3
    unfold j54_1
    (repeat with_reducible first | refine qq ?_ | refine qr ?_ | refine qs ?_ | refine hw3.l 2 ?_)
    refine O.mk (hw3.slLen 3 rfl) ?_
    obtain ⟨I0, hI⟩ : ∃ I : Value → World → Prop, I = fun v w' => ∃ (i : Nat) (bl el : List Int), v = .int .i64 i ∧ i ≤ T.length + 1 ∧ bl.length = T.length + 1 ∧ el.length = T.length + 1 ∧ (∀ (j : Nat), j < i → bl[j]? = some (-1) ∧ el[j]? = some (-1)) ∧ Own B w' (rA tv mv T M ++ (lkA tv mv bv ev lb bl el ++ (bk b1 52 [tv, mv] :: L))) := ⟨_, rfl⟩
    obtain ⟨m0, hm⟩ : ∃ m : Value → World → Nat, m = fun v _ => match v with | .int _ i => (T.length + 1 - i).toNat | _ => 0 := ⟨_, rfl⟩
    refine ⟨I0, m0, by rw [hI]; exact ⟨0, _, _, rfl, by omega, by simp, by simp, fun j h => by omega, hw3⟩, ?_⟩
    clear hw3
    intro t37 wh0 h0
    rw [hI] at h0
    obtain ⟨i, bl, el, rfl, hi, hbl, hel, hall, hw4⟩ := h0
    rw [List.length_replicate]
    (repeat with_reducible first | refine qq ?_ | refine qr ?_ | refine qs ?_)
    refine Bc_dec (fun hlt => ?_) (fun hge => ?_)
    · refine hw4.dr fun w5 hw5 => ?_
      clear hw4
      (repeat with_reducible first | refine qq ?_ | refine qr ?_ | refine qs ?_ | refine hw5.l 2 ?_)
      obtain ⟨vb, hvb⟩ := list_get (l := bl) (j := i) (by omega)
      obtain ⟨ve, hve⟩ := list_get (l := el) (j := i) (by omega)
      obtain ⟨ba, hix1, _⟩ := hw5.eli 3 rfl hvb
      refine O.mk (hix1 _ _ (by omega) (by omega)) ?_
      refine hw5.elsti 3 rfl (list_lt hvb) (-1) (hix1 .i64 (i : Int) (by omega) (by omega)) (by omega) tsz3 fun w6 hw6 => ?_
      clear hw5
      obtain ⟨bb', hix2, _⟩ := hw6.eli 4 rfl hve
      refine O.mk (hix2 _ _ (by omega) (by omega)) ?_
      refine hw6.elsti 4 rfl (list_lt hve) (-1) (hix2 .i64 (i : Int) (by omega) (by omega)) (by omega) tsz3 fun w7 hw7 => ?_
      clear hw6
      refine O.mk (bi_addb (a := i) (b := 1) (by omega)) ?_
      rw [hI, hm]
      refine ⟨⟨i + 1, bl.set i (-1), el.set i (-1), rfl, by omega, by simpa using hbl, by simpa using hel, fun j hj => ?_, hw7⟩, by simp only; omega⟩
      rw [List.getElem?_set, List.getElem?_set]
      by_cases hij : i = j
      · subst hij
        rw [if_pos rfl, if_pos rfl, if_pos (list_lt hvb), if_pos (list_lt hve)]
        exact ⟨rfl, rfl⟩
      · rw [if_neg hij, if_neg hij]
        exact hall j (by omega)
    · have hie : i = T.length + 1 := by omega
      have hb0 : BE T M 0 1 bl := ⟨hbl, fun x v hv => by
        have := (hall x (by have := list_lt hv; omega)).1
        rw [hv] at this; cases this
        exact .inl ⟨rfl, fun j n h => by omega⟩⟩
      have he0 : BE T M 0 2 el := ⟨hel, fun x v hv => by
        have := (hall x (by have := list_lt hv; omega)).2
        rw [hv] at this; cases this
        exact .inl ⟨rfl, fun j n h => by omega⟩⟩
      clear hall hge hie hi
      (repeat with_reducible first | refine qq ?_ | refine qr ?_ | refine qs ?_ | refine hw4.l 5 ?_)
      refine O.mk (hw4.slLen 1 rfl) ?_
      obtain ⟨I1, hI1⟩ : ∃ I : Value → World → Prop, I = fun v w' => ∃ (i : Nat) (bl el : List Int), v = .int .i64 i ∧ i ≤ M.length ∧ BE T M i 1 bl ∧ BE T M i 2 el ∧ Own B w' (rA tv mv T M ++ (lkA tv mv bv ev lb bl el ++ (bk b1 52 [tv, mv] :: L))) := ⟨_, rfl⟩
      obtain ⟨m1, hm1⟩ : ∃ m : Value → World → Nat, m = fun v _ => match v with | .int _ i => (M.length - i).toNat | _ => 0 := ⟨_, rfl⟩
      refine ⟨I1, m1, by rw [hI1]; exact ⟨0, bl, el, rfl, by omega, hb0, he0, hw4⟩, ?_⟩
      clear hw4 hb0 he0 hbl hel bl el
      intro t56 wh1 h1
      rw [hI1] at h1
      obtain ⟨i, bl, el, rfl, hi, hb, he, hw5⟩ := h1
      (repeat with_reducible first | refine qq ?_ | refine qr ?_ | refine qs ?_)
      refine Bc_dec (fun hlt => ?_) (fun hge => ?_)
      · obtain ⟨m, hmm⟩ := list_get (l := M) (j := i) (by omega)
        obtain ⟨bm, hixm, hrdm, hrdN⟩ := hw5.el 1 rfl encMK_len hmm
        refine O.mk (hixm _ _ (by omega) (by omega)) ?_
        rw [show ((i : Int)).toNat = i by omega]
        refine O.mk hrdN ?_
        refine hw5.al fun b6 w6 hb6 hw6' => ?_
        clear hrdm hrdN hixm
        have hw6 : Own B w6 (rA tv mv T M ++ (lkA tv mv bv ev lb bl el ++ (bk b6 67 [.int .i64 0, .int .i64 0, .int .i64 0, .int .i64 0, .int .i64 0, .int .i64 0, .int .i64 0, .bool false] :: bk b1 52 [tv, mv] :: L))) := hw6'.perm (List.perm_middle (l₁ := rA tv mv T M ++ lkA tv mv bv ev lb bl el)).symm
        clear hw6' hw5
        refine hw6.st_bk (x := .agg (encMK m).toArray) 5 rfl (by kernel_rfl) (encMK_one m) (Nat.le_refl 8) fun w7 hw7 => ?_
        clear hw6
        replace hw7 : Own B w7 (rA tv mv T M ++ (lkA tv mv bv ev lb bl el ++ (bk b6 67 (encMK m) :: bk b1 52 [tv, mv] :: L))) := hw7
        refine O.mk (v := .agg (encMK m).toArray) (hw7.rdN_bk 5 rfl (Nat.le_refl 8)) ?_
        refine (k77 hw7 hmm (hr.mks i m hmm) hb he hT).use ?_
        rintro _ w8 ⟨rfl, bl', el', hb', he', hw8⟩
        (repeat with_reducible first | refine qq ?_ | refine qr ?_ | refine qs ?_)
        refine Bc_f ?_
        refine O.mk (bi_addb (a := i) (b := 1) (by omega)) ?_
        rw [hI1, hm1]
        exact ⟨⟨i + 1, bl', el', rfl, by omega, hb', he', (hw8.perm (List.perm_middle (l₁ := rA tv mv T M ++ lkA tv mv bv ev lb bl' el'))).tail⟩, by simp only; omega⟩
      · have hie : i = M.length := by omega
        subst hie
        (repeat with_reducible first | refine qq ?_ | refine qr ?_ | refine qs ?_ | refine hw5.l 5 ?_)
        refine O.mk (hw5.slLen 0 rfl) ?_
        obtain ⟨I2, hI2⟩ : ∃ I : Value → World → Prop, I = fun v w' => ∃ (i : Nat), v = .int .i64 i ∧ i ≤ T.length ∧ Own B w' (rA tv mv T M ++ (lkA tv mv bv ev lb bl el ++ (bk b1 52 [tv, mv] :: L))) := ⟨_, rfl⟩
        obtain ⟨m2, hm2⟩ : ∃ m : Value → World → Nat, m = fun v _ => match v with | .int _ i => (T.length - i).toNat | _ => 0 := ⟨_, rfl⟩
        refine ⟨I2, m2, by rw [hI2]; exact ⟨0, rfl, by omega, hw5⟩, ?_⟩
        clear hw5
        intro t70 wh2 h2
        rw [hI2] at h2
        obtain ⟨i, rfl, hi2, hw6⟩ := h2
        (repeat with_reducible first | refine qq ?_ | refine qr ?_ | refine qs ?_)
        refine Bc_dec (fun hlt => ?_) (fun hge2 => ?_)
        · obtain ⟨t, ht⟩ := list_get (l := T) (j := i) (by omega)
          have htr := hr.tk i t ht
          have hkd := htr.kind
          obtain ⟨bm, hixm, hrdm, hrdN⟩ := hw6.el 0 rfl encTK_len ht
          refine O.mk (hixm _ _ (by omega) (by omega)) ?_
          rw [show ((i : Int)).toNat = i by omega]
          refine O.mk hrdN ?_
          refine hw6.al fun b8 w7 hb8 hw7' => ?_
          clear hrdm hrdN hixm
          have hw7 : Own B w7 (rA tv mv T M ++ (lkA tv mv bv ev lb bl el ++ (bk b8 73 [.int .i64 0, .int .i64 0, .int .i64 0, .int .i64 0, .int .i64 0, .int .i64 0, .int .i64 0, .bool false, .int .i64 0, .int .i64 0, .int .i64 0, .int .i64 0, .int .i64 0, .int .i64 0, .int .i64 0] :: bk b1 52 [tv, mv] :: L))) := hw7'.perm (List.perm_middle (l₁ := rA tv mv T M ++ lkA tv mv bv ev lb bl el)).symm
          clear hw7' hw6
          refine hw7.st_bk (x := .agg (encTK t).toArray) 5 rfl (by kernel_rfl) (encTK_one t) (Nat.le_refl 15) fun w8 hw8 => ?_
          clear hw7
          replace hw8 : Own B w8 (rA tv mv T M ++ (lkA tv mv bv ev lb bl el ++ (bk b8 73 (encTK t) :: bk b1 52 [tv, mv] :: L))) := hw8
          (repeat with_reducible first | refine qq ?_ | refine qr ?_ | refine qs ?_ | refine hw8.l 5 ?_)
          refine Bc_dec (fun h => by omega) (fun _ => ?_)
          (repeat with_reducible first | refine qq ?_ | refine qr ?_ | refine qs ?_ | refine hw8.l 5 ?_)
          refine Bc_dec (fun h => by omega) (fun _ => ?_)
          (repeat with_reducible first | refine qq ?_ | refine qr ?_ | refine qs ?_ | refine hw8.l 5 ?_)
          have hbb : bb .neq (.bool (decide (t.kind = 5))) (.bool (decide (t.looper < 0))) = some (.bool false) := by
            have : decide (t.kind = 5) = decide (t.looper < 0) := by rw [decide_eq_decide]; exact htr.lo
            rw [this]; simp [bb]
          refine O.mk hbb ?_
          refine Bc_f ?_
          refine O.mk (bi_addb (a := i) (b := 1) (by omega)) ?_
          refine O.mk (v := .agg (encTK t).toArray) (hw8.rdN_bk 5 rfl (Nat.le_refl 15)) ?_
          refine (k78 hw8 ht htr hb hT).use ?_
          rintro _ w9 ⟨rfl, hw9⟩
          clear hw8
          (repeat with_reducible first | refine qq ?_ | refine qr ?_ | refine qs ?_)
          refine Bc_f ?_
          refine O.mk (bi_addb (a := i) (b := 1) (by omega)) ?_
          refine O.mk (v := .agg (encTK t).toArray) (hw9.rdN_bk 5 rfl (Nat.le_refl 15)) ?_
          refine (k79 hw9 ht htr hr.mks hb he hT).use ?_
          rintro _ w10 ⟨rfl, hw10⟩
          clear hw9
          (repeat with_reducible first | refine qq ?_ | refine qr ?_ | refine qs ?_)
          unfold j54_2
          refine Bc_f ?_
          refine O.mk (bi_addb (a := i) (b := 1) (by omega)) ?_
          rw [hI2, hm2]
          exact ⟨⟨i + 1, rfl, by omega, (hw10.perm (List.perm_middle (l₁ := rA tv mv T M ++ lkA tv mv bv ev lb bl el))).tail⟩, by simp only; omega⟩
        · refine (k80 hw6 hr hb he hT (by omega)).use ?_
          rintro _ w7 ⟨rfl, hw7⟩
          rw [hR]
          refine ⟨rfl, ?_⟩
          have h3 : Own B w7 ((rA tv mv T M ++ (lkA tv mv bv ev lb bl el ++ (bk b1 52 [tv, mv] :: L)))) := hw7
          exact (((h3.drop 2).drop 2).drop 2).drop 2
  have J2 : ∀ (bv ev : Value) w4, Own B w4 (sl 3 1 bv (T.length + 1) (ints (List.replicate (T.length + 1) 0)) :: sl 3 1 ev (T.length + 1) (ints (List.replicate (T.length + 1) 0)) :: (rA tv mv T M ++ (bk b1 52 [tv, mv] :: L))) →
      O ((fillW Try.prog 169 [(0, runV tv mv), (1, bv), (2, ev)]).map .agg) fun t30 => AL (.cells (Value.cells t30) 169) w4 fun t31 w => j54_1 R (pp b1) t31 w := by
    intro bv ev w4 hw4
    refine O.mk (fill169 htv hmv (sl_one hw4 0 rfl) (sl_one hw4 1 rfl)) ?_
    refine hw4.al fun lb w5 hlb hw5 => ?_
    refine J1 lb bv ev w5 ?_
    have h1 := hw5.perm (List.perm_append_comm (l₁ := [bk lb 169 [tv, mv, bv, ev], sl 3 1 bv (T.length + 1) (ints (List.replicate (T.length + 1) 0)), sl 3 1 ev (T.length + 1) (ints (List.replicate (T.length + 1) 0))] ++ rA tv mv T M) (l₂ := bk b1 52 [tv, mv] :: L))
    have h2 := hw5.perm ((List.perm_append_comm (l₁ := [bk lb 169 [tv, mv, bv, ev], sl 3 1 bv (T.length + 1) (ints (List.replicate (T.length + 1) 0)), sl 3 1 ev (T.length + 1) (ints (List.replicate (T.length + 1) 0))]) (l₂ := rA tv mv T M)).append_right (bk b1 52 [tv, mv] :: L))
    unfold lkA
    rw [List.length_replicate]
    exact h2
  have ez : ints (List.replicate (T.length + 1) 0) = ints (List.replicate (T.length + 1) 0) := rfl
  refine ⟨?_, ?_⟩
  · refine hw2.mks (e := 3) (sz := 1) (bytes := 8) (n := T.length + 1) (z := .int .i64 0) (by decide) rfl (by omega) (by omega) fun bv w3 hw3 => ?_
    rw [ints_zero] at hw3
    refine hw3.mks (e := 3) (sz := 1) (bytes := 8) (n := T.length + 1) (z := .int .i64 0) (by decide) rfl (by omega) (by omega) fun ev w4 hw4 => ?_
    rw [ints_zero] at hw4
    exact J2 bv ev w4 (hw4.perm (List.Perm.swap _ _ _))
  · refine hw2.mks (e := 3) (sz := 1) (bytes := 8) (n := T.length + 1) (z := .int .i64 0) (by decide) rfl (by omega) (by omega) fun ev w3 hw3 => ?_
    rw [ints_zero] at hw3
    refine hw3.mks (e := 3) (sz := 1) (bytes := 8) (n := T.length + 1) (z := .int .i64 0) (by decide) rfl (by omega) (by omega) fun bv w4 hw4 => ?_
    rw [ints_zero] at hw4
    exact J2 bv ev w4 hw4
theorem k29 (hw : Own B w (rA tv mv T M ++ L)) (hr : RunOK T M) (hT : T.length ≤ 256) (hML : M.length ≤ 1200) :
    Cl Try.prog 29 [runV tv mv] w fun v w' => v = .int .i64 0 ∧ Own B w' (rA tv mv T M ++ L) := by
  refine s29 ?_
  unfold c29
  refine hw.al fun b1 w1 hb1 hw1' => ?_
  have hw1 : Own B w1 (rA tv mv T M ++ (bk b1 52 [tv, mv] :: L)) := hw1'.perm (List.perm_middle (l₁ := rA tv mv T M)).symm
  clear hw1' hw
  refine O.mk (v := runV tv mv) (hw1.rdN_bk 2 rfl (Nat.le_refl 2)) ?_
  refine (k54 hw1 hr hT (by omega)).use ?_
  rintro _ w2 ⟨rfl, hw2⟩
  clear hw1
  (repeat with_reducible first | refine qq ?_ | refine qr ?_ | refine qs ?_)
  refine Bc_f ?_
  (repeat with_reducible first | refine qq ?_ | refine qr ?_ | refine qs ?_ | refine hw2.l 2 ?_)
  refine O.mk (hw2.slLen 1 rfl) ?_
  (repeat with_reducible first | refine qq ?_ | refine qr ?_ | refine qs ?_)
  refine Bc_dec (fun h => by omega) (fun _ => ?_)
  exact ⟨rfl, hw2.drop 2⟩
end
end Go.Proofs.Ytedcfkigfcobaaa
end
/- Printed by wip/tools/gen.py: the bodies of functions 58 59 61 57 60 with named temporaries, tied to the loaded program. -/
section
set_option maxRecDepth 100000
namespace Go.Proofs.Ytedcfkigfcobaaa
open Go Go.Proofs
def j58_0 (R : Value → World → Prop) (t1 : Value) (t2 : Value) (t0 : Value) (t7 : Value) (t8 : Value) (w : World) : Prop :=
 Dr w fun w =>
 O (bi .neq t1 t2) fun t29 =>
 Bc t29
 (O (fA 4 t7) fun t31 =>
 O (rd1 t31 w) fun t32 =>
 O (bi .geq t32 (.int .i64 0)) fun t33 =>
 Bc t33
 (O (fA 4 t7) fun t36 =>
 O (rd1 t36 w) fun t37 =>
 O (fA 4 t8) fun t38 =>
 O (rd1 t38 w) fun t39 =>
 O (bi .eql t37 t39) fun t40 =>
 Bc t40
 (O (nC t0) fun t44 =>
 O (fA 4 t44) fun t45 =>
 O (rd1 t45 w) fun t46 =>
 O (iS 1 t46 t1) fun t48 =>
 O (rd1 t48 w) fun t49 =>
 O (bi .geq t49 (.int .i64 0)) fun t50 =>
 Bc t50
 (O (nC t0) fun t54 =>
 O (fA 3 t54) fun t55 =>
 O (rd1 t55 w) fun t56 =>
 O (iS 1 t56 t2) fun t58 =>
 O (rd1 t58 w) fun t59 =>
 O (nC t0) fun t61 =>
 O (fA 4 t61) fun t62 =>
 O (rd1 t62 w) fun t63 =>
 O (iS 1 t63 t1) fun t65 =>
 O (rd1 t65 w) fun t66 =>
 O (bi .gtr t59 t66) fun t67 =>
 R t67 w)
 (R (.bool false) w))
 (R (.bool false) w))
 (R (.bool false) w))
 (R (.bool false) w)
def c58 (R : Value → World → Prop) (t0 : Value) (t1 : Value) (t2 : Value) (w : World) : Prop :=
 Dr w fun w =>
 O (nC t0) fun t10 =>
 O (fA 0 t10) fun t11 =>
 O (fA 0 t11) fun t12 =>
 O (rd1 t12 w) fun t13 =>
 O (bi .sub t1 (.int .i64 1)) fun t15 =>
 O (iS 15 t13 t15) fun t16 =>
 O (rdN 15 t16 w) fun t17 =>
 O (nC t0) fun t19 =>
 O (fA 0 t19) fun t20 =>
 O (fA 0 t20) fun t21 =>
 O (bi .sub t2 (.int .i64 1)) fun t24 =>
 (O (rd1 t21 w) fun t22 =>
 O (iS 15 t22 t24) fun t25 =>
 (O (rdN 15 t25 w) fun t26 =>
 (AL (.cells #[.int .i64 0, .int .i64 0, .int .i64 0, .int .i64 0, .int .i64 0, .int .i64 0, .int .i64 0, .bool false, .int .i64 0, .int .i64 0, .int .i64 0, .int .i64 0, .int .i64 0, .int .i64 0, .int .i64 0] 73) w fun t7 w =>
 AL (.cells #[.int .i64 0, .int .i64 0, .int .i64 0, .int .i64 0, .int .i64 0, .int .i64 0, .int .i64 0, .bool false, .int .i64 0, .int .i64 0, .int .i64 0, .int .i64 0, .int .i64 0, .int .i64 0, .int .i64 0] 73) w fun t8 w =>
 ST Try.prog 73 t7 t17 w fun _ w =>
 ST Try.prog 73 t8 t26 w fun _ w =>
 j58_0 R t1 t2 t0 t7 t8 w) ∧
 (AL (.cells #[.int .i64 0, .int .i64 0, .int .i64 0, .int .i64 0, .int .i64 0, .int .i64 0, .int .i64 0, .bool false, .int .i64 0, .int .i64 0, .int .i64 0, .int .i64 0, .int .i64 0, .int .i64 0, .int .i64 0] 73) w fun t8 w =>
 AL (.cells #[.int .i64 0, .int .i64 0, .int .i64 0, .int .i64 0, .int .i64 0, .int .i64 0, .int .i64 0, .bool false, .int .i64 0, .int .i64 0, .int .i64 0, .int .i64 0, .int .i64 0, .int .i64 0, .int .i64 0] 73) w fun t7 w =>
 ST Try.prog 73 t7 t17 w fun _ w =>
 ST Try.prog 73 t8 t26 w fun _ w =>
 j58_0 R t1 t2 t0 t7 t8 w)) ∧
 (AL (.cells #[.int .i64 0, .int .i64 0, .int .i64 0, .int .i64 0, .int .i64 0, .int .i64 0, .int .i64 0, .bool false, .int .i64 0, .int .i64 0, .int .i64 0, .int .i64 0, .int .i64 0, .int .i64 0, .int .i64 0] 73) w fun t7 w =>
 (O (rdN 15 t25 w) fun t26 =>
 AL (.cells #[.int .i64 0, .int .i64 0, .int .i64 0, .int .i64 0, .int .i64 0, .int .i64 0, .int .i64 0, .bool false, .int .i64 0, .int .i64 0, .int .i64 0, .int .i64 0, .int .i64 0, .int .i64 0, .int .i64 0] 73) w fun t8 w =>
 ST Try.prog 73 t7 t17 w fun _ w =>
 ST Try.prog 73 t8 t26 w fun _ w =>
 j58_0 R t1 t2 t0 t7 t8 w) ∧
 (AL (.cells #[.int .i64 0, .int .i64 0, .int .i64 0, .int .i64 0, .int .i64 0, .int .i64 0, .int .i64 0, .bool false, .int .i64 0, .int .i64 0, .int .i64 0, .int .i64 0, .int .i64 0, .int .i64 0, .int .i64 0] 73) w fun t8 w =>
 (O (rdN 15 t25 w) fun t26 =>
 ST Try.prog 73 t7 t17 w fun _ w =>
 ST Try.prog 73 t8 t26 w fun _ w =>
 j58_0 R t1 t2 t0 t7 t8 w) ∧
 (ST Try.prog 73 t7 t17 w fun _ w =>
 O (rdN 15 t25 w) fun t26 =>
 ST Try.prog 73 t8 t26 w fun _ w =>
 j58_0 R t1 t2 t0 t7 t8 w))) ∧
 (AL (.cells #[.int .i64 0, .int .i64 0, .int .i64 0, .int .i64 0, .int .i64 0, .int .i64 0, .int .i64 0, .bool false, .int .i64 0, .int .i64 0, .int .i64 0, .int .i64 0, .int .i64 0, .int .i64 0, .int .i64 0] 73) w fun t8 w =>
 (O (rdN 15 t25 w) fun t26 =>
 AL (.cells #[.int .i64 0, .int .i64 0, .int .i64 0, .int .i64 0, .int .i64 0, .int .i64 0, .int .i64 0, .bool false, .int .i64 0, .int .i64 0, .int .i64 0, .int .i64 0, .int .i64 0, .int .i64 0, .int .i64 0] 73) w fun t7 w =>
 ST Try.prog 73 t7 t17 w fun _ w =>
 ST Try.prog 73 t8 t26 w fun _ w =>
 j58_0 R t1 t2 t0 t7 t8 w) ∧
 (AL (.cells #[.int .i64 0, .int .i64 0, .int .i64 0, .int .i64 0, .int .i64 0, .int .i64 0, .int .i64 0, .bool false, .int .i64 0, .int .i64 0, .int .i64 0, .int .i64 0, .int .i64 0, .int .i64 0, .int .i64 0] 73) w fun t7 w =>
 (O (rdN 15 t25 w) fun t26 =>
 ST Try.prog 73 t7 t17 w fun _ w =>
 ST Try.prog 73 t8 t26 w fun _ w =>
 j58_0 R t1 t2 t0 t7 t8 w) ∧
 (ST Try.prog 73 t7 t17 w fun _ w =>
 O (rdN 15 t25 w) fun t26 =>
 ST Try.prog 73 t8 t26 w fun _ w =>
 j58_0 R t1 t2 t0 t7 t8 w)))) ∧
 (AL (.cells #[.int .i64 0, .int .i64 0, .int .i64 0, .int .i64 0, .int .i64 0, .int .i64 0, .int .i64 0, .bool false, .int .i64 0, .int .i64 0, .int .i64 0, .int .i64 0, .int .i64 0, .int .i64 0, .int .i64 0] 73) w fun t7 w =>
 (O (rd1 t21 w) fun t22 =>
 O (iS 15 t22 t24) fun t25 =>
 (O (rdN 15 t25 w) fun t26 =>
 AL (.cells #[.int .i64 0, .int .i64 0, .int .i64 0, .int .i64 0, .int .i64 0, .int .i64 0, .int .i64 0, .bool false, .int .i64 0, .int .i64 0, .int .i64 0, .int .i64 0, .int .i64 0, .int .i64 0, .int .i64 0] 73) w fun t8 w =>
 ST Try.prog 73 t7 t17 w fun _ w =>
 ST Try.prog 73 t8 t26 w fun _ w =>
 j58_0 R t1 t2 t0 t7 t8 w) ∧
 (AL (.cells #[.int .i64 0, .int .i64 0, .int .i64 0, .int .i64 0, .int .i64 0, .int .i64 0, .int .i64 0, .bool false, .int .i64 0, .int .i64 0, .int .i64 0, .int .i64 0, .int .i64 0, .int .i64 0, .int .i64 0] 73) w fun t8 w =>
 (O (rdN 15 t25 w) fun t26 =>
 ST Try.prog 73 t7 t17 w fun _ w =>
 ST Try.prog 73 t8 t26 w fun _ w =>
 j58_0 R t1 t2 t0 t7 t8 w) ∧
 (ST Try.prog 73 t7 t17 w fun _ w =>
 O (rdN 15 t25 w) fun t26 =>
 ST Try.prog 73 t8 t26 w fun _ w =>
 j58_0 R t1 t2 t0 t7 t8 w))) ∧
 (AL (.cells #[.int .i64 0, .int .i64 0, .int .i64 0, .int .i64 0, .int .i64 0, .int .i64 0, .int .i64 0, .bool false, .int .i64 0, .int .i64 0, .int .i64 0, .int .i64 0, .int .i64 0, .int .i64 0, .int .i64 0] 73) w fun t8 w =>
 (O (rd1 t21 w) fun t22 =>
 O (iS 15 t22 t24) fun t25 =>
 (O (rdN 15 t25 w) fun t26 =>
 ST Try.prog 73 t7 t17 w fun _ w =>
 ST Try.prog 73 t8 t26 w fun _ w =>
 j58_0 R t1 t2 t0 t7 t8 w) ∧
 (ST Try.prog 73 t7 t17 w fun _ w =>
 O (rdN 15 t25 w) fun t26 =>
 ST Try.prog 73 t8 t26 w fun _ w =>
 j58_0 R t1 t2 t0 t7 t8 w)) ∧
 (ST Try.prog 73 t7 t17 w fun _ w =>
 O (rd1 t21 w) fun t22 =>
 O (iS 15 t22 t24) fun t25 =>
 O (rdN 15 t25 w) fun t26 =>
 ST Try.prog 73 t8 t26 w fun _ w =>
 j58_0 R t1 t2 t0 t7 t8 w))) ∧
 (AL (.cells #[.int .i64 0, .int .i64 0, .int .i64 0, .int .i64 0, .int .i64 0, .int .i64 0, .int .i64 0, .bool false, .int .i64 0, .int .i64 0, .int .i64 0, .int .i64 0, .int .i64 0, .int .i64 0, .int .i64 0] 73) w fun t8 w =>
 (O (rd1 t21 w) fun t22 =>
 O (iS 15 t22 t24) fun t25 =>
 (O (rdN 15 t25 w) fun t26 =>
 AL (.cells #[.int .i64 0, .int .i64 0, .int .i64 0, .int .i64 0, .int .i64 0, .int .i64 0, .int .i64 0, .bool false, .int .i64 0, .int .i64 0, .int .i64 0, .int .i64 0, .int .i64 0, .int .i64 0, .int .i64 0] 73) w fun t7 w =>
 ST Try.prog 73 t7 t17 w fun _ w =>
 ST Try.prog 73 t8 t26 w fun _ w =>
 j58_0 R t1 t2 t0 t7 t8 w) ∧
 (AL (.cells #[.int .i64 0, .int .i64 0, .int .i64 0, .int .i64 0, .int .i64 0, .int .i64 0, .int .i64 0, .bool false, .int .i64 0, .int .i64 0, .int .i64 0, .int .i64 0, .int .i64 0, .int .i64 0, .int .i64 0] 73) w fun t7 w =>
 (O (rdN 15 t25 w) fun t26 =>
 ST Try.prog 73 t7 t17 w fun _ w =>
 ST Try.prog 73 t8 t26 w fun _ w =>
 j58_0 R t1 t2 t0 t7 t8 w) ∧
 (ST Try.prog 73 t7 t17 w fun _ w =>
 O (rdN 15 t25 w) fun t26 =>
 ST Try.prog 73 t8 t26 w fun _ w =>
 j58_0 R t1 t2 t0 t7 t8 w))) ∧
 (AL (.cells #[.int .i64 0, .int .i64 0, .int .i64 0, .int .i64 0, .int .i64 0, .int .i64 0, .int .i64 0, .bool false, .int .i64 0, .int .i64 0, .int .i64 0, .int .i64 0, .int .i64 0, .int .i64 0, .int .i64 0] 73) w fun t7 w =>
 (O (rd1 t21 w) fun t22 =>
 O (iS 15 t22 t24) fun t25 =>
 (O (rdN 15 t25 w) fun t26 =>
 ST Try.prog 73 t7 t17 w fun _ w =>
 ST Try.prog 73 t8 t26 w fun _ w =>
 j58_0 R t1 t2 t0 t7 t8 w) ∧
 (ST Try.prog 73 t7 t17 w fun _ w =>
 O (rdN 15 t25 w) fun t26 =>
 ST Try.prog 73 t8 t26 w fun _ w =>
 j58_0 R t1 t2 t0 t7 t8 w)) ∧
 (ST Try.prog 73 t7 t17 w fun _ w =>
 O (rd1 t21 w) fun t22 =>
 O (iS 15 t22 t24) fun t25 =>
 O (rdN 15 t25 w) fun t26 =>
 ST Try.prog 73 t8 t26 w fun _ w =>
 j58_0 R t1 t2 t0 t7 t8 w)))
def p58 : Plan := .seq (.leaf) (.join [7, 8] [0, 1, 2] (.tree [0, 1, 3, 7, 15, 0, 32, 127, 255, 0, 512, 1536, 3584, 7680, 0, 16384, 65024, 130560, 0, 0, 786943, 2097151] (.take 0 (.take 1 (.take 2 (.take 3 (.take 4 (.take 5 (.take 6 (.take 7 (.take 8 (.take 9 (.take 10 (.take 11 (.take 12 (.take 14 (.take 15 (.alt 13 (.take 16 (.alt 17 (.alt 18 (.take 19 (.take 20 (.take 21 (.done)))) (.take 19 (.take 18 (.take 20 (.take 21 (.done)))))) (.alt 18 (.alt 17 (.take 19 (.take 20 (.take 21 (.done)))) (.take 19 (.alt 17 (.take 20 (.take 21 (.done))) (.take 20 (.take 17 (.take 21 (.done))))))) (.take 19 (.alt 17 (.take 18 (.take 20 (.take 21 (.done)))) (.take 18 (.alt 17 (.take 20 (.take 21 (.done))) (.take 20 (.take 17 (.take 21 (.done))))))))))) (.alt 18 (.alt 13 (.take 16 (.alt 17 (.take 19 (.take 20 (.take 21 (.done)))) (.take 19 (.alt 17 (.take 20 (.take 21 (.done))) (.take 20 (.take 17 (.take 21 (.done)))))))) (.take 19 (.alt 13 (.take 16 (.alt 17 (.take 20 (.take 21 (.done))) (.take 20 (.take 17 (.take 21 (.done)))))) (.take 20 (.take 13 (.take 16 (.take 17 (.take 21 (.done))))))))) (.take 19 (.alt 13 (.take 16 (.alt 17 (.take 18 (.take 20 (.take 21 (.done)))) (.take 18 (.alt 17 (.take 20 (.take 21 (.done))) (.take 20 (.take 17 (.take 21 (.done)))))))) (.take 18 (.alt 13 (.take 16 (.alt 17 (.take 20 (.take 21 (.done))) (.take 20 (.take 17 (.take 21 (.done)))))) (.take 20 (.take 13 (.take 16 (.take 17 (.take 21 (.done)))))))))))))))))))))))))))) (.seq (.ord [0, 0, 3, 7, 15, 31, 63, 127, 255, 511, 1023, 511, 2559, 8191, 16383, 32767, 65535, 131071, 262143, 524287, 65535, 2097151, 4194303, 8388607, 16777215, 33554431, 67108863, 134217727, 268435455, 536870911, 67108863, 2147483647, 4294967295, 67108863, 8657043455, 25836912639, 60196651007, 67108863, 266355081215, 541232988159, 1099511627775, 2199023255551, 4398046511103]) (.leaf)))
theorem e58 (R : Value → World → Prop) (t0 : Value) (t1 : Value) (t2 : Value) (w : World) : cw Try.prog 69 p58 (Try.f58.body.getD .skip) (fnQ Try.prog Try.f58.results.toList R) (argE 0 [t0, t1, t2]) w = c58 R t0 t1 t2 w := by kernel_rfl
theorem b58 : Try.f58.body = some (Try.f58.body.getD .skip) := by kernel_rfl
theorem s58 {R : Value → World → Prop} {t0 : Value} {t1 : Value} {t2 : Value} {w : World} (h : c58 R t0 t1 t2 w) : Cl Try.prog 58 [t0, t1, t2] w R :=
  calls_of_cw mixed p58 Try.func58 b58 Try.ntmps58 (by simp) (by rw [e58]; exact h)
def j59_0 (R : Value → World → Prop) (t0 : Value) (t7 : Value) (t8 : Value) (w : World) : Prop :=
 O (fA 0 t7) fun t27 =>
 O (rd1 t27 w) fun t28 =>
 O (bi .eql t28 (.int .i64 4)) fun t29 =>
 Bc t29
 (O (fA 0 t8) fun t31 =>
 O (rd1 t31 w) fun t32 =>
 O (bi .eql t32 (.int .i64 4)) fun t33 =>
 Bc t33
 (O (fA 7 t8) fun t36 =>
 O (rd1 t36 w) fun t37 =>
 O (un .not t37) fun t38 =>
 Bc t38
 (O (fA 7 t7) fun t41 =>
 O (rd1 t41 w) fun t42 =>
 Bc t42
 (O (fA 13 t7) fun t53 =>
 O (rd1 t53 w) fun t54 =>
 O (fA 13 t8) fun t55 =>
 O (rd1 t55 w) fun t56 =>
 Cl Try.prog 31 [t0, t54, t56] w fun t57 w =>
 R t57 w)
 (O (fA 8 t8) fun t44 =>
 O (rd1 t44 w) fun t45 =>
 O (fA 8 t7) fun t46 =>
 O (rd1 t46 w) fun t47 =>
 O (bi .geq t45 t47) fun t48 =>
 Bc t48
 (O (fA 13 t7) fun t53 =>
 O (rd1 t53 w) fun t54 =>
 O (fA 13 t8) fun t55 =>
 O (rd1 t55 w) fun t56 =>
 Cl Try.prog 31 [t0, t54, t56] w fun t57 w =>
 R t57 w)
 (R (.bool false) w)))
 (R (.bool false) w))
 (R (.bool false) w))
 (R (.bool false) w)
def c59 (R : Value → World → Prop) (t0 : Value) (t1 : Value) (t2 : Value) (w : World) : Prop :=
 Dr w fun w =>
 O (nC t0) fun t10 =>
 O (fA 0 t10) fun t11 =>
 O (fA 0 t11) fun t12 =>
 O (rd1 t12 w) fun t13 =>
 O (bi .sub t1 (.int .i64 1)) fun t15 =>
 O (iS 15 t13 t15) fun t16 =>
 O (rdN 15 t16 w) fun t17 =>
 O (nC t0) fun t19 =>
 O (fA 0 t19) fun t20 =>
 O (fA 0 t20) fun t21 =>
 O (bi .sub t2 (.int .i64 1)) fun t24 =>
 (O (rd1 t21 w) fun t22 =>
 O (iS 15 t22 t24) fun t25 =>
 (O (rdN 15 t25 w) fun t26 =>
 (AL (.cells #[.int .i64 0, .int .i64 0, .int .i64 0, .int .i64 0, .int .i64 0, .int .i64 0, .int .i64 0, .bool false, .int .i64 0, .int .i64 0, .int .i64 0, .int .i64 0, .int .i64 0, .int .i64 0, .int .i64 0] 73) w fun t7 w =>
 AL (.cells #[.int .i64 0, .int .i64 0, .int .i64 0, .int .i64 0, .int .i64 0, .int .i64 0, .int .i64 0, .bool false, .int .i64 0, .int .i64 0, .int .i64 0, .int .i64 0, .int .i64 0, .int .i64 0, .int .i64 0] 73) w fun t8 w =>
 ST Try.prog 73 t7 t17 w fun _ w =>
 ST Try.prog 73 t8 t26 w fun _ w =>
 j59_0 R t0 t7 t8 w) ∧
 (AL (.cells #[.int .i64 0, .int .i64 0, .int .i64 0, .int .i64 0, .int .i64 0, .int .i64 0, .int .i64 0, .bool false, .int .i64 0, .int .i64 0, .int .i64 0, .int .i64 0, .int .i64 0, .int .i64 0, .int .i64 0] 73) w fun t8 w =>
 AL (.cells #[.int .i64 0, .int .i64 0, .int .i64 0, .int .i64 0, .int .i64 0, .int .i64 0, .int .i64 0, .bool false, .int .i64 0, .int .i64 0, .int .i64 0, .int .i64 0, .int .i64 0, .int .i64 0, .int .i64 0] 73) w fun t7 w =>
 ST Try.prog 73 t7 t17 w fun _ w =>
 ST Try.prog 73 t8 t26 w fun _ w =>
 j59_0 R t0 t7 t8 w)) ∧
 (AL (.cells #[.int .i64 0, .int .i64 0, .int .i64 0, .int .i64 0, .int .i64 0, .int .i64 0, .int .i64 0, .bool false, .int .i64 0, .int .i64 0, .int .i64 0, .int .i64 0, .int .i64 0, .int .i64 0, .int .i64 0] 73) w fun t7 w =>
 (O (rdN 15 t25 w) fun t26 =>
 AL (.cells #[.int .i64 0, .int .i64 0, .int .i64 0, .int .i64 0, .int .i64 0, .int .i64 0, .int .i64 0, .bool false, .int .i64 0, .int .i64 0, .int .i64 0, .int .i64 0, .int .i64 0, .int .i64 0, .int .i64 0] 73) w fun t8 w =>
 ST Try.prog 73 t7 t17 w fun _ w =>
 ST Try.prog 73 t8 t26 w fun _ w =>
 j59_0 R t0 t7 t8 w) ∧
 (AL (.cells #[.int .i64 0, .int .i64 0, .int .i64 0, .int .i64 0, .int .i64 0, .int .i64 0, .int .i64 0, .bool false, .int .i64 0, .int .i64 0, .int .i64 0, .int .i64 0, .int .i64 0, .int .i64 0, .int .i64 0] 73) w fun t8 w =>
 (O (rdN 15 t25 w) fun t26 =>
 ST Try.prog 73 t7 t17 w fun _ w =>
 ST Try.prog 73 t8 t26 w fun _ w =>
 j59_0 R t0 t7 t8 w) ∧
 (ST Try.prog 73 t7 t17 w fun _ w =>
 O (rdN 15 t25 w) fun t26 =>
 ST Try.prog 73 t8 t26 w fun _ w =>
 j59_0 R t0 t7 t8 w))) ∧
 (AL (.cells #[.int .i64 0, .int .i64 0, .int .i64 0, .int .i64 0, .int .i64 0, .int .i64 0, .int .i64 0, .bool false, .int .i64 0, .int .i64 0, .int .i64 0, .int .i64 0, .int .i64 0, .int .i64 0, .int .i64 0] 73) w fun t8 w =>
 (O (rdN 15 t25 w) fun t26 =>
 AL (.cells #[.int .i64 0, .int .i64 0, .int .i64 0, .int .i64 0, .int .i64 0, .int .i64 0, .int .i64 0, .bool false, .int .i64 0, .int .i64 0, .int .i64 0, .int .i64 0, .int .i64 0, .int .i64 0, .int .i64 0] 73) w fun t7 w =>
 ST Try.prog 73 t7 t17 w fun _ w =>
 ST Try.prog 73 t8 t26 w fun _ w =>
 j59_0 R t0 t7 t8 w) ∧
 (AL (.cells #[.int .i64 0, .int .i64 0, .int .i64 0, .int .i64 0, .int .i64 0, .int .i64 0, .int .i64 0, .bool false, .int .i64 0, .int .i64 0, .int .i64 0, .int .i64 0, .int .i64 0, .int .i64 0, .int .i64 0] 73) w fun t7 w =>
 (O (rdN 15 t25 w) fun t26 =>
 ST Try.prog 73 t7 t17 w fun _ w =>
 ST Try.prog 73 t8 t26 w fun _ w =>
 j59_0 R t0 t7 t8 w) ∧
 (ST Try.prog 73 t7 t17 w fun _ w =>
 O (rdN 15 t25 w) fun t26 =>
 ST Try.prog 73 t8 t26 w fun _ w =>
 j59_0 R t0 t7 t8 w)))) ∧
 (AL (.cells #[.int .i64 0, .int .i64 0, .int .i64 0, .int .i64 0, .int .i64 0, .int .i64 0, .int .i64 0, .bool false, .int .i64 0, .int .i64 0, .int .i64 0, .int .i64 0, .int .i64 0, .int .i64 0, .int .i64 0] 73) w fun t7 w =>
 (O (rd1 t21 w) fun t22 =>
 O (iS 15 t22 t24) fun t25 =>
 (O (rdN 15 t25 w) fun t26 =>
 AL (.cells #[.int .i64 0, .int .i64 0, .int .i64 0, .int .i64 0, .int .i64 0, .int .i64 0, .int .i64 0, .bool false, .int .i64 0, .int .i64 0, .int .i64 0, .int .i64 0, .int .i64 0, .int .i64 0, .int .i64 0] 73) w fun t8 w =>
 ST Try.prog 73 t7 t17 w fun _ w =>
 ST Try.prog 73 t8 t26 w fun _ w =>
 j59_0 R t0 t7 t8 w) ∧
 (AL (.cells #[.int .i64 0, .int .i64 0, .int .i64 0, .int .i64 0, .int .i64 0, .int .i64 0, .int .i64 0, .bool false, .int .i64 0, .int .i64 0, .int .i64 0, .int .i64 0, .int .i64 0, .int .i64 0, .int .i64 0] 73) w fun t8 w =>
 (O (rdN 15 t25 w) fun t26 =>
 ST Try.prog 73 t7 t17 w fun _ w =>
 ST Try.prog 73 t8 t26 w fun _ w =>
 j59_0 R t0 t7 t8 w) ∧
 (ST Try.prog 73 t7 t17 w fun _ w =>
 O (rdN 15 t25 w) fun t26 =>
 ST Try.prog 73 t8 t26 w fun _ w =>
 j59_0 R t0 t7 t8 w))) ∧
 (AL (.cells #[.int .i64 0, .int .i64 0, .int .i64 0, .int .i64 0, .int .i64 0, .int .i64 0, .int .i64 0, .bool false, .int .i64 0, .int .i64 0, .int .i64 0, .int .i64 0, .int .i64 0, .int .i64 0, .int .i64 0] 73) w fun t8 w =>
 (O (rd1 t21 w) fun t22 =>
 O (iS 15 t22 t24) fun t25 =>
 (O (rdN 15 t25 w) fun t26 =>
 ST Try.prog 73 t7 t17 w fun _ w =>
 ST Try.prog 73 t8 t26 w fun _ w =>
 j59_0 R t0 t7 t8 w) ∧
 (ST Try.prog 73 t7 t17 w fun _ w =>
 O (rdN 15 t25 w) fun t26 =>
 ST Try.prog 73 t8 t26 w fun _ w =>
 j59_0 R t0 t7 t8 w)) ∧
 (ST Try.prog 73 t7 t17 w fun _ w =>
 O (rd1 t21 w) fun t22 =>
 O (iS 15 t22 t24) fun t25 =>
 O (rdN 15 t25 w) fun t26 =>
 ST Try.prog 73 t8 t26 w fun _ w =>
 j59_0 R t0 t7 t8 w))) ∧
 (AL (.cells #[.int .i64 0, .int .i64 0, .int .i64 0, .int .i64 0, .int .i64 0, .int .i64 0, .int .i64 0, .bool false, .int .i64 0, .int .i64 0, .int .i64 0, .int .i64 0, .int .i64 0, .int .i64 0, .int .i64 0] 73) w fun t8 w =>
 (O (rd1 t21 w) fun t22 =>
 O (iS 15 t22 t24) fun t25 =>
 (O (rdN 15 t25 w) fun t26 =>
 AL (.cells #[.int .i64 0, .int .i64 0, .int .i64 0, .int .i64 0, .int .i64 0, .int .i64 0, .int .i64 0, .bool false, .int .i64 0, .int .i64 0, .int .i64 0, .int .i64 0, .int .i64 0, .int .i64 0, .int .i64 0] 73) w fun t7 w =>
 ST Try.prog 73 t7 t17 w fun _ w =>
 ST Try.prog 73 t8 t26 w fun _ w =>
 j59_0 R t0 t7 t8 w) ∧
 (AL (.cells #[.int .i64 0, .int .i64 0, .int .i64 0, .int .i64 0, .int .i64 0, .int .i64 0, .int .i64 0, .bool false, .int .i64 0, .int .i64 0, .int .i64 0, .int .i64 0, .int .i64 0, .int .i64 0, .int .i64 0] 73) w fun t7 w =>
 (O (rdN 15 t25 w) fun t26 =>
 ST Try.prog 73 t7 t17 w fun _ w =>
 ST Try.prog 73 t8 t26 w fun _ w =>
 j59_0 R t0 t7 t8 w) ∧
 (ST Try.prog 73 t7 t17 w fun _ w =>
 O (rdN 15 t25 w) fun t26 =>
 ST Try.prog 73 t8 t26 w fun _ w =>
 j59_0 R t0 t7 t8 w))) ∧
 (AL (.cells #[.int .i64 0, .int .i64 0, .int .i64 0, .int .i64 0, .int .i64 0, .int .i64 0, .int .i64 0, .bool false, .int .i64 0, .int .i64 0, .int .i64 0, .int .i64 0, .int .i64 0, .int .i64 0, .int .i64 0] 73) w fun t7 w =>
 (O (rd1 t21 w) fun t22 =>
 O (iS 15 t22 t24) fun t25 =>
 (O (rdN 15 t25 w) fun t26 =>
 ST Try.prog 73 t7 t17 w fun _ w =>
 ST Try.prog 73 t8 t26 w fun _ w =>
 j59_0 R t0 t7 t8 w) ∧
 (ST Try.prog 73 t7 t17 w fun _ w =>
 O (rdN 15 t25 w) fun t26 =>
 ST Try.prog 73 t8 t26 w fun _ w =>
 j59_0 R t0 t7 t8 w)) ∧
 (ST Try.prog 73 t7 t17 w fun _ w =>
 O (rd1 t21 w) fun t22 =>
 O (iS 15 t22 t24) fun t25 =>
 O (rdN 15 t25 w) fun t26 =>
 ST Try.prog 73 t8 t26 w fun _ w =>
 j59_0 R t0 t7 t8 w)))
def p59 : Plan := .seq (.leaf) (.join [7, 8] [0] (.tree [0, 1, 3, 7, 15, 0, 32, 127, 255, 0, 512, 1536, 3584, 7680, 0, 16384, 65024, 130560, 0, 0, 786943, 2097151] (.take 0 (.take 1 (.take 2 (.take 3 (.take 4 (.take 5 (.take 6 (.take 7 (.take 8 (.take 9 (.take 10 (.take 11 (.take 12 (.take 14 (.take 15 (.alt 13 (.take 16 (.alt 17 (.alt 18 (.take 19 (.take 20 (.take 21 (.done)))) (.take 19 (.take 18 (.take 20 (.take 21 (.done)))))) (.alt 18 (.alt 17 (.take 19 (.take 20 (.take 21 (.done)))) (.take 19 (.alt 17 (.take 20 (.take 21 (.done))) (.take 20 (.take 17 (.take 21 (.done))))))) (.take 19 (.alt 17 (.take 18 (.take 20 (.take 21 (.done)))) (.take 18 (.alt 17 (.take 20 (.take 21 (.done))) (.take 20 (.take 17 (.take 21 (.done))))))))))) (.alt 18 (.alt 13 (.take 16 (.alt 17 (.take 19 (.take 20 (.take 21 (.done)))) (.take 19 (.alt 17 (.take 20 (.take 21 (.done))) (.take 20 (.take 17 (.take 21 (.done)))))))) (.take 19 (.alt 13 (.take 16 (.alt 17 (.take 20 (.take 21 (.done))) (.take 20 (.take 17 (.take 21 (.done)))))) (.take 20 (.take 13 (.take 16 (.take 17 (.take 21 (.done))))))))) (.take 19 (.alt 13 (.take 16 (.alt 17 (.take 18 (.take 20 (.take 21 (.done)))) (.take 18 (.alt 17 (.take 20 (.take 21 (.done))) (.take 20 (.take 17 (.take 21 (.done)))))))) (.take 18 (.alt 13 (.take 16 (.alt 17 (.take 20 (.take 21 (.done))) (.take 20 (.take 17 (.take 21 (.done)))))) (.take 20 (.take 13 (.take 16 (.take 17 (.take 21 (.done)))))))))))))))))))))))))))) (.seq (.leaf) (.leaf)))
theorem e59 (R : Value → World → Prop) (t0 : Value) (t1 : Value) (t2 : Value) (w : World) : cw Try.prog 59 p59 (Try.f59.body.getD .skip) (fnQ Try.prog Try.f59.results.toList R) (argE 0 [t0, t1, t2]) w = c59 R t0 t1 t2 w := by kernel_rfl
theorem b59 : Try.f59.body = some (Try.f59.body.getD .skip) := by kernel_rfl
theorem s59 {R : Value → World → Prop} {t0 : Value} {t1 : Value} {t2 : Value} {w : World} (h : c59 R t0 t1 t2 w) : Cl Try.prog 59 [t0, t1, t2] w R :=
  calls_of_cw mixed p59 Try.func59 b59 Try.ntmps59 (by simp) (by rw [e59]; exact h)
def c61 (R : Value → World → Prop) (t0 : Value) (t1 : Value) (t2 : Value) (w : World) : Prop :=
 Dr w fun w =>
 O (nC t0) fun t9 =>
 O (fA 3 t9) fun t10 =>
 O (rd1 t10 w) fun t11 =>
 O (iS 1 t11 t1) fun t13 =>
 O (rd1 t13 w) fun t14 =>
 O (nC t0) fun t16 =>
 O (fA 3 t16) fun t17 =>
 O (rd1 t17 w) fun t18 =>
 O (iS 1 t18 t2) fun t20 =>
 O (rd1 t20 w) fun t21 =>
 Cl Try.prog 31 [t0, t14, t21] w fun t22 w =>
 R t22 w
def p61 : Plan := .seq (.leaf) (.seq (.ord [0, 0, 2, 6, 14, 0, 62, 126, 0, 256, 768, 1792, 0, 7936, 16128, 32767, 65535]) (.leaf))
theorem e61 (R : Value → World → Prop) (t0 : Value) (t1 : Value) (t2 : Value) (w : World) : cw Try.prog 23 p61 (Try.f61.body.getD .skip) (fnQ Try.prog Try.f61.results.toList R) (argE 0 [t0, t1, t2]) w = c61 R t0 t1 t2 w := by kernel_rfl
theorem b61 : Try.f61.body = some (Try.f61.body.getD .skip) := by kernel_rfl
theorem s61 {R : Value → World → Prop} {t0 : Value} {t1 : Value} {t2 : Value} {w : World} (h : c61 R t0 t1 t2 w) : Cl Try.prog 61 [t0, t1, t2] w R :=
  calls_of_cw mixed p61 Try.func61 b61 Try.ntmps61 (by simp) (by rw [e61]; exact h)
def c57 (R : Value → World → Prop) (t0 : Value) (t1 : Value) (t2 : Value) (w : World) : Prop :=
 O (rd1 t2 w) fun t6 =>
 Cl Try.prog 58 [t6, t0, t1] w fun t9 w =>
 Bc t9
 (O (rd1 t2 w) fun t11 =>
 Cl Try.prog 59 [t11, t0, t1] w fun t14 w =>
 R t14 w)
 (R (.bool false) w)
def p57 : Plan := .seq (.leaf) (.seq (.leaf) (.leaf))
theorem e57 (R : Value → World → Prop) (t0 : Value) (t1 : Value) (t2 : Value) (w : World) : cw Try.prog 16 p57 (Try.f57.body.getD .skip) (fnQ Try.prog Try.f57.results.toList R) (argE 0 [t0, t1, t2]) w = c57 R t0 t1 t2 w := by kernel_rfl
theorem b57 : Try.f57.body = some (Try.f57.body.getD .skip) := by kernel_rfl
theorem s57 {R : Value → World → Prop} {t0 : Value} {t1 : Value} {t2 : Value} {w : World} (h : c57 R t0 t1 t2 w) : Cl Try.prog 57 [t0, t1, t2] w R :=
  calls_of_cw mixed p57 Try.func57 b57 Try.ntmps57 (by simp) (by rw [e57]; exact h)
def c60 (R : Value → World → Prop) (t0 : Value) (t1 : Value) (t2 : Value) (w : World) : Prop :=
 O (rd1 t2 w) fun t6 =>
 Cl Try.prog 58 [t6, t0, t1] w fun t9 w =>
 Bc t9
 (O (rd1 t2 w) fun t11 =>
 Cl Try.prog 61 [t11, t0, t1] w fun t14 w =>
 R t14 w)
 (R (.bool false) w)
def p60 : Plan := .seq (.leaf) (.seq (.leaf) (.leaf))
theorem e60 (R : Value → World → Prop) (t0 : Value) (t1 : Value) (t2 : Value) (w : World) : cw Try.prog 16 p60 (Try.f60.body.getD .skip) (fnQ Try.prog Try.f60.results.toList R) (argE 0 [t0, t1, t2]) w = c60 R t0 t1 t2 w := by kernel_rfl
theorem b60 : Try.f60.body = some (Try.f60.body.getD .skip) := by kernel_rfl
theorem s60 {R : Value → World → Prop} {t0 : Value} {t1 : Value} {t2 : Value} {w : World} (h : c60 R t0 t1 t2 w) : Cl Try.prog 60 [t0, t1, t2] w R :=
  calls_of_cw mixed p60 Try.func60 b60 Try.ntmps60 (by simp) (by rw [e60]; exact h)

end Go.Proofs.Ytedcfkigfcobaaa
end
