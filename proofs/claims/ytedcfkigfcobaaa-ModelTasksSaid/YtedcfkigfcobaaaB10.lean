/-
  A part of the proof that the statement on the tasks of a machine returns true for every input: no condition is asked beyond those of the theorems below.
-/
import Derived.Test.YtedcfkigfcobaaaB9
set_option linter.unusedVariables false
set_option linter.unusedSimpArgs false
set_option linter.unusedSectionVars false
/- Rows of bits: has, add. -/
section
namespace Go.Proofs.Ytedcfkigfcobaaa
open Go Go.Proofs
attribute [local irreducible] Bc O AL BS MS MM ST AP CV Cl
structure Row where
  ws : List Nat
  len : ws.length = 19
  lt : ∀ x ∈ ws, x < 2 ^ 64
def encRow (r : Row) : List Value := r.ws.map fun (n : Nat) => .int .u64 (n : Int)
theorem encRow_len (r : Row) : (encRow r).length = 19 := by simp [encRow, r.len]
theorem encRow_one (r : Row) : (encRow r).all one = true := by
  simp [encRow, one]
def Row.has (r : Row) (i : Nat) : Bool := (r.ws[i / 64]?.getD 0).testBit (i % 64)
def Row.put (r : Row) (k : Nat) (n : Nat) (hn : n < 2 ^ 64) : Row := ⟨r.ws.set k n, by simp [r.len], fun x hx => by
  rcases List.mem_or_eq_of_mem_set hx with h | h
  · exact r.lt x h
  · rw [h]; exact hn⟩
theorem two_lt {j : Nat} (h : j < 64) : 2 ^ j < 2 ^ 64 := Nat.pow_lt_pow_right (by decide) h
theorem bi_quo64 {i : Nat} (h : i < 2 ^ 60) : bi .quo (.int .i64 i) (.int .i64 64) = some (.int .i64 ((i / 64 : Nat) : Int)) := by
  have e : (i : Int).tdiv 64 = ((i / 64 : Nat) : Int) := by rw [Int.tdiv_eq_ediv_of_nonneg (by omega)]; omega
  simp only [bi, biI, if_true]
  rw [if_neg (by decide), e, wrap_in (by omega)]
theorem bi_rem64 {i : Nat} : bi .rem (.int .i64 i) (.int .i64 64) = some (.int .i64 ((i % 64 : Nat) : Int)) := by
  have e : (i : Int).tmod 64 = ((i % 64 : Nat) : Int) := by rw [Int.tmod_eq_emod_of_nonneg (by omega)]; omega
  simp only [bi, biI, if_true]
  rw [if_neg (by decide), e]
theorem wrap_u64 {n : Nat} (h : n < 2 ^ 64) : IntKind.u64.wrap (n : Int) = n := by
  unfold IntKind.wrap
  have h1 : ((2 : Int) ^ IntKind.u64.bits) = 18446744073709551616 := rfl
  have h2 : (2 : Nat) ^ 64 = 18446744073709551616 := rfl
  have h3 : IntKind.u64.signed = false := rfl
  simp only [h1, h3, Bool.false_and, Bool.false_eq_true, if_false]
  omega
theorem ofInt_u64 (n : Nat) : BitVec.ofInt IntKind.u64.bits (n : Int) = BitVec.ofNat 64 n := by
  show BitVec.ofInt 64 (n : Int) = _
  exact BitVec.ofInt_natCast 64 n
theorem bi_or {a b : Nat} (ha : a < 2 ^ 64) (hb : b < 2 ^ 64) : bi .or (.int .u64 a) (.int .u64 b) = some (.int .u64 ((a ||| b : Nat) : Int)) := by
  simp only [bi, biI, if_true]
  rw [ofInt_u64, ofInt_u64]
  have e : (BitVec.ofNat 64 a ||| BitVec.ofNat 64 b).toNat = a ||| b := by
    rw [BitVec.toNat_or, BitVec.toNat_ofNat, BitVec.toNat_ofNat, Nat.mod_eq_of_lt ha, Nat.mod_eq_of_lt hb]
  have := wrap_u64 (Nat.or_lt_two_pow ha hb)
  rw [← this, ← e]
  rfl
theorem bi_shl1 {j : Nat} (h : j < 64) : bi .shl (.int .u64 1) (.int .i64 j) = some (.int .u64 ((2 ^ j : Nat) : Int)) := by
  simp only [bi]
  rw [if_neg (by omega)]
  have e : (1 : Int) * 2 ^ min (j : Int).toNat IntKind.u64.bits = ((2 ^ j : Nat) : Int) := by
    have : min (j : Int).toNat IntKind.u64.bits = j := by show min (j : Int).toNat 64 = j; omega
    rw [this]; simp
  rw [e, wrap_u64 (two_lt h)]
theorem bi_shr {n j : Nat} (h : j < 64) : bi .shr (.int .u64 n) (.int .i64 j) = some (.int .u64 ((n / 2 ^ j : Nat) : Int)) := by
  simp only [bi]
  rw [if_neg (by omega)]
  have : min (j : Int).toNat IntKind.u64.bits = j := by show min (j : Int).toNat 64 = j; omega
  have h2 : (0 : Int) ≤ 2 ^ j := Int.pow_nonneg (by decide)
  rw [this, Int.fdiv_eq_ediv_of_nonneg _ h2]
  have h3 : ((n / 2 ^ j : Nat) : Int) = (n : Int) / 2 ^ j := by simp
  rw [h3]
theorem bi_and1 {n : Nat} (h : n < 2 ^ 64) : bi .and (.int .u64 n) (.int .u64 1) = some (.int .u64 ((n % 2 : Nat) : Int)) := by
  have h1 : (1 : Int) = ((1 : Nat) : Int) := rfl
  simp only [bi, biI, if_true]
  rw [h1, ofInt_u64, ofInt_u64]
  have e : (BitVec.ofNat 64 n &&& BitVec.ofNat 64 1).toNat = n % 2 := by
    rw [BitVec.toNat_and, BitVec.toNat_ofNat, BitVec.toNat_ofNat, Nat.mod_eq_of_lt h, Nat.mod_eq_of_lt (by decide), Nat.and_one_is_mod]
  have := wrap_u64 (n := n % 2) (by omega)
  rw [← this, ← e]
  rfl
theorem and1_eq (n j : Nat) : decide (((n / 2 ^ j % 2 : Nat) : Int) = 1) = n.testBit j := by
  rw [Nat.testBit_eq_decide_div_mod_eq, decide_eq_decide]
  omega
theorem encRow_get {r : Row} {k : Nat} (h : k < 19) : (encRow r)[k]? = some (.int .u64 ((r.ws[k]?.getD 0 : Nat) : Int)) := by
  have : k < r.ws.length := by rw [r.len]; exact h
  unfold encRow
  rw [List.getElem?_map, List.getElem?_eq_getElem this]
  rfl
theorem Row.wlt (r : Row) (k : Nat) : r.ws[k]?.getD 0 < 2 ^ 64 := by
  rcases h : r.ws[k]? with _ | n
  · decide
  · exact r.lt n (List.mem_of_getElem? h)
theorem encRow_put {r : Row} {k n : Nat} (hn : n < 2 ^ 64) (hk : k < 19) : updL (encRow r) k [.int .u64 (n : Int)] = encRow (r.put k n hn) := by
  unfold encRow Row.put updL
  have hl : k < r.ws.length := by rw [r.len]; exact hk
  simp only [List.map_set]
  rw [List.set_eq_take_append_cons_drop]
  simp [hl]
theorem Row.has_put {r : Row} {k n i : Nat} (hn : n < 2 ^ 64) (hk : k < 19) : (r.put k n hn).has i = if i / 64 = k then n.testBit (i % 64) else r.has i := by
  unfold Row.has Row.put
  simp only
  rw [List.getElem?_set]
  have hl : k < r.ws.length := by rw [r.len]; exact hk
  by_cases h : k = i / 64
  · rw [if_pos h, if_pos hl, if_pos h.symm]; rfl
  · rw [if_neg h, if_neg (fun h' => h h'.symm)]
def Row.add (r : Row) (b : Nat) : Row := r.put (b / 64) ((r.ws[b / 64]?.getD 0) ||| 2 ^ (b % 64)) (Nat.or_lt_two_pow (r.wlt _) (two_lt (Nat.mod_lt _ (by decide))))
theorem Row.has_add {r : Row} {b : Nat} (hb : b < 1216) (i : Nat) : (r.add b).has i = (r.has i || decide (i = b)) := by
  unfold Row.add
  rw [Row.has_put _ (by omega)]
  by_cases h : i / 64 = b / 64
  · rw [if_pos h, Nat.testBit_or, Nat.testBit_two_pow]
    unfold Row.has
    rw [h]
    congr 1
    rw [decide_eq_decide]
    omega
  · rw [if_neg h, decide_eq_false (by intro e; apply h; rw [e]), Bool.or_false]
def Has (rs : List Row) (a b : Nat) : Bool := (rs[a]?.map (·.has b)).getD false
abbrev clA (tv mv rv bv ev : Value) (cb : Nat) (rs : List Row) (bl el : List Int) : List Atom := [bk cb 145 [tv, mv, rv, bv, ev], sl 149 19 rv rs.length (rs.flatMap encRow), sl 3 1 bv bl.length (ints bl), sl 3 1 ev el.length (ints el)]
section
variable {B : Base} {w : World} {L : List Atom} {tv mv rv bv ev : Value} {T : List TK} {M : List MK} {cb : Nat} {rs : List Row} {bl el : List Int}
theorem k63 {b o : Nat} {r : Row} (hrd : ∀ k y, (encRow r)[k]? = some y → rd1 (.pointer (some ⟨b, o + k, none⟩)) w = some y) {i : Nat} (hi : i < 1216) : Cl Try.prog 63 [.pointer (some ⟨b, o, none⟩), .int .i64 i] w fun v w' => v = .bool (r.has i) ∧ w' = w := by
  refine s63 ?_
  unfold c63
  refine O.mk (bi_quo64 (by omega)) ?_
  (repeat with_reducible first | refine qq ?_ | refine qr ?_ | refine qs ?_)
  refine O.mk (iA_p (j := ((i / 64 : Nat) : Int)) (by omega) (by omega)) ?_
  have hget : rd1 (.pointer (some ⟨b, o + (((i / 64 : Nat) : Int)).toNat * 1, none⟩)) w = some (.int .u64 ((r.ws[i / 64]?.getD 0 : Nat) : Int)) := by
    rw [show (((i / 64 : Nat) : Int)).toNat * 1 = i / 64 by omega]
    exact hrd _ _ (encRow_get (by omega))
  refine O.mk hget ?_
  refine O.mk bi_rem64 ?_
  refine O.mk (bi_shr (by omega)) ?_
  have hlt : (r.ws[i / 64]?.getD 0) / 2 ^ (i % 64) < 2 ^ 64 := Nat.lt_of_le_of_lt (Nat.div_le_self _ _) (r.wlt _)
  refine O.mk (bi_and1 hlt) ?_
  (repeat with_reducible first | refine qq ?_ | refine qr ?_ | refine qs ?_)
  refine ⟨?_, rfl⟩
  rw [and1_eq]
  rfl
theorem k31 (hw : Own B w (rA tv mv T M ++ (clA tv mv rv bv ev cb rs bl el ++ L))) {a b : Int} (ha : a < rs.length) (hb : b < 1216) :
    Cl Try.prog 31 [pp cb, .int .i64 a, .int .i64 b] w fun v w' => v = .bool (decide (0 ≤ a ∧ 0 ≤ b) && Has rs a.toNat b.toNat) ∧ w' = w := by
  refine s31 ?_
  unfold c31
  (repeat with_reducible first | refine qq ?_ | refine qr ?_ | refine qs ?_)
  refine Bc_dec (fun h1 => ?_) (fun h1 => ?_)
  · (repeat with_reducible first | refine qq ?_ | refine qr ?_ | refine qs ?_)
    refine Bc_dec (fun h2 => ?_) (fun h2 => ?_)
    · obtain ⟨r, hr⟩ := list_get (l := rs) (j := a.toNat) (by omega)
      obtain ⟨br, hix, hrd, _⟩ := hw.el 3 rfl encRow_len hr
      (repeat with_reducible first | refine qq ?_ | refine qr ?_ | refine qs ?_ | refine hw.l 2 ?_)
      refine O.mk (hix _ _ h1 rfl) ?_
      obtain ⟨n, rfl⟩ : ∃ n : Nat, b = n := ⟨b.toNat, by omega⟩
      refine (k63 hrd (i := n) (by omega)).use ?_
      rintro _ _ ⟨rfl, rfl⟩
      refine ⟨?_, rfl⟩
      rw [decide_eq_true ⟨h1, h2⟩]
      unfold Has
      rw [hr, show ((n : Int)).toNat = n by omega]
      rfl
    · rw [decide_eq_false (by omega)]
      exact ⟨rfl, rfl⟩
  · rw [decide_eq_false (by omega)]
    exact ⟨rfl, rfl⟩
theorem Has_set {rs : List Row} {a : Nat} {r r' : Row} (hr : rs[a]? = some r) (x y : Nat) : Has (rs.set a r') x y = if x = a then r'.has y else Has rs x y := by
  unfold Has
  rw [List.getElem?_set]
  by_cases h : a = x
  · rw [if_pos h, if_pos (list_lt hr), if_pos h.symm]; rfl
  · rw [if_neg h, if_neg (fun h' => h h'.symm)]
theorem k62 (hw : Own B w (rA tv mv T M ++ (clA tv mv rv bv ev cb rs bl el ++ L))) {a b : Int} (ha : a < rs.length) (hb : b < 1216) :
    Cl Try.prog 62 [pp cb, .int .i64 a, .int .i64 b] w fun v w' => ∃ (c : Bool) (rs' : List Row), v = .bool c ∧ ((c = false ∧ rs' = rs ∧ (0 ≤ a → 0 ≤ b → Has rs a.toNat b.toNat = true)) ∨ (c = true ∧ 0 ≤ a ∧ 0 ≤ b ∧ Has rs a.toNat b.toNat = false ∧ rs'.length = rs.length ∧ ∀ x y, Has rs' x y = (Has rs x y || decide (x = a.toNat ∧ y = b.toNat)))) ∧
      Own B w' (rA tv mv T M ++ (clA tv mv rv bv ev cb rs' bl el ++ L)) := by
  obtain ⟨R, hR⟩ : ∃ R : Value → World → Prop, R = fun v w' => ∃ (c : Bool) (rs' : List Row), v = .bool c ∧ ((c = false ∧ rs' = rs ∧ (0 ≤ a → 0 ≤ b → Has rs a.toNat b.toNat = true)) ∨ (c = true ∧ 0 ≤ a ∧ 0 ≤ b ∧ Has rs a.toNat b.toNat = false ∧ rs'.length = rs.length ∧ ∀ x y, Has rs' x y = (Has rs x y || decide (x = a.toNat ∧ y = b.toNat)))) ∧
      Own B w' (rA tv mv T M ++ (clA tv mv rv bv ev cb rs' bl el ++ L)) := ⟨_, rfl⟩
  rw [← hR]
  have hno : (0 ≤ a → 0 ≤ b → Has rs a.toNat b.toNat = true) → j62_0 R (pp cb) (.int .i64 b) (.int .i64 a) (.bool true) w := fun h => by
    unfold j62_0
    refine Bc_t ?_
    rw [hR]
    exact ⟨false, rs, rfl, .inl ⟨rfl, rfl, h⟩, hw⟩
  refine s62 ?_
  unfold c62
  (repeat with_reducible first | refine qq ?_ | refine qr ?_ | refine qs ?_)
  refine Bc_dec (fun h => hno (by omega)) (fun h1 => ?_)
  (repeat with_reducible first | refine qq ?_ | refine qr ?_ | refine qs ?_)
  refine Bc_dec (fun h => hno (by omega)) (fun h2 => ?_)
  obtain ⟨r, hr⟩ := list_get (l := rs) (j := a.toNat) (by omega)
  obtain ⟨br, hix, hrd, _⟩ := hw.el 3 rfl encRow_len hr
  (repeat with_reducible first | refine qq ?_ | refine qr ?_ | refine qs ?_ | refine hw.l 2 ?_)
  refine O.mk (hix _ _ (by omega) rfl) ?_
  obtain ⟨n, rfl⟩ : ∃ n : Nat, b = n := ⟨b.toNat, by omega⟩
  refine (k63 hrd (i := n) (by omega)).use ?_
  rintro _ _ ⟨rfl, rfl⟩
  have hHas : Has rs a.toNat ((n : Int)).toNat = r.has n := by unfold Has; rw [hr]; rfl
  rcases hh : r.has n with _ | _
  · unfold j62_0
    refine Bc_f ?_
    refine hw.dr fun w2 hw2 => ?_
    clear hw hrd hno
    obtain ⟨br, hix, hrd, _⟩ := hw2.el 3 rfl encRow_len hr
    (repeat with_reducible first | refine qq ?_ | refine qr ?_ | refine qs ?_ | refine hw2.l 2 ?_)
    refine O.mk (bi_quo64 (by omega)) ?_
    refine O.mk (hix _ _ (by omega) rfl) ?_
    refine O.mk (iA_p (j := ((n / 64 : Nat) : Int)) (by omega) (by omega)) ?_
    rw [show (((n / 64 : Nat) : Int)).toNat * 1 = n / 64 by omega]
    refine O.mk (hrd _ _ (encRow_get (by omega))) ?_
    refine O.mk bi_rem64 ?_
    refine O.mk (bi_shl1 (by omega)) ?_
    refine O.mk (bi_or (r.wlt _) (two_lt (by omega))) ?_
    refine O.mk (hix _ _ (by omega) rfl) ?_
    refine O.mk (iA_p (j := ((n / 64 : Nat) : Int)) (by omega) (by omega)) ?_
    rw [show (((n / 64 : Nat) : Int)).toNat * 1 = n / 64 by omega]
    refine hw2.elst 3 rfl encRow_len hr (x' := r.add n) (hix .i64 _ (by omega) rfl) rfl (by kernel_rfl) rfl (by show n / 64 + 1 ≤ 19; omega) (encRow_put _ (by omega)) fun w3 hw3 => ?_
    rw [hR]
    refine ⟨true, rs.set a.toNat (r.add n), rfl, .inr ⟨rfl, by omega, by omega, by rw [hHas]; exact hh, by simp, fun x y => ?_⟩, hw3⟩
    rw [Has_set hr, Row.has_add (by omega)]
    by_cases hx : x = a.toNat
    · rw [if_pos hx]
      have : Has rs x y = r.has y := by unfold Has; rw [hx, hr]; rfl
      rw [this]
      congr 1
      rw [decide_eq_decide]
      constructor
      · intro h; exact ⟨hx, by omega⟩
      · intro h; have := h.2; omega
    · rw [if_neg hx, decide_eq_false (fun h => hx h.1), Bool.or_false]
  · exact hno (fun _ _ => by rw [hHas]; exact hh)
end
end Go.Proofs.Ytedcfkigfcobaaa
end
/- What comes first of what: the least relation that the rules let be. -/
section
namespace Go.Proofs.Ytedcfkigfcobaaa
open Go Go.Proofs
attribute [local irreducible] Bc O AL BS MS MM ST AP CV Cl
def Seven (x y : TK) : Prop := x.kind = 4 ∧ y.kind = 4 ∧ y.front = false ∧ (x.front = true ∨ x.delay ≤ y.delay)
structure Closed (T : List TK) (M : List MK) (bl el : List Int) (r : Nat → Nat → Prop) : Prop where
  task : ∀ (i k : Nat) (m n : MK), i < k → M[i]? = some m → M[k]? = some n → m.task = n.task → r i k
  join : ∀ (i : Nat) (m : MK) (e : Int), M[i]? = some m → m.kind = 6 → el[m.other.toNat]? = some e → 0 ≤ e → r e.toNat i
  mark : ∀ (i : Nat) (t : TK) (b : Int), T[i]? = some t → 0 ≤ t.mark → bl[i + 1]? = some b → 0 ≤ b → r t.mark.toNat b.toNat
  prev : ∀ (i : Nat) (t : TK) (e b : Int), T[i]? = some t → 0 < t.prev → el[t.prev.toNat]? = some e → 0 ≤ e → bl[i + 1]? = some b → 0 ≤ b → r e.toNat b.toNat
  trans : ∀ a b c, r a b → r b c → r a c
  rule : ∀ (a b : Nat) (x y : TK) (e s : Int), a ≠ b → T[a]? = some x → T[b]? = some y → 0 ≤ x.looper → x.looper = y.looper → el[a + 1]? = some e → bl[b + 1]? = some s → 0 ≤ e → e < s →
    ((Seven x y ∧ 0 ≤ x.mark ∧ 0 ≤ y.mark ∧ r x.mark.toNat y.mark.toNat) ∨ ∃ s0 : Int, bl[a + 1]? = some s0 ∧ 0 ≤ s0 ∧ r s0.toNat s.toNat) → r e.toNat s.toNat
def HB (T : List TK) (M : List MK) (bl el : List Int) (a b : Nat) : Prop := ∀ r, Closed T M bl el r → r a b
section
variable {T : List TK} {M : List MK} {bl el : List Int}
theorem HB.closed : Closed T M bl el (HB T M bl el) where
  task i k m n h1 h2 h3 h4 r hr := hr.task i k m n h1 h2 h3 h4
  join i m e h1 h2 h3 h4 r hr := hr.join i m e h1 h2 h3 h4
  mark i t b h1 h2 h3 h4 r hr := hr.mark i t b h1 h2 h3 h4
  prev i t e b h1 h2 h3 h4 h5 h6 r hr := hr.prev i t e b h1 h2 h3 h4 h5 h6
  trans a b c h1 h2 r hr := hr.trans a b c (h1 r hr) (h2 r hr)
  rule a b x y e s h1 h2 h3 h4 h5 h6 h7 h8 h9 h10 r hr := hr.rule a b x y e s h1 h2 h3 h4 h5 h6 h7 h8 h9 (by
    rcases h10 with ⟨a, b, d, f⟩ | ⟨s0, a, b, d⟩
    · exact .inl ⟨a, b, d, f r hr⟩
    · exact .inr ⟨s0, a, b, d r hr⟩)
theorem RunOK.beg {l : List Int} (h : RunOK T M) {kd : Int} (hb : BE T M M.length kd l) {i : Nat} {v : Int} (hv : l[i]? = some v) (h0 : 0 ≤ v) : ∃ n, M[v.toNat]? = some n ∧ n.task = i ∧ n.kind = kd := by
  rcases hb.2 i v hv with ⟨h1, _⟩ | ⟨j, n, h1, h2, h3, h4⟩
  · omega
  · exact ⟨n, by rw [h1, show ((j : Int)).toNat = j by omega]; exact h3, h4⟩
theorem lt_closed (h : RunOK T M) (hb : BE T M M.length 1 bl) (he : BE T M M.length 2 el) : Closed T M bl el (fun a b => a < b ∧ b < M.length) where
  task i k m n h1 _ h3 _ := ⟨h1, list_lt h3⟩
  join i m e h1 h2 h3 h4 := by
    obtain ⟨o1, u, hu, _, j, n, hj, hn, hn1, hn2⟩ := (h.mks i m h1).join h2
    obtain ⟨n', h5, h6, h7⟩ := h.beg he h3 h4
    have := h.uniq2 h5 hn h7 hn2 (by omega)
    exact ⟨by omega, list_lt h1⟩
  mark i t b h1 h2 h3 h4 := by
    obtain ⟨n', h5, h6, h7⟩ := h.beg hb h3 h4
    have := (h.tk i t h1).later _ n' h5 (by omega)
    exact ⟨by omega, list_lt h5⟩
  prev i t e b h1 h2 h3 h4 h5 h6 := by
    obtain ⟨n1, h7, h8, h9⟩ := h.beg he h3 h4
    obtain ⟨n2, h10, h11, h12⟩ := h.beg hb h5 h6
    rcases (h.tk i t h1).prev with h13 | ⟨k, o, h13, _, _, _, _, _, _, h14⟩
    · omega
    · obtain ⟨j', n', h15, h16, h17, h18⟩ := h14 _ n2 h10 (by omega)
      have := h.uniq2 h7 h16 h9 h18 (by omega)
      exact ⟨by omega, list_lt h10⟩
  trans a b c h1 h2 := ⟨by omega, h2.2⟩
  rule a b x y e s _ _ _ _ _ _ h7 h8 h9 _ := by
    obtain ⟨n2, h10, h11, h12⟩ := h.beg hb h7 (by omega)
    exact ⟨by omega, list_lt h10⟩
theorem HB.lt (h : RunOK T M) (hb : BE T M M.length 1 bl) (he : BE T M M.length 2 el) {a b : Nat} (hab : HB T M bl el a b) : a < b ∧ b < M.length := hab _ (lt_closed h hb he)
/-- what is ordered on one looper is over -/
theorem RunOK.over (h : RunOK T M) (hb : BE T M M.length 1 bl) (he : BE T M M.length 2 el) {a b : Nat} {x y : TK} {s0 s e : Int} (hx : T[a]? = some x) (hy : T[b]? = some y) (hl : 0 ≤ x.looper) (hxy : x.looper = y.looper) (h1 : bl[a + 1]? = some s0) (h2 : bl[b + 1]? = some s) (h3 : el[a + 1]? = some e) (h0 : 0 ≤ s0) (hs : s0 < s) : 0 ≤ e ∧ e < s := by
  obtain ⟨m, h4, h5, h6⟩ := h.beg hb h1 h0
  obtain ⟨n, h7, h8, h9⟩ := h.beg hb h2 (by omega)
  obtain ⟨e', n', h10, h11, h12, h13⟩ := h.alone s0.toNat s.toNat m n x y (by omega) h4 h7 h6 h9 (by rw [h5]; simpa using hx) (by rw [h8]; simpa using hy) hl hxy
  rcases he.2 _ _ h3 with ⟨_, h14⟩ | ⟨j, n2, h14, _, h15, h16, h17⟩
  · exact absurd ⟨by omega, h13⟩ (h14 e' n' (list_lt h11) h11)
  · have := h.uniq2 h15 h11 h17 h13 (by omega)
    omega
/-- of one task's marks those beside one another are enough -/
theorem task_all {r : Nat → Nat → Prop} (htr : ∀ a b c, r a b → r b c → r a c) (hn : ∀ (i k : Nat) (m n : MK), i < k → M[i]? = some m → M[k]? = some n → m.task = n.task → (∀ (j : Nat) (x : MK), i < j → j < k → M[j]? = some x → x.task ≠ m.task) → r i k) :
    ∀ (k i : Nat) (m n : MK), i < k → M[i]? = some m → M[k]? = some n → m.task = n.task → r i k := by
  intro k
  induction k using Nat.strongRecOn with
  | _ k ih =>
    intro i m n hik hm hn' ht
    have key : ∀ d : Nat, (∀ (j : Nat) (x : MK), k - d ≤ j → j < k → i < j → M[j]? = some x → x.task ≠ m.task) ∨ ∃ (j : Nat) (x : MK), i < j ∧ j < k ∧ M[j]? = some x ∧ x.task = m.task ∧ ∀ (j' : Nat) (x : MK), j < j' → j' < k → M[j']? = some x → x.task ≠ m.task := by
      intro d
      induction d with
      | zero => exact .inl fun j x h1 h2 => by omega
      | succ d ihd =>
        rcases ihd with h | h
        · by_cases hc : i < k - (d + 1) ∧ k - (d + 1) < k
          · obtain ⟨x, hx⟩ := list_get (l := M) (j := k - (d + 1)) (by have := list_lt hn'; omega)
            by_cases hxt : x.task = m.task
            · exact .inr ⟨k - (d + 1), x, hc.1, hc.2, hx, hxt, fun j' x' h1 h2 h3 => h j' x' (by omega) h2 (by omega) h3⟩
            · refine .inl fun j x' h1 h2 h3 h4 => ?_
              by_cases hj : j = k - (d + 1)
              · subst hj; rw [hx] at h4; cases h4; exact hxt
              · exact h j x' (by omega) h2 h3 h4
          · exact .inl fun j x' h1 h2 h3 h4 => h j x' (by omega) h2 h3 h4
        · exact .inr h
    rcases key k with h | ⟨j, x, h1, h2, h3, h4, h5⟩
    · exact hn i k m n hik hm hn' ht fun j x h1 h2 h3 => h j x (by omega) h2 h1 h3
    · refine htr i j k (ih j h2 i m x h1 hm h3 h4.symm) (hn j k x n h2 h3 hn' (h4.trans ht) fun j' x' h6 h7 h8 => ?_)
      rw [h4]; exact h5 j' x' h6 h7 h8
end
/-! how many pairs are not there -/
def c1 (f : Nat → Bool) : Nat → Nat
  | 0 => 0
  | n + 1 => c1 f n + (if f n then 0 else 1)
def c2 (p : Nat → Nat → Bool) (m : Nat) : Nat → Nat
  | 0 => 0
  | n + 1 => c2 p m n + c1 (p n) m
theorem c1_le {f g : Nat → Bool} (h : ∀ i, f i = true → g i = true) : ∀ n, c1 g n ≤ c1 f n
  | 0 => Nat.le_refl _
  | n + 1 => by
    have := c1_le h n
    unfold c1
    by_cases hf : f n = true
    · rw [if_pos hf, if_pos (h n hf)]; omega
    · rw [if_neg hf]; split <;> omega
theorem c1_lt {f g : Nat → Bool} (h : ∀ i, f i = true → g i = true) {k : Nat} (hf : f k = false) (hg : g k = true) : ∀ n, k < n → c1 g n < c1 f n
  | 0, hk => by omega
  | n + 1, hk => by
    unfold c1
    by_cases hkn : k = n
    · subst hkn
      have := c1_le h k
      rw [hf, hg]; simp; omega
    · have := c1_lt h hf hg n (by omega)
      by_cases hf' : f n = true
      · rw [if_pos hf', if_pos (h n hf')]; omega
      · rw [if_neg hf']; split <;> omega
theorem c2_le {p q : Nat → Nat → Bool} (h : ∀ i j, p i j = true → q i j = true) (m : Nat) : ∀ n, c2 q m n ≤ c2 p m n
  | 0 => Nat.le_refl _
  | n + 1 => by
    have := c2_le h m n
    have := c1_le (h n) m
    unfold c2
    omega
theorem c2_lt {p q : Nat → Nat → Bool} (h : ∀ i j, p i j = true → q i j = true) {m a b : Nat} (hb : b < m) (hp : p a b = false) (hq : q a b = true) : ∀ n, a < n → c2 q m n < c2 p m n
  | 0, hk => by omega
  | n + 1, hk => by
    unfold c2
    by_cases han : a = n
    · subst han
      have := c2_le h m a
      have := c1_lt (h a) hp hq m hb
      omega
    · have := c2_lt h hb hp hq n (by omega)
      have := c1_le (h n) m
      omega
theorem meas {γ : Type} (X : γ → World → Prop) (f : γ → Nat) (hu : ∀ w g g', X g w → X g' w → f g = f g') : ∃ μ : World → Nat, ∀ w g, X g w → μ w = f g := by
  classical
  refine ⟨fun w => if h : ∃ g, X g w then f h.choose else 0, fun w g hg => ?_⟩
  have h : ∃ g, X g w := ⟨g, hg⟩
  simp only [dif_pos h]
  exact hu w _ _ h.choose_spec hg
end Go.Proofs.Ytedcfkigfcobaaa
end
/- Contracts: a closure is closed. -/
section
namespace Go.Proofs.Ytedcfkigfcobaaa
open Go Go.Proofs
attribute [local irreducible] Bc O AL BS MS MM ST AP CV Cl
theorem Has_row {rs : List Row} {a : Nat} {r : Row} (hr : rs[a]? = some r) (y : Nat) : Has rs a y = r.has y := by unfold Has; rw [hr]; rfl
theorem Has_lt {rs : List Row} {a b : Nat} (h : Has rs a b = true) : a < rs.length := by
  unfold Has at h
  rcases hr : rs[a]? with _ | r
  · rw [hr] at h; cases h
  · exact list_lt hr
section
variable {B : Base} {w : World} {L : List Atom} {tv mv rv bv ev : Value} {T : List TK} {M : List MK} {cb : Nat} {bl el : List Int}
set_option maxHeartbeats 4000000 in
set_option maxRecDepth 4000 in
theorem k56 {rs0 : List Row} (hw : Own B w (rA tv mv T M ++ (clA tv mv rv bv ev cb rs0 bl el ++ L))) {H : Nat → Nat → Prop} (hn : rs0.length ≤ 1200) (htr : ∀ a b c, H a b → H b c → H a c) (hlt : ∀ a b, H a b → a < b ∧ b < rs0.length) (hs : ∀ a b, Has rs0 a b = true → H a b) :
    Cl Try.prog 56 [pp cb] w fun v w' => v = .tuple #[] ∧ ∃ rs : List Row, rs.length = rs0.length ∧ (∀ a b, Has rs0 a b = true → Has rs a b = true) ∧ (∀ a b, Has rs a b = true → H a b) ∧ (∀ a b c, Has rs a b = true → Has rs b c = true → Has rs a c = true) ∧ Own B w' (rA tv mv T M ++ (clA tv mv rv bv ev cb rs bl el ++ L)) := by
  obtain ⟨R, hR⟩ : ∃ R : Value → World → Prop, R = fun v w' => v = .tuple #[] ∧ ∃ rs : List Row, rs.length = rs0.length ∧ (∀ a b, Has rs0 a b = true → Has rs a b = true) ∧ (∀ a b, Has rs a b = true → H a b) ∧ (∀ a b c, Has rs a b = true → Has rs b c = true → Has rs a c = true) ∧ Own B w' (rA tv mv T M ++ (clA tv mv rv bv ev cb rs bl el ++ L)) := ⟨_, rfl⟩
  rw [← hR]
  refine s56 ?_
  unfold c56
  (repeat with_reducible first | refine qq ?_ | refine qr ?_ | refine qs ?_ | refine hw.l 2 ?_)
  refine O.mk (hw.slLen 3 rfl) ?_
  (repeat with_reducible first | refine qq ?_ | refine qr ?_ | refine qs ?_)
  obtain ⟨I0, hI⟩ : ∃ I : Value → World → Prop, I = fun v w' => ∃ (a : Int) (rs : List Row), v = .int .i64 a ∧ -1 ≤ a ∧ a < rs0.length ∧ rs.length = rs0.length ∧ (∀ a b, Has rs0 a b = true → Has rs a b = true) ∧ (∀ a b, Has rs a b = true → H a b) ∧ (∀ (x y z : Nat), a < x → Has rs x y = true → Has rs y z = true → Has rs x z = true) ∧ Own B w' (rA tv mv T M ++ (clA tv mv rv bv ev cb rs bl el ++ L)) := ⟨_, rfl⟩
  obtain ⟨m0, hm⟩ : ∃ m : Value → World → Nat, m = fun v _ => match v with | .int _ i => (i + 1).toNat | _ => 0 := ⟨_, rfl⟩
  refine ⟨I0, m0, by rw [hI]; exact ⟨(rs0.length : Int) - 1, rs0, rfl, by omega, by omega, rfl, fun _ _ h => h, hs, fun x y z h1 h2 h3 => by have := Has_lt h2; omega, hw⟩, ?_⟩
  clear hw
  intro t2 wh0 h0
  rw [hI] at h0
  obtain ⟨a, rs, rfl, ha1, ha2, hl, hsub, hsn, hdone, hw1⟩ := h0
  (repeat with_reducible first | refine qq ?_ | refine qr ?_ | refine qs ?_)
  refine Bc_dec (fun hge => ?_) (fun hlt0 => ?_)
  · (repeat with_reducible first | refine qq ?_ | refine qr ?_ | refine qs ?_)
    obtain ⟨n, rfl⟩ : ∃ n : Nat, a = n := ⟨a.toNat, by omega⟩
    obtain ⟨I1, hI1⟩ : ∃ I : Value → World → Prop, I = fun v w' => ∃ (b : Nat) (rs : List Row), v = .int .i64 b ∧ n < b ∧ b ≤ rs0.length ∧ rs.length = rs0.length ∧ (∀ a b, Has rs0 a b = true → Has rs a b = true) ∧ (∀ a b, Has rs a b = true → H a b) ∧ (∀ (x y z : Nat), n < x → Has rs x y = true → Has rs y z = true → Has rs x z = true) ∧ (∀ (y z : Nat), y < b → Has rs n y = true → Has rs y z = true → Has rs n z = true) ∧ Own B w' (rA tv mv T M ++ (clA tv mv rv bv ev cb rs bl el ++ L)) := ⟨_, rfl⟩
    obtain ⟨m1, hm1⟩ : ∃ m : Value → World → Nat, m = fun v _ => match v with | .int _ i => (rs0.length - i).toNat | _ => 0 := ⟨_, rfl⟩
    refine ⟨I1, m1, by rw [hI1]; exact ⟨n + 1, rs, rfl, by omega, by omega, hl, hsub, hsn, fun x y z h1 => hdone x y z (by omega), fun y z h1 h2 => by have := (hlt n y (hsn n y h2)).1; omega, hw1⟩, ?_⟩
    clear hw1 hdone hsn hsub hl rs
    intro t3 wh1 h1
    rw [hI1] at h1
    obtain ⟨b, rs, rfl, hb1, hb2, hl, hsub, hsn, hdone, hpart, hw1⟩ := h1
    (repeat with_reducible first | refine qq ?_ | refine qr ?_ | refine qs ?_ | refine hw1.l 2 ?_)
    refine O.mk (hw1.slLen 3 rfl) ?_
    (repeat with_reducible first | refine qq ?_ | refine qr ?_ | refine qs ?_)
    refine Bc_dec (fun hlb => ?_) (fun hgb => ?_)
    · obtain ⟨ra, hra⟩ := list_get (l := rs) (j := n) (by omega)
      obtain ⟨rb, hrb⟩ := list_get (l := rs) (j := b) (by omega)
      obtain ⟨br, hix, hrd, _⟩ := hw1.el 3 rfl encRow_len hra
      (repeat with_reducible first | refine qq ?_ | refine qr ?_ | refine qs ?_ | refine hw1.l 2 ?_)
      refine O.mk (hix _ _ (by omega) (by omega)) ?_
      rw [show ((n : Int)).toNat = n by omega]
      refine (k63 hrd (i := b) (by omega)).use ?_
      rintro _ w9 ⟨rfl, h9⟩
      rw [h9]
      clear h9 w9
      (repeat with_reducible first | refine qq ?_ | refine qr ?_ | refine qs ?_)
      clear hrd hix
      have hNext : ∀ (rs' : List Row) w', rs'.length = rs0.length → (∀ a b, Has rs0 a b = true → Has rs' a b = true) → (∀ a b, Has rs' a b = true → H a b) → (∀ (x y z : Nat), n < x → Has rs' x y = true → Has rs' y z = true → Has rs' x z = true) → (∀ (y z : Nat), y < b + 1 → Has rs' n y = true → Has rs' y z = true → Has rs' n z = true) →
          Own B w' (rA tv mv T M ++ (clA tv mv rv bv ev cb rs' bl el ++ L)) → j56_0 R (.int .i64 b) I1 m1 wh1 w' := by
        intro rs' w' h1 h2 h3 h4 h5 h6
        unfold j56_0
        refine O.mk (bi_addb (a := b) (b := 1) (by omega)) ?_
        rw [hI1, hm1]
        exact ⟨⟨b + 1, rs', rfl, by omega, by omega, h1, h2, h3, h4, h5, h6⟩, by simp only; omega⟩
      rcases hh : ra.has b with _ | _
      · refine Bc_t ?_
        refine hNext rs wh1 hl hsub hsn hdone (fun y z h1 h2 h3 => ?_) hw1
        by_cases hyb : y = b
        · subst hyb; rw [Has_row hra, hh] at h2; cases h2
        · exact hpart y z (by omega) h2 h3
      · refine Bc_f ?_
        have hab : Has rs n b = true := by rw [Has_row hra]; exact hh
        obtain ⟨I2, hI2⟩ : ∃ I : Value → World → Prop, I = fun v w' => ∃ (k : Nat) (r : Row), v = .int .i64 k ∧ k ≤ 19 ∧ (∀ i, r.has i = (ra.has i || (decide (i / 64 < k) && rb.has i))) ∧ Own B w' (rA tv mv T M ++ (clA tv mv rv bv ev cb (rs.set n r) bl el ++ L)) := ⟨_, rfl⟩
        obtain ⟨m2, hm2⟩ : ∃ m : Value → World → Nat, m = fun v _ => match v with | .int _ i => (19 - i).toNat | _ => 0 := ⟨_, rfl⟩
        refine ⟨I2, m2, by rw [hI2]; exact ⟨0, ra, rfl, by omega, fun i => by simp, by rw [set_id hra]; exact hw1⟩, ?_⟩
        clear hw1
        intro t35 wh2 h2
        rw [hI2] at h2
        obtain ⟨k, r, rfl, hk, hor, hw2⟩ := h2
        have hrn : (rs.set n r)[n]? = some r := set_self hra
        have hrb' : (rs.set n r)[b]? = some rb := get_set (by omega) hrb
        (repeat with_reducible first | refine qq ?_ | refine qr ?_ | refine qs ?_)
        refine Bc_dec (fun hlk => ?_) (fun hgk => ?_)
        · refine hw2.dr fun w3 hw3 => ?_
          clear hw2
          obtain ⟨ba, hixa, hrda, _⟩ := hw3.el 3 rfl encRow_len hrn
          obtain ⟨bb', hixb, hrdb, _⟩ := hw3.el 3 rfl encRow_len hrb'
          (repeat with_reducible first | refine qq ?_ | refine qr ?_ | refine qs ?_ | refine hw3.l 2 ?_)
          refine O.mk (hixa _ _ (by omega) (by omega)) ?_
          refine O.mk (iA_p (by omega) (by omega)) ?_
          rw [show ((n : Int)).toNat = n by omega, show ((k : Int)).toNat * 1 = k by omega]
          refine O.mk (hrda _ _ (encRow_get (by omega))) ?_
          (repeat with_reducible first | refine qq ?_ | refine qr ?_ | refine qs ?_ | refine hw3.l 2 ?_)
          refine O.mk (hixb _ _ (by omega) (by omega)) ?_
          refine O.mk (iA_p (by omega) (by omega)) ?_
          rw [show ((b : Int)).toNat = b by omega, show ((k : Int)).toNat * 1 = k by omega]
          refine O.mk (hrdb _ _ (encRow_get (by omega))) ?_
          refine O.mk (bi_or (r.wlt _) (rb.wlt _)) ?_
          refine O.mk (hixa _ _ (by omega) (by omega)) ?_
          refine O.mk (iA_p (by omega) (by omega)) ?_
          rw [show ((k : Int)).toNat * 1 = k by omega]
          refine hw3.elst 3 rfl encRow_len hrn (x' := r.put k (r.ws[k]?.getD 0 ||| rb.ws[k]?.getD 0) (Nat.or_lt_two_pow (r.wlt _) (rb.wlt _))) (hixa .i64 (n : Int) (by omega) (by omega)) (by omega) (by kernel_rfl) rfl (by show k + 1 ≤ 19; omega) (encRow_put _ (by omega)) fun w4 hw4 => ?_
          refine O.mk (bi_addb (a := k) (b := 1) (by omega)) ?_
          rw [hI2, hm2]
          rw [List.set_set] at hw4
          refine ⟨⟨k + 1, _, rfl, by omega, fun i => ?_, hw4⟩, by simp only; omega⟩
          rw [Row.has_put _ (by omega)]
          by_cases hik : i / 64 = k
          · rw [if_pos hik, Nat.testBit_or]
            have e1 : (r.ws[k]?.getD 0).testBit (i % 64) = r.has i := by unfold Row.has; rw [hik]
            have e2 : (rb.ws[k]?.getD 0).testBit (i % 64) = rb.has i := by unfold Row.has; rw [hik]
            rw [e1, e2, hor i, decide_eq_false (by omega), decide_eq_true (by omega)]
            simp
          · rw [if_neg hik, hor i]
            congr 2
            rw [decide_eq_decide]
            omega
        · have hk19 : k = 19 := by omega
          have hfull : ∀ i, r.has i = (ra.has i || rb.has i) := fun i => by
            rw [hor i]
            by_cases hi : i / 64 < k
            · rw [decide_eq_true hi]; simp
            · have : rb.has i = false := by
                unfold Row.has
                rw [List.getElem?_eq_none (by rw [rb.len]; omega)]
                simp
              rw [this]; simp
          have hHa : ∀ y, Has (rs.set n r) n y = (Has rs n y || Has rs b y) := fun y => by
            rw [Has_row hrn, hfull, Has_row hra, Has_row hrb]
          have hHo : ∀ x y, x ≠ n → Has (rs.set n r) x y = Has rs x y := fun x y hx => by rw [Has_set hra, if_neg hx]
          have hmono : ∀ x y, Has rs x y = true → Has (rs.set n r) x y = true := fun x y h => by
            by_cases hx : x = n
            · subst hx; rw [hHa, h]; rfl
            · rw [hHo x y hx]; exact h
          refine hNext (rs.set n r) wh2 (by simpa using hl) (fun x y h => hmono x y (hsub x y h)) (fun x y h => ?_) (fun x y z h1 h2 h3 => ?_) (fun y z h1 h2 h3 => ?_) hw2
          · by_cases hx : x = n
            · subst hx
              rw [hHa, Bool.or_eq_true] at h
              rcases h with h | h
              · exact hsn x y h
              · exact htr x b y (hsn x b hab) (hsn b y h)
            · rw [hHo x y hx] at h; exact hsn x y h
          · rw [hHo x y (by omega)] at h2
            have hxy := hlt x y (hsn x y h2)
            rw [hHo y z (by omega)] at h3
            rw [hHo x z (by omega)]
            exact hdone x y z h1 h2 h3
          · rw [hHa] at h2
            have hyn : n < y := by
              rw [Bool.or_eq_true] at h2
              rcases h2 with h | h
              · exact (hlt n y (hsn n y h)).1
              · have := (hlt b y (hsn b y h)).1; omega
            rw [hHo y z (by omega)] at h3
            rw [hHa, Bool.or_eq_true]
            rw [Bool.or_eq_true] at h2
            rcases h2 with h | h
            · by_cases hyb : y = b
              · subst hyb; exact .inr h3
              · exact .inl (hpart y z (by omega) h h3)
            · have := (hlt b y (hsn b y h)).1; omega
    · refine O.sub (a := n) (b := 1) (by omega) ?_
      rw [hI, hm]
      refine ⟨⟨(n : Int) - 1, rs, rfl, by omega, by omega, hl, hsub, hsn, fun x y z h1 h2 h3 => ?_, hw1⟩, by simp only; omega⟩
      by_cases hx : x = n
      · subst hx
        have := (hlt x y (hsn x y h2)).2
        exact hpart y z (by omega) h2 h3
      · exact hdone x y z (by omega) h2 h3
  · rw [hR]
    exact ⟨rfl, rs, hl, hsub, hsn, fun x y z h1 h2 => hdone x y z (by omega) h1 h2, hw1⟩
end
end Go.Proofs.Ytedcfkigfcobaaa
end
/- Contracts: the rules 1 to 6. -/
section
namespace Go.Proofs.Ytedcfkigfcobaaa
open Go Go.Proofs
attribute [local irreducible] Bc O AL BS MS MM ST AP CV Cl
/-- the rules 1 to 6, as far as they are laid -/
structure Laid (T : List TK) (M : List MK) (bl el : List Int) (i k : Nat) (h : Nat → Nat → Bool) : Prop where
  next : ∀ (a b : Nat) (m n : MK), b < i → a < b → M[a]? = some m → M[b]? = some n → m.task = n.task → (∀ (j : Nat) (x : MK), a < j → j < b → M[j]? = some x → x.task ≠ m.task) → h a b = true
  join : ∀ (b : Nat) (m : MK) (e : Int), b < i → M[b]? = some m → m.kind = 6 → el[m.other.toNat]? = some e → 0 ≤ e → h e.toNat b = true
  mark : ∀ (q : Nat) (t : TK) (b : Int), q < k → T[q]? = some t → 0 ≤ t.mark → bl[q + 1]? = some b → 0 ≤ b → h t.mark.toNat b.toNat = true
  prev : ∀ (q : Nat) (t : TK) (e b : Int), q < k → T[q]? = some t → 0 < t.prev → el[t.prev.toNat]? = some e → 0 ≤ e → bl[q + 1]? = some b → 0 ≤ b → h e.toNat b.toNat = true
theorem Laid.mono {T : List TK} {M : List MK} {bl el : List Int} {i k : Nat} {h h' : Nat → Nat → Bool} (hl : Laid T M bl el i k h) (hm : ∀ a b, h a b = true → h' a b = true) : Laid T M bl el i k h' :=
  ⟨fun a b m n h1 h2 h3 h4 h5 h6 => hm _ _ (hl.next a b m n h1 h2 h3 h4 h5 h6), fun b m e h1 h2 h3 h4 h5 => hm _ _ (hl.join b m e h1 h2 h3 h4 h5), fun q t b h1 h2 h3 h4 h5 => hm _ _ (hl.mark q t b h1 h2 h3 h4 h5), fun q t e b h1 h2 h3 h4 h5 h6 h7 => hm _ _ (hl.prev q t e b h1 h2 h3 h4 h5 h6 h7)⟩
/-- what an add does -/
def Added (rs rs' : List Row) (a b : Int) : Prop := rs'.length = rs.length ∧ (∀ x y, Has rs x y = true → Has rs' x y = true) ∧ (0 ≤ a → 0 ≤ b → Has rs' a.toNat b.toNat = true) ∧ ∀ x y, Has rs' x y = true → Has rs x y = true ∨ (0 ≤ a ∧ 0 ≤ b ∧ x = a.toNat ∧ y = b.toNat)
section
variable {B : Base} {w : World} {L : List Atom} {tv mv rv bv ev : Value} {T : List TK} {M : List MK} {cb : Nat} {rs : List Row} {bl el : List Int}
theorem k62a (hw : Own B w (rA tv mv T M ++ (clA tv mv rv bv ev cb rs bl el ++ L))) {a b : Int} (ha : a < rs.length) (hb : b < 1216) :
    Cl Try.prog 62 [pp cb, .int .i64 a, .int .i64 b] w fun v w' => (∃ c : Bool, v = .bool c) ∧ ∃ (rs' : List Row), Added rs rs' a b ∧ Own B w' (rA tv mv T M ++ (clA tv mv rv bv ev cb rs' bl el ++ L)) := by
  refine (k62 hw ha hb).use ?_
  rintro _ w' ⟨c, rs', rfl, ⟨_, rfl, h⟩ | ⟨_, h1, h2, h3, h4, h5⟩, hw'⟩
  · exact ⟨⟨c, rfl⟩, rs', ⟨rfl, fun _ _ h => h, h, fun _ _ h => .inl h⟩, hw'⟩
  · refine ⟨⟨c, rfl⟩, rs', ⟨h4, fun x y h => by rw [h5, h]; rfl, fun _ _ => by rw [h5]; simp, fun x y h => ?_⟩, hw'⟩
    rw [h5, Bool.or_eq_true] at h
    rcases h with h | h
    · exact .inl h
    · have := of_decide_eq_true h
      exact .inr ⟨h1, h2, this⟩
set_option maxHeartbeats 4000000 in
set_option maxRecDepth 4000 in
theorem k55 {rs0 : List Row} (hw : Own B w (rA tv mv T M ++ (clA tv mv rv bv ev cb rs0 bl el ++ L))) (hr : RunOK T M) (hb : BE T M M.length 1 bl) (he : BE T M M.length 2 el) (hn : M.length ≤ 1200) (hT : T.length ≤ 256) (hl0 : rs0.length = M.length) (hz : ∀ a b, Has rs0 a b = false) :
    Cl Try.prog 55 [pp cb] w fun v w' => v = .tuple #[] ∧ ∃ rs : List Row, rs.length = M.length ∧ (∀ a b, Has rs a b = true → HB T M bl el a b) ∧ Laid T M bl el M.length T.length (Has rs) ∧ Own B w' (rA tv mv T M ++ (clA tv mv rv bv ev cb rs bl el ++ L)) := by
  obtain ⟨R, hR⟩ : ∃ R : Value → World → Prop, R = fun v w' => v = .tuple #[] ∧ ∃ rs : List Row, rs.length = M.length ∧ (∀ a b, Has rs a b = true → HB T M bl el a b) ∧ Laid T M bl el M.length T.length (Has rs) ∧ Own B w' (rA tv mv T M ++ (clA tv mv rv bv ev cb rs bl el ++ L)) := ⟨_, rfl⟩
  rw [← hR]
  have hbl := hb.1
  have hel := he.1
  have hC := HB.closed (T := T) (M := M) (bl := bl) (el := el)
  have posB : ∀ (kd : Int) (l : List Int), BE T M M.length kd l → ∀ (x : Nat) (v : Int), l[x]? = some v → v < M.length := fun kd l hl x v hv => by
    rcases hl.2 x v hv with ⟨h1, _⟩ | ⟨j, n, h1, h2, _⟩ <;> omega
  refine s55 ?_
  unfold c55
  refine hw.mm encI encI fun mb w1 hw1' => ?_
  have hw1 : Own B w1 (rA tv mv T M ++ (clA tv mv rv bv ev cb rs0 bl el ++ (mpA encI encI mb (fun _ => none) :: L))) := hw1'.perm (List.perm_middle (l₁ := rA tv mv T M ++ clA tv mv rv bv ev cb rs0 bl el)).symm
  clear hw1' hw
  (repeat with_reducible first | refine qq ?_ | refine qr ?_ | refine qs ?_ | refine hw1.l 2 ?_)
  refine O.mk (hw1.slLen 1 rfl) ?_
  obtain ⟨I0, hI⟩ : ∃ I : Value → World → Prop, I = fun v w' => ∃ (i : Nat) (g : Int → Option Int) (rs : List Row), v = .int .i64 i ∧ i ≤ M.length ∧ rs.length = M.length ∧ (∀ a b, Has rs a b = true → HB T M bl el a b) ∧ Laid T M bl el i 0 (Has rs) ∧
      (∀ x k, g x = some k → ∃ (j : Nat) (n : MK), k = j ∧ j < i ∧ M[j]? = some n ∧ n.task = x ∧ ∀ (j' : Nat) (y : MK), j < j' → j' < i → M[j']? = some y → y.task ≠ x) ∧ (∀ x, g x = none → ∀ (j : Nat) (y : MK), j < i → M[j]? = some y → y.task ≠ x) ∧
      Own B w' (rA tv mv T M ++ (clA tv mv rv bv ev cb rs bl el ++ (mpA encI encI mb g :: L))) := ⟨_, rfl⟩
  obtain ⟨m0, hm⟩ : ∃ m : Value → World → Nat, m = fun v _ => match v with | .int _ i => (M.length - i).toNat | _ => 0 := ⟨_, rfl⟩
  refine ⟨I0, m0, by rw [hI]; exact ⟨0, _, rs0, rfl, by omega, hl0, (fun a b h => by rw [hz] at h; cases h), ⟨fun _ _ _ _ h => by omega, fun _ _ _ h => by omega, fun _ _ _ h => by omega, fun _ _ _ _ h => by omega⟩, (fun x k h => by cases h), fun x _ j y h => by omega, hw1⟩, ?_⟩
  clear hw1
  intro t16 wh0 h0
  rw [hI] at h0
  obtain ⟨i, g, rs, rfl, hi, hl, hsn, hlaid, hg1, hg2, hw2⟩ := h0
  (repeat with_reducible first | refine qq ?_ | refine qr ?_ | refine qs ?_)
  refine Bc_dec (fun hlt => ?_) (fun hge => ?_)
  · obtain ⟨m, hmm⟩ := list_get (l := M) (j := i) (by omega)
    have hok := hr.mks i m hmm
    obtain ⟨bm, hixm, hrdm, hrdN⟩ := hw2.el 1 rfl encMK_len hmm
    refine O.mk (hixm _ _ (by omega) (by omega)) ?_
    rw [show ((i : Int)).toNat = i by omega]
    refine O.mk hrdN ?_
    refine hw2.al fun b5 w3 hb5 hw3' => ?_
    clear hrdm hrdN hixm
    have hw3 : Own B w3 (rA tv mv T M ++ (clA tv mv rv bv ev cb rs bl el ++ (bk b5 67 [.int .i64 0, .int .i64 0, .int .i64 0, .int .i64 0, .int .i64 0, .int .i64 0, .int .i64 0, .bool false] :: mpA encI encI mb g :: L))) := hw3'.perm (List.perm_middle (l₁ := rA tv mv T M ++ clA tv mv rv bv ev cb rs bl el)).symm
    clear hw3' hw2
    refine hw3.st_bk (x := .agg (encMK m).toArray) 6 rfl (by kernel_rfl) (encMK_one m) (Nat.le_refl 8) fun w4 hw4 => ?_
    clear hw3
    replace hw4 : Own B w4 (rA tv mv T M ++ (clA tv mv rv bv ev cb rs bl el ++ (bk b5 67 (encMK m) :: mpA encI encI mb g :: L))) := hw4
    have JN : ∀ (rs' : List Row) w', rs'.length = M.length → (∀ a b, Has rs' a b = true → HB T M bl el a b) → Laid T M bl el (i + 1) 0 (Has rs') → Own B w' (rA tv mv T M ++ (clA tv mv rv bv ev cb rs' bl el ++ (bk b5 67 (encMK m) :: mpA encI encI mb (upd g m.task (i : Int)) :: L))) → j55_0 R (.int .i64 i) I0 m0 wh0 w' := by
      intro rs' w' h1 h2 h3 hw'
      unfold j55_0
      refine O.mk (bi_addb (a := i) (b := 1) (by omega)) ?_
      rw [hI, hm]
      refine ⟨⟨i + 1, _, rs', rfl, by omega, h1, h2, h3, fun x k hx => ?_, fun x hx j y hj hy => ?_, (hw'.perm (List.perm_middle (l₁ := rA tv mv T M ++ clA tv mv rv bv ev cb rs' bl el))).tail⟩, by simp only; omega⟩
      · unfold upd at hx
        by_cases hxt : x = m.task
        · rw [if_pos hxt] at hx; cases hx
          exact ⟨i, m, rfl, by omega, hmm, hxt.symm, fun j' y h4 h5 => by omega⟩
        · rw [if_neg hxt] at hx
          obtain ⟨j, n, h4, h5, h6, h7, h8⟩ := hg1 x k hx
          refine ⟨j, n, h4, by omega, h6, h7, fun j' y h9 h10 h11 => ?_⟩
          by_cases hji : j' = i
          · subst hji; rw [hmm] at h11; cases h11; exact fun h => hxt h.symm
          · exact h8 j' y h9 (by omega) h11
      · unfold upd at hx
        by_cases hxt : x = m.task
        · rw [if_pos hxt] at hx; cases hx
        · rw [if_neg hxt] at hx
          by_cases hji : j = i
          · subst hji; rw [hmm] at hy; cases hy; exact fun h => hxt h.symm
          · exact hg2 x hx j y (by omega) hy
    have J1 : ∀ (rs' : List Row) w', rs'.length = M.length → (∀ a b, Has rs' a b = true → HB T M bl el a b) → Laid T M bl el i 0 (Has rs') → (∀ (a : Nat) (m' : MK), a < i → M[a]? = some m' → m'.task = m.task → (∀ (j : Nat) (x : MK), a < j → j < i → M[j]? = some x → x.task ≠ m'.task) → Has rs' a i = true) →
        Own B w' (rA tv mv T M ++ (clA tv mv rv bv ev cb rs' bl el ++ (bk b5 67 (encMK m) :: mpA encI encI mb g :: L))) → j55_1 R (pp b5) (.map (some mb)) (.int .i64 i) (pp cb) I0 m0 wh0 w' := by
      intro rs' w' h1 h2 h3 h4 hw'
      unfold j55_1
      (repeat with_reducible first | refine qq ?_ | refine qr ?_ | refine qs ?_ | refine hw'.l 6 ?_)
      refine hw'.mset 7 rfl (intKey und3) und172 m.task (i : Int) fun w6 hw6 => ?_
      clear hw'
      have hnext : ∀ (a b : Nat) (m' n : MK), b < i + 1 → a < b → M[a]? = some m' → M[b]? = some n → m'.task = n.task → (∀ (j : Nat) (x : MK), a < j → j < b → M[j]? = some x → x.task ≠ m'.task) → Has rs' a b = true := fun a b m' n h5 h6 h7 h8 h9 h10 => by
        by_cases hbi : b = i
        · subst hbi; rw [hmm] at h8; cases h8
          exact h4 a m' h6 h7 h9 h10
        · exact h3.next a b m' n (by omega) h6 h7 h8 h9 h10
      (repeat with_reducible first | refine qq ?_ | refine qr ?_ | refine qs ?_ | refine hw6.l 6 ?_)
      refine Bc_dec (fun k6 => ?_) (fun k6 => ?_)
      · refine hw6.dr fun w7 hw7 => ?_
        clear hw6
        obtain ⟨o1, t, ht, _⟩ := hok.join k6
        have hol := list_lt ht
        obtain ⟨ve, hve⟩ := list_get (l := el) (j := m.other.toNat) (by omega)
        obtain ⟨b1, hix1, hrd1⟩ := hw7.eli 5 rfl hve
        (repeat with_reducible first | refine qq ?_ | refine qr ?_ | refine qs ?_ | refine hw7.l 2 ?_ | refine hw7.l 6 ?_)
        refine O.mk (hix1 _ _ (by omega) rfl) ?_
        refine O.mk hrd1 ?_
        have hve2 := posB 2 el he _ _ hve
        refine (k62a hw7 (a := ve) (b := i) (by omega) (by omega)).use ?_
        rintro _ w8 ⟨⟨c, rfl⟩, rs2, ⟨d1, d2, d3, d4⟩, hw8⟩
        refine JN rs2 w8 (d1.trans h1) (fun a b h => ?_) ⟨fun a b m' n h5 h6 h7 h8 h9 h10 => d2 _ _ (hnext a b m' n h5 h6 h7 h8 h9 h10), fun b m' e h5 h6 h7 h8 h9 => ?_, fun q t b h => by omega, fun q t e b h => by omega⟩ hw8
        · rcases d4 a b h with h5 | ⟨h5, _, e1, e2⟩
          · exact h2 a b h5
          · rw [e1, e2]; exact hC.join i m ve hmm k6 hve h5
        · by_cases hbi : b = i
          · subst hbi; rw [hmm] at h6; cases h6
            rw [hve] at h8; cases h8
            exact d3 h9 (by omega)
          · exact d2 _ _ (h3.join b m' e (by omega) h6 h7 h8 h9)
      · refine JN rs' w6 h1 h2 ⟨hnext, fun b m' e h5 h6 h7 h8 h9 => ?_, fun q t b h => by omega, fun q t e b h => by omega⟩ hw6
        by_cases hbi : b = i
        · subst hbi; rw [hmm] at h6; cases h6
          exact absurd h7 k6
        · exact h3.join b m' e (by omega) h6 h7 h8 h9
    (repeat with_reducible first | refine qq ?_ | refine qr ?_ | refine qs ?_ | refine hw4.l 6 ?_)
    refine hw4.mlook 7 rfl (intKey und3) und172 zer3 m.task true ?_
    rcases hgt : g m.task with _ | k
    · refine O.mk (v := .int .i64 0) rfl ?_
      refine O.mk (v := .bool false) rfl ?_
      refine Bc_f ?_
      exact J1 rs _ hl hsn hlaid (fun a m' h5 h6 h7 _ => absurd h7 (hg2 _ hgt a m' h5 h6)) hw4
    · obtain ⟨j, n, rfl, h5, h6, h7, h8⟩ := hg1 _ _ hgt
      refine O.mk (v := .int .i64 j) rfl ?_
      refine O.mk (v := .bool true) rfl ?_
      refine Bc_t ?_
      refine (k62a hw4 (a := j) (b := i) (by omega) (by omega)).use ?_
      rintro _ w8 ⟨⟨c, rfl⟩, rs2, ⟨d1, d2, d3, d4⟩, hw8⟩
      refine J1 rs2 w8 (d1.trans hl) (fun a b h => ?_) (hlaid.mono d2) (fun a m' h9 h10 h11 h12 => ?_) hw8
      · rcases d4 a b h with h9 | ⟨_, _, e1, e2⟩
        · exact hsn a b h9
        · rw [e1, e2, show ((j : Int)).toNat = j by omega, show ((i : Int)).toNat = i by omega]
          exact hC.task j i n m h5 h6 hmm h7
      · have haj : a = j := by
          rcases Nat.lt_trichotomy a j with hh | hh | hh
          · exact absurd (h7.trans h11.symm) (h12 j n hh h5 h6)
          · exact hh
          · exact absurd h11 (h8 a m' hh h9 h10)
        subst haj
        have := d3 (by omega) (by omega)
        rw [show ((a : Int)).toNat = a by omega, show ((i : Int)).toNat = i by omega] at this
        exact this
  · have hie : i = M.length := by omega
    subst hie
    (repeat with_reducible first | refine qq ?_ | refine qr ?_ | refine qs ?_ | refine hw2.l 2 ?_)
    refine O.mk (hw2.slLen 0 rfl) ?_
    obtain ⟨I1, hI1⟩ : ∃ I : Value → World → Prop, I = fun v w' => ∃ (q : Nat) (rs : List Row), v = .int .i64 q ∧ q ≤ T.length ∧ rs.length = M.length ∧ (∀ a b, Has rs a b = true → HB T M bl el a b) ∧ Laid T M bl el M.length q (Has rs) ∧
      Own B w' (rA tv mv T M ++ (clA tv mv rv bv ev cb rs bl el ++ (mpA encI encI mb g :: L))) := ⟨_, rfl⟩
    obtain ⟨m1, hm1⟩ : ∃ m : Value → World → Nat, m = fun v _ => match v with | .int _ i => (T.length - i).toNat | _ => 0 := ⟨_, rfl⟩
    refine ⟨I1, m1, by rw [hI1]; exact ⟨0, rs, rfl, by omega, hl, hsn, hlaid, hw2⟩, ?_⟩
    clear hw2 hlaid hsn hl rs
    intro t58 wh1 h1
    rw [hI1] at h1
    obtain ⟨q, rs, rfl, hq, hl, hsn, hlaid, hw3⟩ := h1
    (repeat with_reducible first | refine qq ?_ | refine qr ?_ | refine qs ?_)
    refine Bc_dec (fun hlt => ?_) (fun hge2 => ?_)
    · obtain ⟨t, ht⟩ := list_get (l := T) (j := q) (by omega)
      have htr := hr.tk q t ht
      obtain ⟨bm, hixm, hrdm, hrdN⟩ := hw3.el 0 rfl encTK_len ht
      refine O.mk (hixm _ _ (by omega) (by omega)) ?_
      rw [show ((q : Int)).toNat = q by omega]
      refine O.mk hrdN ?_
      refine hw3.al fun b8 w7 hb8 hw7' => ?_
      clear hrdm hrdN hixm
      have hw7 : Own B w7 (rA tv mv T M ++ (clA tv mv rv bv ev cb rs bl el ++ (bk b8 73 [.int .i64 0, .int .i64 0, .int .i64 0, .int .i64 0, .int .i64 0, .int .i64 0, .int .i64 0, .bool false, .int .i64 0, .int .i64 0, .int .i64 0, .int .i64 0, .int .i64 0, .int .i64 0, .int .i64 0] :: mpA encI encI mb g :: L))) := hw7'.perm (List.perm_middle (l₁ := rA tv mv T M ++ clA tv mv rv bv ev cb rs bl el)).symm
      clear hw7' hw3
      refine hw7.st_bk (x := .agg (encTK t).toArray) 6 rfl (by kernel_rfl) (encTK_one t) (Nat.le_refl 15) fun w8 hw8 => ?_
      clear hw7
      replace hw8 : Own B w8 (rA tv mv T M ++ (clA tv mv rv bv ev cb rs bl el ++ (bk b8 73 (encTK t) :: mpA encI encI mb g :: L))) := hw8
      refine hw8.dr fun w9 hw9 => ?_
      clear hw8
      obtain ⟨vb, hvb⟩ := list_get (l := bl) (j := q + 1) (by omega)
      have hvb2 := posB 1 bl hb _ _ hvb
      obtain ⟨b1, hix1, hrd1⟩ := hw9.eli 4 rfl hvb
      (repeat with_reducible first | refine qq ?_ | refine qr ?_ | refine qs ?_ | refine hw9.l 2 ?_ | refine hw9.l 6 ?_)
      refine O.mk (hix1 _ _ (by omega) (by omega)) ?_
      rw [show ((q : Int) + 1).toNat = q + 1 by omega]
      refine O.mk hrd1 ?_
      have hmk : t.mark < M.length := by
        have h0 := htr.mark0
        have hkd := htr.kind
        by_cases h3 : t.kind = 3
        · rcases htr.markE h3 with h | ⟨_, n, h4, _⟩
          · omega
          · have := list_lt h4; omega
        · by_cases h45 : t.kind = 4 ∨ t.kind = 5
          · obtain ⟨_, n, h4, _⟩ := htr.markP h45
            have := list_lt h4; omega
          · have := h0 (by omega); omega
      clear hrd1
      refine (k62a hw9 (a := t.mark) (b := vb) (by omega) (by omega)).use ?_
      clear hw9
      rintro _ w10 ⟨⟨c, rfl⟩, rs2, ⟨d1, d2, d3, d4⟩, hw10⟩
      have hsn2 : ∀ a b, Has rs2 a b = true → HB T M bl el a b := fun a b h => by
        rcases d4 a b h with h5 | ⟨h5, h6, rfl, rfl⟩
        · exact hsn a b h5
        · exact hC.mark q t vb ht h5 hvb h6
      have JN : ∀ (rs' : List Row) w', rs'.length = M.length → (∀ a b, Has rs' a b = true → HB T M bl el a b) → (∀ a b, Has rs2 a b = true → Has rs' a b = true) → (∀ e : Int, 0 < t.prev → el[t.prev.toNat]? = some e → 0 ≤ e → 0 ≤ vb → Has rs' e.toNat vb.toNat = true) → Own B w' (rA tv mv T M ++ (clA tv mv rv bv ev cb rs' bl el ++ (bk b8 73 (encTK t) :: mpA encI encI mb g :: L))) → j55_2 R (.int .i64 q) I1 m1 wh1 w' := by
        intro rs' w' h1 h2 h3 h4 hw'
        unfold j55_2
        refine O.mk (bi_addb (a := q) (b := 1) (by omega)) ?_
        rw [hI1, hm1]
        have hl1 := hlaid.mono (h' := Has rs') fun a b h => h3 a b (d2 a b h)
        refine ⟨⟨q + 1, rs', rfl, by omega, h1, h2, ⟨hl1.next, hl1.join, fun q' t' b h5 h6 h7 h8 h9 => ?_, fun q' t' e b h5 h6 h7 h8 h9 h10 h11 => ?_⟩, (hw'.perm (List.perm_middle (l₁ := rA tv mv T M ++ clA tv mv rv bv ev cb rs' bl el))).tail⟩, by simp only; omega⟩
        · by_cases hqq : q' = q
          · subst hqq; rw [ht] at h6; cases h6; rw [hvb] at h8; cases h8
            exact h3 _ _ (d3 h7 h9)
          · exact hl1.mark q' t' b (by omega) h6 h7 h8 h9
        · by_cases hqq : q' = q
          · subst hqq; rw [ht] at h6; cases h6; rw [hvb] at h10; cases h10
            exact h4 e h7 h8 h9 h11
          · exact hl1.prev q' t' e b (by omega) h6 h7 h8 h9 h10 h11
      (repeat with_reducible first | refine qq ?_ | refine qr ?_ | refine qs ?_ | refine hw10.l 2 ?_ | refine hw10.l 6 ?_)
      refine Bc_dec (fun hp => ?_) (fun hp => ?_)
      · refine hw10.dr fun w11 hw11 => ?_
        clear hw10
        have hpl : t.prev.toNat < el.length := by
          rcases htr.prev with h | ⟨k, o, h2, h3, h4, _⟩
          · omega
          · have := list_lt h4; omega
        obtain ⟨ve, hve⟩ := list_get hpl
        have hve2 := posB 2 el he _ _ hve
        obtain ⟨b2, hix2, hrd2⟩ := hw11.eli 5 rfl hve
        obtain ⟨b1, hix1, hrd1⟩ := hw11.eli 4 rfl hvb
        (repeat with_reducible first | refine qq ?_ | refine qr ?_ | refine qs ?_ | refine hw11.l 2 ?_ | refine hw11.l 6 ?_)
        refine O.mk (hix2 _ _ (by omega) rfl) ?_
        refine O.mk hrd2 ?_
        (repeat with_reducible first | refine qq ?_ | refine qr ?_ | refine qs ?_ | refine hw11.l 2 ?_ | refine hw11.l 6 ?_)
        refine O.mk (hix1 _ _ (by omega) (by omega)) ?_
        rw [show ((q : Int) + 1).toNat = q + 1 by omega]
        refine O.mk hrd1 ?_
        refine (k62a hw11 (a := ve) (b := vb) (by omega) (by omega)).use ?_
        rintro _ w12 ⟨⟨c, rfl⟩, rs3, ⟨f1, f2, f3, f4⟩, hw12⟩
        refine JN rs3 w12 (f1.trans (d1.trans hl)) (fun a b h => ?_) f2 (fun e h1 h2 h3 h4 => ?_) hw12
        · rcases f4 a b h with h5 | ⟨h5, h6, rfl, rfl⟩
          · exact hsn2 a b h5
          · exact hC.prev q t ve vb ht hp hve h5 hvb h6
        · rw [hve] at h2; cases h2
          exact f3 h3 h4
      · exact JN rs2 w10 (d1.trans hl) hsn2 (fun _ _ h => h) (fun e h1 => absurd h1 hp) hw10
    · have hqe : q = T.length := by omega
      rw [hR]
      refine ⟨rfl, rs, hl, hsn, by rw [hqe] at hlaid; exact hlaid, (hw3.perm (List.perm_middle (l₁ := rA tv mv T M ++ clA tv mv rv bv ev cb rs bl el))).tail⟩
end
end Go.Proofs.Ytedcfkigfcobaaa
end
/- Contracts: the rules 7 and 8. -/
section
namespace Go.Proofs.Ytedcfkigfcobaaa
open Go Go.Proofs
attribute [local irreducible] Bc O AL BS MS MM ST AP CV Cl
section
variable {B : Base} {w : World} {L : List Atom} {mv rv bv ev : Value} {T : List TK} {M : List MK} {cb bt capt : Nat} {rs : List Row} {bl el : List Int}
theorem Own.elN {P : Program} (h : Own B w L) {α : Type} {enc : α → List Value} {t sz b n cap : Nat} {xs : List α} (j : Nat) (hj : L[j]? = some (sl t sz (.slice (some ⟨b, 0, none⟩) n cap) n (xs.flatMap enc))) (hn : n = xs.length) (hsz : ∀ x, (enc x).length = sz) {i : Nat} {x : α} (hx : xs[i]? = some x) :
    rdN sz (.pointer (some ⟨b, i * sz, none⟩)) w = some (.agg (enc x).toArray) := by
  have hi := list_lt hx
  rw [h.rdN_sl j hj (m := sz) (by
    rw [flat_len hsz]
    have : i * sz + sz = (i + 1) * sz := by rw [Nat.add_mul]; omega
    rw [this]; exact Nat.mul_le_mul_right _ hi), flat_drop hsz hx]
abbrev tvS (bt n cap : Nat) : Value := .slice (some ⟨bt, 0, none⟩) n cap
abbrev zTK : List Value := [.int .i64 0, .int .i64 0, .int .i64 0, .int .i64 0, .int .i64 0, .int .i64 0, .int .i64 0, .bool false, .int .i64 0, .int .i64 0, .int .i64 0, .int .i64 0, .int .i64 0, .int .i64 0, .int .i64 0]
theorem Own.stTK (h : Own B w L) {b : Nat} {t : TK} (k : Nat) (hk : L[k]? = some (bk b 73 zTK)) {K : Value → World → Prop} (hK : ∀ w', Own B w' (L.set k (bk b 73 (encTK t))) → K undef w') : ST Try.prog 73 (pp b) (.agg (encTK t).toArray) w K :=
  h.st_bk (x := .agg (encTK t).toArray) k hk (by kernel_rfl) (encTK_one t) (Nat.le_refl 15) fun w' hw' => hK w' hw'
set_option maxHeartbeats 4000000 in
theorem k58 (hw : Own B w (rA (tvS bt T.length capt) mv T M ++ (clA (tvS bt T.length capt) mv rv bv ev cb rs bl el ++ L))) {i j : Nat} {x y : TK} (hx : T[i]? = some x) (hy : T[j]? = some y) {e s : Int} (he : el[i + 1]? = some e) (hs : bl[j + 1]? = some s) (hT : T.length ≤ 256) :
    Cl Try.prog 58 [pp cb, .int .i64 (i + 1), .int .i64 (j + 1)] w fun v w' => v = .bool (decide (i ≠ j ∧ 0 ≤ x.looper ∧ x.looper = y.looper ∧ 0 ≤ e ∧ e < s)) ∧ Own B w' (rA (tvS bt T.length capt) mv T M ++ (clA (tvS bt T.length capt) mv rv bv ev cb rs bl el ++ L)) := by
  obtain ⟨R, hR⟩ : ∃ R : Value → World → Prop, R = fun v w' => v = .bool (decide (i ≠ j ∧ 0 ≤ x.looper ∧ x.looper = y.looper ∧ 0 ≤ e ∧ e < s)) ∧ Own B w' (rA (tvS bt T.length capt) mv T M ++ (clA (tvS bt T.length capt) mv rv bv ev cb rs bl el ++ L)) := ⟨_, rfl⟩
  rw [← hR]
  have hil := list_lt hx
  have hjl := list_lt hy
  refine s58 ?_
  unfold c58
  refine hw.dr fun w' hw' => ?_
  clear hw
  have hixa : iS 15 (tvS bt T.length capt) (.int .i64 ((i : Int) + 1 - 1)) = some (.pointer (some ⟨bt, i * 15, none⟩)) := by
    have := iS_0 (sz := 15) (b := bt) (n := T.length) (cap := capt) (k := .i64) (j := (i : Int) + 1 - 1) (by omega) (by omega)
    rw [this, show ((i : Int) + 1 - 1).toNat = i by omega]
  have hixb : iS 15 (tvS bt T.length capt) (.int .i64 ((j : Int) + 1 - 1)) = some (.pointer (some ⟨bt, j * 15, none⟩)) := by
    have := iS_0 (sz := 15) (b := bt) (n := T.length) (cap := capt) (k := .i64) (j := (j : Int) + 1 - 1) (by omega) (by omega)
    rw [this, show ((j : Int) + 1 - 1).toNat = j by omega]
  have hJ : ∀ b7 b8 w', Own B w' (bk b7 73 (encTK x) :: bk b8 73 (encTK y) :: (rA (tvS bt T.length capt) mv T M ++ (clA (tvS bt T.length capt) mv rv bv ev cb rs bl el ++ L))) → j58_0 R (.int .i64 (i + 1)) (.int .i64 (j + 1)) (pp cb) (pp b7) (pp b8) w' := by
    intro b7 b8 w1 hw1
    unfold j58_0
    refine hw1.dr fun w2 hw2 => ?_
    clear hw1
    have hno : ¬ (i ≠ j ∧ 0 ≤ x.looper ∧ x.looper = y.looper ∧ 0 ≤ e ∧ e < s) → R (.bool false) w2 := fun h => by
      rw [hR]; rw [decide_eq_false h]; exact ⟨rfl, hw2.tail.tail⟩
    (repeat with_reducible first | refine qq ?_ | refine qr ?_ | refine qs ?_)
    refine Bc_dec (fun g1 => ?_) (fun g1 => hno (fun h => g1 (by omega)))
    (repeat with_reducible first | refine qq ?_ | refine qr ?_ | refine qs ?_ | refine hw2.l 0 ?_ | refine hw2.l 1 ?_)
    refine Bc_dec (fun g2 => ?_) (fun g2 => hno (fun h => g2 h.2.1))
    (repeat with_reducible first | refine qq ?_ | refine qr ?_ | refine qs ?_ | refine hw2.l 0 ?_ | refine hw2.l 1 ?_)
    refine Bc_dec (fun g3 => ?_) (fun g3 => hno (fun h => g3 h.2.2.1))
    obtain ⟨b1, hix1, hrd1⟩ := hw2.eli 7 rfl he
    obtain ⟨b2, hix2, hrd2⟩ := hw2.eli 6 rfl hs
    (repeat with_reducible first | refine qq ?_ | refine qr ?_ | refine qs ?_ | refine hw2.l 0 ?_ | refine hw2.l 1 ?_ | refine hw2.l 4 ?_)
    refine O.mk (hix1 _ _ (by omega) (by omega)) ?_
    rw [show ((i : Int) + 1).toNat = i + 1 by omega]
    refine O.mk hrd1 ?_
    (repeat with_reducible first | refine qq ?_ | refine qr ?_ | refine qs ?_)
    refine Bc_dec (fun g4 => ?_) (fun g4 => hno (fun h => g4 h.2.2.2.1))
    (repeat with_reducible first | refine qq ?_ | refine qr ?_ | refine qs ?_ | refine hw2.l 0 ?_ | refine hw2.l 1 ?_ | refine hw2.l 4 ?_)
    refine O.mk (hix2 _ _ (by omega) (by omega)) ?_
    rw [show ((j : Int) + 1).toNat = j + 1 by omega]
    refine O.mk hrd2 ?_
    (repeat with_reducible first | refine qq ?_ | refine qr ?_ | refine qs ?_ | refine hw2.l 0 ?_ | refine hw2.l 1 ?_ | refine hw2.l 4 ?_)
    refine O.mk (hix1 _ _ (by omega) (by omega)) ?_
    rw [show ((i : Int) + 1).toNat = i + 1 by omega]
    refine O.mk hrd1 ?_
    (repeat with_reducible first | refine qq ?_ | refine qr ?_ | refine qs ?_)
    rw [hR]
    refine ⟨?_, hw2.tail.tail⟩
    congr 1
    rw [decide_eq_decide]
    constructor
    · intro h; exact ⟨fun h' => g1 (by omega), g2, g3, g4, h⟩
    · intro h; exact h.2.2.2.2
  (repeat with_reducible first | refine qq ?_ | refine qr ?_ | refine qs ?_ | refine hw'.l 2 ?_)
  refine O.mk hixa ?_
  refine O.mk (hw'.elN (P := Try.prog) 0 rfl rfl encTK_len hx) ?_
  (repeat with_reducible first | refine qq ?_ | refine qr ?_ | refine qs ?_)
  repeat' (first
    | exact hJ _ _ _ hw'
    | exact hJ _ _ _ (hw'.perm (List.Perm.swap _ _ _))
    | refine O.mk (hw'.rd1_bk 2 rfl rfl) ?_
    | refine O.mk (hw'.rd1_bk 3 rfl rfl) ?_
    | refine O.mk (hw'.rd1_bk 4 rfl rfl) ?_
    | refine O.mk hixb ?_
    | refine O.mk (hw'.elN (P := Try.prog) 0 rfl rfl encTK_len hy) ?_
    | refine O.mk (hw'.elN (P := Try.prog) 1 rfl rfl encTK_len hy) ?_
    | refine O.mk (hw'.elN (P := Try.prog) 2 rfl rfl encTK_len hy) ?_
    | (refine hw'.al fun b w' hb hw' => ?_)
    | (refine hw'.stTK 0 rfl fun w' hw' => ?_)
    | (refine hw'.stTK 1 rfl fun w' hw' => ?_)
    | refine And.intro ?_ ?_)
def FirstB (rs : List Row) (a b : Int) : Bool := decide (0 ≤ a ∧ 0 ≤ b) && Has rs a.toNat b.toNat
instance (x y : TK) : Decidable (Seven x y) := by unfold Seven; exact inferInstance
set_option maxHeartbeats 4000000 in
theorem k59 (hw : Own B w (rA (tvS bt T.length capt) mv T M ++ (clA (tvS bt T.length capt) mv rv bv ev cb rs bl el ++ L))) {i j : Nat} {x y : TK} (hx : T[i]? = some x) (hy : T[j]? = some y) (hxm : x.mark < rs.length) (hym : y.mark < 1216) (hT : T.length ≤ 256) :
    Cl Try.prog 59 [pp cb, .int .i64 (i + 1), .int .i64 (j + 1)] w fun v w' => v = .bool (decide (Seven x y) && FirstB rs x.mark y.mark) ∧ Own B w' (rA (tvS bt T.length capt) mv T M ++ (clA (tvS bt T.length capt) mv rv bv ev cb rs bl el ++ L)) := by
  obtain ⟨R, hR⟩ : ∃ R : Value → World → Prop, R = fun v w' => v = .bool (decide (Seven x y) && FirstB rs x.mark y.mark) ∧ Own B w' (rA (tvS bt T.length capt) mv T M ++ (clA (tvS bt T.length capt) mv rv bv ev cb rs bl el ++ L)) := ⟨_, rfl⟩
  rw [← hR]
  have hil := list_lt hx
  have hjl := list_lt hy
  refine s59 ?_
  unfold c59
  refine hw.dr fun w' hw' => ?_
  clear hw
  have hixa : iS 15 (tvS bt T.length capt) (.int .i64 ((i : Int) + 1 - 1)) = some (.pointer (some ⟨bt, i * 15, none⟩)) := by
    have := iS_0 (sz := 15) (b := bt) (n := T.length) (cap := capt) (k := .i64) (j := (i : Int) + 1 - 1) (by omega) (by omega)
    rw [this, show ((i : Int) + 1 - 1).toNat = i by omega]
  have hixb : iS 15 (tvS bt T.length capt) (.int .i64 ((j : Int) + 1 - 1)) = some (.pointer (some ⟨bt, j * 15, none⟩)) := by
    have := iS_0 (sz := 15) (b := bt) (n := T.length) (cap := capt) (k := .i64) (j := (j : Int) + 1 - 1) (by omega) (by omega)
    rw [this, show ((j : Int) + 1 - 1).toNat = j by omega]
  have hJ : ∀ b7 b8 w', Own B w' (bk b7 73 (encTK x) :: bk b8 73 (encTK y) :: (rA (tvS bt T.length capt) mv T M ++ (clA (tvS bt T.length capt) mv rv bv ev cb rs bl el ++ L))) → j59_0 R (pp cb) (pp b7) (pp b8) w' := by
    intro b7 b8 w2 hw2
    unfold j59_0
    have hno : ¬ Seven x y → R (.bool false) w2 := fun h => by
      rw [hR, decide_eq_false h]; exact ⟨rfl, hw2.tail.tail⟩
    have hyes : Seven x y → Cl Try.prog 31 [pp cb, .int .i64 x.mark, .int .i64 y.mark] w2 fun t57 w => R t57 w := fun h => by
      refine (k31 hw2.tail.tail hxm hym).use ?_
      rintro _ w3 ⟨rfl, h3⟩
      rw [h3, hR, decide_eq_true h]
      exact ⟨rfl, hw2.tail.tail⟩
    (repeat with_reducible first | refine qq ?_ | refine qr ?_ | refine qs ?_ | refine hw2.l 0 ?_ | refine hw2.l 1 ?_)
    refine Bc_dec (fun g1 => ?_) (fun g1 => hno (fun h => g1 h.1))
    (repeat with_reducible first | refine qq ?_ | refine qr ?_ | refine qs ?_ | refine hw2.l 0 ?_ | refine hw2.l 1 ?_)
    refine Bc_dec (fun g2 => ?_) (fun g2 => hno (fun h => g2 h.2.1))
    (repeat with_reducible first | refine qq ?_ | refine qr ?_ | refine qs ?_ | refine hw2.l 0 ?_ | refine hw2.l 1 ?_)
    refine Bc_b (fun g3 => ?_) (fun g3 => hno (fun h => by rw [h.2.2.1] at g3; cases g3))
    have g3' : y.front = false := by simpa using g3
    (repeat with_reducible first | refine qq ?_ | refine qr ?_ | refine qs ?_ | refine hw2.l 0 ?_ | refine hw2.l 1 ?_)
    refine Bc_b (fun g4 => ?_) (fun g4 => ?_)
    · (repeat with_reducible first | refine qq ?_ | refine qr ?_ | refine qs ?_ | refine hw2.l 0 ?_ | refine hw2.l 1 ?_)
      exact hyes ⟨g1, g2, g3', .inl g4⟩
    · (repeat with_reducible first | refine qq ?_ | refine qr ?_ | refine qs ?_ | refine hw2.l 0 ?_ | refine hw2.l 1 ?_)
      have g5n : ¬ (x.delay ≤ y.delay) → ¬ Seven x y := fun g5 h => by
        rcases h.2.2.2 with h | h
        · rw [h] at g4; cases g4
        · exact g5 h
      refine Bc_dec (fun g5 => ?_) (fun g5 => hno (g5n g5))
      (repeat with_reducible first | refine qq ?_ | refine qr ?_ | refine qs ?_ | refine hw2.l 0 ?_ | refine hw2.l 1 ?_)
      exact hyes ⟨g1, g2, g3', .inr g5⟩
  (repeat with_reducible first | refine qq ?_ | refine qr ?_ | refine qs ?_ | refine hw'.l 2 ?_)
  refine O.mk hixa ?_
  refine O.mk (hw'.elN (P := Try.prog) 0 rfl rfl encTK_len hx) ?_
  (repeat with_reducible first | refine qq ?_ | refine qr ?_ | refine qs ?_)
  repeat' (first
    | exact hJ _ _ _ hw'
    | exact hJ _ _ _ (hw'.perm (List.Perm.swap _ _ _))
    | refine O.mk (hw'.rd1_bk 2 rfl rfl) ?_
    | refine O.mk (hw'.rd1_bk 3 rfl rfl) ?_
    | refine O.mk (hw'.rd1_bk 4 rfl rfl) ?_
    | refine O.mk hixb ?_
    | refine O.mk (hw'.elN (P := Try.prog) 0 rfl rfl encTK_len hy) ?_
    | refine O.mk (hw'.elN (P := Try.prog) 1 rfl rfl encTK_len hy) ?_
    | refine O.mk (hw'.elN (P := Try.prog) 2 rfl rfl encTK_len hy) ?_
    | (refine hw'.al fun b w' hb hw' => ?_)
    | (refine hw'.stTK 0 rfl fun w' hw' => ?_)
    | (refine hw'.stTK 1 rfl fun w' hw' => ?_)
    | refine And.intro ?_ ?_)
end
end Go.Proofs.Ytedcfkigfcobaaa
end
/- Contracts: a rule, as the closure calls it. -/
section
namespace Go.Proofs.Ytedcfkigfcobaaa
open Go Go.Proofs
attribute [local irreducible] Bc O AL BS MS MM ST AP CV Cl
theorem CV.mk57 {a b c : Value} {w : World} {K : Value → World → Prop} (h : Cl Try.prog 57 [a, b, c] w K) : CV Try.prog (.func (.func 57) #[] #[c]) [a, b] w K := by
  have e : callable Try.prog 57 = true := by kernel_rfl
  unfold CV
  simp only [e]
  exact h
theorem CV.mk60 {a b c : Value} {w : World} {K : Value → World → Prop} (h : Cl Try.prog 60 [a, b, c] w K) : CV Try.prog (.func (.func 60) #[] #[c]) [a, b] w K := by
  have e : callable Try.prog 60 = true := by kernel_rfl
  unfold CV
  simp only [e]
  exact h
section
variable {B : Base} {w : World} {L : List Atom} {mv rv bv ev : Value} {T : List TK} {M : List MK} {cb bt capt pb : Nat} {rs : List Row} {bl el : List Int}
theorem k61 (hw : Own B w (rA (tvS bt T.length capt) mv T M ++ (clA (tvS bt T.length capt) mv rv bv ev cb rs bl el ++ L))) {i j : Nat} {s0 s : Int} (hs0 : bl[i + 1]? = some s0) (hs : bl[j + 1]? = some s) (h1 : s0 < rs.length) (h2 : s < 1216) :
    Cl Try.prog 61 [pp cb, .int .i64 (i + 1), .int .i64 (j + 1)] w fun v w' => v = .bool (FirstB rs s0 s) ∧ Own B w' (rA (tvS bt T.length capt) mv T M ++ (clA (tvS bt T.length capt) mv rv bv ev cb rs bl el ++ L)) := by
  refine s61 ?_
  unfold c61
  refine hw.dr fun w1 hw1 => ?_
  clear hw
  obtain ⟨b1, hix1, hrd1⟩ := hw1.eli 4 rfl hs0
  obtain ⟨b2, hix2, hrd2⟩ := hw1.eli 4 rfl hs
  (repeat with_reducible first | refine qq ?_ | refine qr ?_ | refine qs ?_ | refine hw1.l 2 ?_)
  refine O.mk (hix1 _ _ (by omega) (by omega)) ?_
  rw [show ((i : Int) + 1).toNat = i + 1 by omega]
  refine O.mk hrd1 ?_
  (repeat with_reducible first | refine qq ?_ | refine qr ?_ | refine qs ?_ | refine hw1.l 2 ?_)
  refine O.mk (hix2 _ _ (by omega) (by omega)) ?_
  rw [show ((j : Int) + 1).toNat = j + 1 by omega]
  refine O.mk hrd2 ?_
  refine (k31 hw1 h1 h2).use ?_
  rintro _ w3 ⟨rfl, h3⟩
  rw [h3]
  exact ⟨rfl, hw1⟩
/-- may a rule be laid: of two tasks -/
def RuleP (rs : List Row) (i j : Nat) (x y : TK) (e s : Int) (c : Bool) : Bool := decide (i ≠ j ∧ 0 ≤ x.looper ∧ x.looper = y.looper ∧ 0 ≤ e ∧ e < s) && c
theorem k57 (hw : Own B w (rA (tvS bt T.length capt) mv T M ++ (clA (tvS bt T.length capt) mv rv bv ev cb rs bl el ++ (bk pb 112 [pp cb] :: L)))) {i j : Nat} {x y : TK} (hx : T[i]? = some x) (hy : T[j]? = some y) {e s : Int} (he : el[i + 1]? = some e) (hs : bl[j + 1]? = some s) (hxm : x.mark < rs.length) (hym : y.mark < 1216) (hT : T.length ≤ 256) :
    Cl Try.prog 57 [.int .i64 (i + 1), .int .i64 (j + 1), pp pb] w fun v w' => v = .bool (RuleP rs i j x y e s (decide (Seven x y) && FirstB rs x.mark y.mark)) ∧ Own B w' (rA (tvS bt T.length capt) mv T M ++ (clA (tvS bt T.length capt) mv rv bv ev cb rs bl el ++ (bk pb 112 [pp cb] :: L))) := by
  refine s57 ?_
  unfold c57
  refine O.mk (hw.rd1_bk 6 rfl rfl) ?_
  refine (k58 hw hx hy he hs hT).use ?_
  clear hw
  rintro _ w1 ⟨rfl, hw1⟩
  refine Bc_dec (fun h => ?_) (fun h => ?_)
  · refine O.mk (hw1.rd1_bk 6 rfl rfl) ?_
    refine (k59 hw1 hx hy hxm hym hT).use ?_
    rintro _ w2 ⟨rfl, hw2⟩
    refine ⟨?_, hw2⟩
    unfold RuleP
    rw [decide_eq_true h]
    rfl
  · refine ⟨?_, hw1⟩
    unfold RuleP
    rw [decide_eq_false h]
    rfl
theorem k60 (hw : Own B w (rA (tvS bt T.length capt) mv T M ++ (clA (tvS bt T.length capt) mv rv bv ev cb rs bl el ++ (bk pb 112 [pp cb] :: L)))) {i j : Nat} {x y : TK} (hx : T[i]? = some x) (hy : T[j]? = some y) {e s s0 : Int} (he : el[i + 1]? = some e) (hs : bl[j + 1]? = some s) (hs0 : bl[i + 1]? = some s0) (h1 : s0 < rs.length) (h2 : s < 1216) (hT : T.length ≤ 256) :
    Cl Try.prog 60 [.int .i64 (i + 1), .int .i64 (j + 1), pp pb] w fun v w' => v = .bool (RuleP rs i j x y e s (FirstB rs s0 s)) ∧ Own B w' (rA (tvS bt T.length capt) mv T M ++ (clA (tvS bt T.length capt) mv rv bv ev cb rs bl el ++ (bk pb 112 [pp cb] :: L))) := by
  refine s60 ?_
  unfold c60
  refine O.mk (hw.rd1_bk 6 rfl rfl) ?_
  refine (k58 hw hx hy he hs hT).use ?_
  clear hw
  rintro _ w1 ⟨rfl, hw1⟩
  refine Bc_dec (fun h => ?_) (fun h => ?_)
  · refine O.mk (hw1.rd1_bk 6 rfl rfl) ?_
    refine (k61 hw1 hs0 hs h1 h2).use ?_
    rintro _ w2 ⟨rfl, hw2⟩
    refine ⟨?_, hw2⟩
    unfold RuleP
    rw [decide_eq_true h]
    rfl
  · refine ⟨?_, hw1⟩
    unfold RuleP
    rw [decide_eq_false h]
    rfl
theorem rules_bs (a : Value) : bsx 114 1 2 .nilFunc [(0, .func (.func 57) #[] #[a]), (1, .func (.func 60) #[] #[a])] = some (.cells #[.func (.func 57) #[] #[a], .func (.func 60) #[] #[a]] 114, fun n => .slice (some ⟨n, 0, none⟩) 2 2) := by
  rfl
end
end Go.Proofs.Ytedcfkigfcobaaa
end
/- Contracts: a closure is made; whichever way its parts are made. -/
section
namespace Go.Proofs.Ytedcfkigfcobaaa
open Go Go.Proofs
attribute [local irreducible] Bc O AL BS MS MM ST AP CV Cl
theorem P0 {α : Type} {a : α} {l T : List α} (h : (l).Perm T) : (a :: l).Perm (a :: T) := List.Perm.cons _ h
theorem P1 {α : Type} {a x0 : α} {l T : List α} (h : (x0 :: l).Perm T) : (x0 :: a :: l).Perm (a :: T) := (List.perm_middle (l₁ := [x0]) (a := a) (l₂ := l)).trans (List.Perm.cons _ h)
theorem P2 {α : Type} {a x0 x1 : α} {l T : List α} (h : (x0 :: x1 :: l).Perm T) : (x0 :: x1 :: a :: l).Perm (a :: T) := (List.perm_middle (l₁ := [x0, x1]) (a := a) (l₂ := l)).trans (List.Perm.cons _ h)
theorem P3 {α : Type} {a x0 x1 x2 : α} {l T : List α} (h : (x0 :: x1 :: x2 :: l).Perm T) : (x0 :: x1 :: x2 :: a :: l).Perm (a :: T) := (List.perm_middle (l₁ := [x0, x1, x2]) (a := a) (l₂ := l)).trans (List.Perm.cons _ h)
theorem P4 {α : Type} {a x0 x1 x2 x3 : α} {l T : List α} (h : (x0 :: x1 :: x2 :: x3 :: l).Perm T) : (x0 :: x1 :: x2 :: x3 :: a :: l).Perm (a :: T) := (List.perm_middle (l₁ := [x0, x1, x2, x3]) (a := a) (l₂ := l)).trans (List.Perm.cons _ h)
theorem P5 {α : Type} {a x0 x1 x2 x3 x4 : α} {l T : List α} (h : (x0 :: x1 :: x2 :: x3 :: x4 :: l).Perm T) : (x0 :: x1 :: x2 :: x3 :: x4 :: a :: l).Perm (a :: T) := (List.perm_middle (l₁ := [x0, x1, x2, x3, x4]) (a := a) (l₂ := l)).trans (List.Perm.cons _ h)
theorem P6 {α : Type} {a x0 x1 x2 x3 x4 x5 : α} {l T : List α} (h : (x0 :: x1 :: x2 :: x3 :: x4 :: x5 :: l).Perm T) : (x0 :: x1 :: x2 :: x3 :: x4 :: x5 :: a :: l).Perm (a :: T) := (List.perm_middle (l₁ := [x0, x1, x2, x3, x4, x5]) (a := a) (l₂ := l)).trans (List.Perm.cons _ h)
theorem P7 {α : Type} {a x0 x1 x2 x3 x4 x5 x6 : α} {l T : List α} (h : (x0 :: x1 :: x2 :: x3 :: x4 :: x5 :: x6 :: l).Perm T) : (x0 :: x1 :: x2 :: x3 :: x4 :: x5 :: x6 :: a :: l).Perm (a :: T) := (List.perm_middle (l₁ := [x0, x1, x2, x3, x4, x5, x6]) (a := a) (l₂ := l)).trans (List.Perm.cons _ h)
/-- nothing that there was is written -/
def HdS (w0 w : World) : Prop := Hd w0 w ∧ w0.heap.size ≤ w.heap.size
theorem HdS.refl (w : World) : HdS w w := ⟨Hd.refl w, Nat.le_refl _⟩
theorem HdS.alloc {w0 w : World} (h : HdS w0 w) (o : Obj) : HdS w0 (w.alloc o) := by
  refine ⟨fun b hb => ?_, ?_⟩
  · have := h.2
    rw [← h.1 b hb]
    show (w.heap.push o)[b]? = w.heap[b]?
    rw [Array.getElem?_push, if_neg (by omega)]
  · have := h.2
    show w0.heap.size ≤ (w.heap.push o).size
    rw [Array.size_push]; omega
def zRow : Row := ⟨List.replicate 19 0, by simp, fun x hx => by rw [List.eq_of_mem_replicate hx]; decide⟩
theorem zRow_has (i : Nat) : zRow.has i = false := by
  unfold Row.has zRow
  simp only
  rw [List.getElem?_replicate]
  split <;> simp
theorem Has_zero (n a b : Nat) : Has (List.replicate n zRow) a b = false := by
  unfold Has
  rw [List.getElem?_replicate]
  split
  · simp [zRow_has]
  · rfl
section
variable {B : Base} {w w0 : World} {L : List Atom}
theorem Own.alH (h : Own B w L) (hH : HdS w0 w) {t : TypeId} {vs : Array Value} {k : Value → World → Prop} (hk : ∀ b w', B.N ≤ b → w0.heap.size ≤ b → Own B w' (bk b t vs.toList :: L) → HdS w0 w' → k (.pointer (some ⟨b, 0, none⟩)) w') : AL (.cells vs t) w k := by
  unfold AL
  rintro v w' rfl rfl
  exact hk w.heap.size _ h.size hH.2 (h.new _ fun g hg => hg) (hH.alloc _)
theorem Own.mksH (h : Own B w L) (hH : HdS w0 w) {e sz bytes n : Nat} {z : Value} (h0 : 0 < sz) (hz : z.cells.size = sz) (hb : bytes * n ≤ 2 ^ 48) (hn : n < 2 ^ 62) {k : Value → World → Prop}
    (hk : ∀ v w', one v = true → Own B w' (sl e sz v n (List.replicate n z.cells.toList).flatten :: L) → HdS w0 w' → k v w') : MS e sz bytes z (.int .i64 n) (.int .i64 n) w k := by
  unfold MS msx
  simp only
  rw [if_pos ⟨by omega, by omega, by exact_mod_cast hb, by omega, hz, h0⟩]
  rintro v w' rfl rfl
  refine hk _ _ rfl (h.new _ fun g hg => ?_) (hH.alloc _)
  right
  refine ⟨w.heap.size, n, [], by simp, Nat.le_refl _, ?_, by simp, ?_⟩
  · simp [List.length_flatten, hz]
  · simpa using hg
theorem Own.mksI (h : Own B w L) (hH : HdS w0 w) {n : Nat} (hn : n < 2 ^ 40) {k : Value → World → Prop}
    (hk : ∀ v w', one v = true → Own B w' (sl 3 1 v (List.replicate n (0 : Int)).length (ints (List.replicate n 0)) :: L) → HdS w0 w' → k v w') : MS 3 1 8 (.int .i64 0) (.int .i64 n) (.int .i64 n) w k := by
  refine h.mksH hH (e := 3) (sz := 1) (bytes := 8) (n := n) (z := .int .i64 0) (by decide) rfl (by omega) (by omega) fun v w' h1 h2 h3 => hk v w' h1 ?_ h3
  rw [ints_zero] at h2
  rw [List.length_replicate]
  exact h2
theorem rows_zero (n : Nat) : (List.replicate n (Value.agg #[.int .u64 0, .int .u64 0, .int .u64 0, .int .u64 0, .int .u64 0, .int .u64 0, .int .u64 0, .int .u64 0, .int .u64 0, .int .u64 0, .int .u64 0, .int .u64 0, .int .u64 0, .int .u64 0, .int .u64 0, .int .u64 0, .int .u64 0, .int .u64 0, .int .u64 0]).cells.toList).flatten = (List.replicate n zRow).flatMap encRow := by
  induction n with
  | zero => rfl
  | succ n ih => rw [List.replicate_succ, List.flatten_cons, ih]; rfl
set_option maxRecDepth 8000 in
theorem Own.mksR (h : Own B w L) (hH : HdS w0 w) {n : Nat} (hn : n < 2 ^ 40) {k : Value → World → Prop}
    (hk : ∀ v w', one v = true → Own B w' (sl 149 19 v (List.replicate n zRow).length ((List.replicate n zRow).flatMap encRow) :: L) → HdS w0 w' → k v w') : MS 149 19 152 (.agg #[.int .u64 0, .int .u64 0, .int .u64 0, .int .u64 0, .int .u64 0, .int .u64 0, .int .u64 0, .int .u64 0, .int .u64 0, .int .u64 0, .int .u64 0, .int .u64 0, .int .u64 0, .int .u64 0, .int .u64 0, .int .u64 0, .int .u64 0, .int .u64 0, .int .u64 0]) (.int .i64 n) (.int .i64 n) w k := by
  refine h.mksH hH (e := 149) (sz := 19) (bytes := 152) (n := n) (z := .agg #[.int .u64 0, .int .u64 0, .int .u64 0, .int .u64 0, .int .u64 0, .int .u64 0, .int .u64 0, .int .u64 0, .int .u64 0, .int .u64 0, .int .u64 0, .int .u64 0, .int .u64 0, .int .u64 0, .int .u64 0, .int .u64 0, .int .u64 0, .int .u64 0, .int .u64 0]) (by decide) rfl (by omega) (by omega) fun v w' h1 h2 h3 => hk v w' h1 ?_ h3
  rw [rows_zero] at h2
  rw [List.length_replicate]
  exact h2
theorem fill145 {a b r c d : Value} (hr : one r = true) (hc : one c = true) (hd : one d = true) : (fillW Try.prog 145 [(0, runV a b), (1, r), (2, c), (3, d)]).map Value.agg = some (.agg #[a, b, r, c, d]) := by
  cases r <;> first | (cases hr; done) | (cases c <;> first | (cases hc; done) | (cases d <;> first | (cases hd; done) | kernel_rfl))
theorem Own.st1H {P : Program} (h : Own B w L) (hH : HdS w0 w) {b t : Nat} {v x : Value} {ty : TypeId} (k : Nat) (hk : L[k]? = some (bk b t [v])) (hb : w0.heap.size ≤ b) (ht : tsz P ty = some x.cells.size) (hx1 : x.cells.toList = [x]) (hx : one x = true) {K : Value → World → Prop} (hK : ∀ w', Own B w' (L.set k (bk b t [x])) → HdS w0 w' → K undef w') : ST P ty (pp b) x w K := by
  have hblk := (h.blk hk).1
  have hs : x.cells.size = 1 := by rw [← Array.length_toList, hx1]; rfl
  unfold ST
  refine Rn.mk (run_storeAt' ht hblk (by rw [hx1]; simp [hx]) (by rw [hs]; exact Nat.le_refl 1)) (hK _ ?_ ?_)
  · refine h.modify hk fun g hg => ⟨⟨_, hg⟩, ?_⟩
    rw [hx1]
    show (if b = b then some _ else g b) = some (Obj.cells [x].toArray t (0, 0))
    rw [if_pos rfl]
    rfl
  · refine ⟨fun y hy => ?_, ?_⟩
    · rw [← hH.1 y hy]
      simp only [World.setBlk]
      rw [Array.getElem?_setIfInBounds_ne (by omega)]
    · show w0.heap.size ≤ (w.heap.setIfInBounds b _).size
      rw [Array.size_setIfInBounds]; exact hH.2
theorem tsz112 : tsz Try.prog 112 = some 1 := by kernel_rfl
/-- a pointer is laid into a new block -/
theorem Own.stP (h : Own B w L) (hH : HdS w0 w) {b c : Nat} {v : Value} (k : Nat) (hk : L[k]? = some (bk b 112 [v])) (hb : w0.heap.size ≤ b) {K : Value → World → Prop} (hK : ∀ w', Own B w' (L.set k (bk b 112 [pp c])) → HdS w0 w' → K undef w') : ST Try.prog 112 (pp b) (pp c) w K :=
  h.st1H hH k hk hb (x := pp c) tsz112 rfl rfl hK
end
end Go.Proofs.Ytedcfkigfcobaaa
end
/- Contracts: a run's closure. -/
section
namespace Go.Proofs.Ytedcfkigfcobaaa
open Go Go.Proofs
attribute [local irreducible] Bc O AL BS MS MM ST AP CV Cl
theorem rows_uniq {B : Base} {w : World} {L1 L2 : List Atom} {rv : Value} {rs rs' : List Row} (h1 : Own B w L1) (h2 : Own B w L2) (j : Nat) (e1 : L1[j]? = some (sl 149 19 rv rs.length (rs.flatMap encRow))) (e2 : L2[j]? = some (sl 149 19 rv rs'.length (rs'.flatMap encRow))) : Has rs = Has rs' := by
  have hl : rs.length = rs'.length := by
    have := (h1.slLen j e1).symm.trans (h2.slLen j e2)
    simp at this
    omega
  funext a y
  by_cases ha : a < rs.length
  · obtain ⟨r, hr⟩ := list_get ha
    obtain ⟨r', hr'⟩ := list_get (l := rs') (j := a) (by omega)
    obtain ⟨b, hix, hrd, _⟩ := h1.el j e1 encRow_len hr
    obtain ⟨b', hix', hrd', _⟩ := h2.el j e2 encRow_len hr'
    have hb : b = b' := by
      have := (hix .i64 a (by omega) (by omega)).symm.trans (hix' .i64 a (by omega) (by omega))
      simpa using this
    subst hb
    rw [Has_row hr, Has_row hr']
    unfold Row.has
    by_cases hy : y / 64 < 19
    · have := (hrd _ _ (encRow_get hy)).symm.trans (hrd' _ _ (encRow_get hy))
      have h3 : r.ws[y / 64]?.getD 0 = r'.ws[y / 64]?.getD 0 := by
        simp only [Option.some.injEq, Value.int.injEq, true_and] at this
        omega
      rw [h3]
    · rw [List.getElem?_eq_none (by rw [r.len]; omega), List.getElem?_eq_none (by rw [r'.len]; omega)]
  · unfold Has
    rw [List.getElem?_eq_none (by omega), List.getElem?_eq_none (by omega)]
/-- the rules are laid of two tasks -/
def RuleSat (T : List TK) (bl el : List Int) (h : Nat → Nat → Bool) (i j : Nat) (seven : Bool) : Prop :=
  ∀ (x y : TK) (e s : Int), T[i]? = some x → T[j]? = some y → el[i + 1]? = some e → bl[j + 1]? = some s → i ≠ j → 0 ≤ x.looper → x.looper = y.looper → 0 ≤ e → e < s →
    (if seven then Seven x y ∧ 0 ≤ x.mark ∧ 0 ≤ y.mark ∧ h x.mark.toNat y.mark.toNat = true else ∃ s0 : Int, bl[i + 1]? = some s0 ∧ 0 ≤ s0 ∧ h s0.toNat s.toNat = true) → h e.toNat s.toNat = true
theorem closed_of {T : List TK} {M : List MK} {bl el : List Int} {h : Nat → Nat → Bool} (hl : Laid T M bl el M.length T.length h) (htr : ∀ a b c, h a b = true → h b c = true → h a c = true) (hs : ∀ i j : Nat, i < T.length → j < T.length → RuleSat T bl el h i j true ∧ RuleSat T bl el h i j false) : Closed T M bl el (fun a b => h a b = true) where
  task i k m n h1 h2 h3 h4 := task_all (r := fun a b => h a b = true) htr (fun i k m n g1 g2 g3 g4 g5 => hl.next i k m n (list_lt g3) g1 g2 g3 g4 g5) k i m n h1 h2 h3 h4
  join i m e h1 h2 h3 h4 := hl.join i m e (list_lt h1) h1 h2 h3 h4
  mark i t b h1 h2 h3 h4 := hl.mark i t b (list_lt h1) h1 h2 h3 h4
  prev i t e b h1 h2 h3 h4 h5 h6 := hl.prev i t e b (list_lt h1) h1 h2 h3 h4 h5 h6
  trans := htr
  rule a b x y e s h1 h2 h3 h4 h5 h6 h7 h8 h9 h10 := by
    obtain ⟨r7, r8⟩ := hs a b (list_lt h2) (list_lt h3)
    rcases h10 with ⟨g1, g2, g3, g4⟩ | ⟨s0, g1, g2, g3⟩
    · exact r7 x y e s h2 h3 h6 h7 h1 h4 h5 h8 h9 (by rw [if_pos rfl]; exact ⟨g1, g2, g3, g4⟩)
    · exact r8 x y e s h2 h3 h6 h7 h1 h4 h5 h8 h9 (by rw [if_neg (by decide)]; exact ⟨s0, g1, g2, g3⟩)
section
variable {B : Base} {w : World} {L : List Atom} {mv rv bv ev : Value} {T : List TK} {M : List MK} {cb bt capt pb : Nat} {rs : List Row} {bl el : List Int}
theorem mark_lt (hr : RunOK T M) {i : Nat} {t : TK} (ht : T[i]? = some t) : t.mark < M.length := by
  have htr := hr.tk i t ht
  have h0 := htr.mark0
  have hkd := htr.kind
  by_cases h3 : t.kind = 3
  · rcases htr.markE h3 with h | ⟨_, n, h4, _⟩
    · omega
    · have := list_lt h4; omega
  · by_cases h45 : t.kind = 4 ∨ t.kind = 5
    · obtain ⟨_, n, h4, _⟩ := htr.markP h45
      have := list_lt h4; omega
    · have := h0 (by omega); omega
theorem pos_lt {kd : Int} {l : List Int} (hl : BE T M M.length kd l) {x : Nat} {v : Int} (hv : l[x]? = some v) : v < M.length := by
  rcases hl.2 x v hv with ⟨h1, _⟩ | ⟨j, n, h1, h2, _⟩ <;> omega
/-- the inner rounds: the closure behind two tasks, and behind a rule -/
structure Rd (T : List TK) (M : List MK) (bl el : List Int) (rs2 rs : List Row) (c : Bool) (P : Nat → Nat → Bool → Prop) : Prop where
  len : rs.length = M.length
  sound : ∀ a b, Has rs a b = true → HB T M bl el a b
  sub : ∀ a b, Has rs2 a b = true → Has rs a b = true
  no : c = false → rs = rs2 ∧ ∀ i j s, P i j s → RuleSat T bl el (Has rs2) i j s
  yes : c = true → ∃ a b, b < M.length ∧ a < M.length ∧ Has rs2 a b = false ∧ Has rs a b = true
theorem Rd.weak {rs2 : List Row} {c : Bool} {P Q : Nat → Nat → Bool → Prop} (h : Rd T M bl el rs2 rs c P) (hPQ : ∀ i j s, Q i j s → P i j s) : Rd T M bl el rs2 rs c Q :=
  ⟨h.len, h.sound, h.sub, fun hc => ⟨(h.no hc).1, fun i j s hq => (h.no hc).2 i j s (hPQ i j s hq)⟩, h.yes⟩
set_option maxHeartbeats 4000000 in
set_option maxRecDepth 4000 in
/-- one rule of two tasks is laid -/
theorem rule_step {rs2 : List Row} (hr : RunOK T M) (hb : BE T M M.length 1 bl) (he : BE T M M.length 2 el) (hn : M.length ≤ 1200) (hT : T.length ≤ 256) {i j k : Nat} {c : Bool} (hi : i < T.length) (hj : j < T.length) (hk : k < 2) {P : Nat → Nat → Bool → Prop} (hR : Rd T M bl el rs2 rs c P)
    (hw : Own B w (rA (tvS bt T.length capt) mv T M ++ (clA (tvS bt T.length capt) mv rv bv ev cb rs bl el ++ (bk pb 112 [pp cb] :: L)))) {K : Value → World → Prop}
    (hK : ∀ (c' : Bool) (rs' : List Row) w', Rd T M bl el rs2 rs' (c || c') (fun i' j' s => P i' j' s ∨ (i' = i ∧ j' = j ∧ s = decide (k = 0))) → Own B w' (rA (tvS bt T.length capt) mv T M ++ (clA (tvS bt T.length capt) mv rv bv ev cb rs' bl el ++ (bk pb 112 [pp cb] :: L))) → K (.bool c') w') :
    CV Try.prog (if k = 0 then .func (.func 57) #[] #[pp pb] else .func (.func 60) #[] #[pp pb]) [.int .i64 (i + 1), .int .i64 (j + 1)] w fun t112 w =>
      Bc t112
       (O (rd1 (pp pb) w) fun t114 =>
       O (rd1 (pp pb) w) fun t115 =>
       O (nC t115) fun t116 =>
       O (fA 4 t116) fun t117 =>
       O (rd1 t117 w) fun t118 =>
       O (iS 1 t118 (.int .i64 (i + 1))) fun t120 =>
       O (rd1 t120 w) fun t121 =>
       O (rd1 (pp pb) w) fun t122 =>
       O (nC t122) fun t123 =>
       O (fA 3 t123) fun t124 =>
       O (rd1 t124 w) fun t125 =>
       O (iS 1 t125 (.int .i64 (j + 1))) fun t127 =>
       O (rd1 t127 w) fun t128 =>
       Cl Try.prog 62 [t114, t121, t128] w fun t129 w => K t129 w)
       (K (.bool false) w) := by
  obtain ⟨x, hx⟩ := list_get hi
  obtain ⟨y, hy⟩ := list_get hj
  obtain ⟨e, hes⟩ := list_get (l := el) (j := i + 1) (by have := he.1; omega)
  obtain ⟨s, hss⟩ := list_get (l := bl) (j := j + 1) (by have := hb.1; omega)
  obtain ⟨s0, hs0⟩ := list_get (l := bl) (j := i + 1) (by have := hb.1; omega)
  have hel := pos_lt he hes
  have hsl := pos_lt hb hss
  have hs0l := pos_lt hb hs0
  have hxm := mark_lt hr hx
  have hym := mark_lt hr hy
  have hlen := hR.len
  have hC := HB.closed (T := T) (M := M) (bl := bl) (el := el)
  obtain ⟨cond, hcond⟩ : ∃ cond : Bool, cond = (if k = 0 then decide (Seven x y) && FirstB rs x.mark y.mark else FirstB rs s0 s) := ⟨_, rfl⟩
  have hmain : ∀ w1, Own B w1 (rA (tvS bt T.length capt) mv T M ++ (clA (tvS bt T.length capt) mv rv bv ev cb rs bl el ++ (bk pb 112 [pp cb] :: L))) →
      Bc (.bool (RuleP rs i j x y e s cond))
       (O (rd1 (pp pb) w1) fun t114 =>
       O (rd1 (pp pb) w1) fun t115 =>
       O (nC t115) fun t116 =>
       O (fA 4 t116) fun t117 =>
       O (rd1 t117 w1) fun t118 =>
       O (iS 1 t118 (.int .i64 (i + 1))) fun t120 =>
       O (rd1 t120 w1) fun t121 =>
       O (rd1 (pp pb) w1) fun t122 =>
       O (nC t122) fun t123 =>
       O (fA 3 t123) fun t124 =>
       O (rd1 t124 w1) fun t125 =>
       O (iS 1 t125 (.int .i64 (j + 1))) fun t127 =>
       O (rd1 t127 w1) fun t128 =>
       Cl Try.prog 62 [t114, t121, t128] w1 fun t129 w => K t129 w)
       (K (.bool false) w1) := by
    intro w1 hw1
    refine Bc_b (fun h => ?_) (fun h => ?_)
    · unfold RuleP at h
      rw [Bool.and_eq_true] at h
      obtain ⟨h1, h2⟩ := h
      obtain ⟨g1, g2, g3, g4, g5⟩ := of_decide_eq_true h1
      obtain ⟨b1, hix1, hrd1⟩ := hw1.eli 5 rfl hes
      obtain ⟨b2, hix2, hrd2⟩ := hw1.eli 4 rfl hss
      have hHB : HB T M bl el e.toNat s.toNat := by
        refine hC.rule i j x y e s g1 hx hy g2 g3 hes hss g4 g5 ?_
        by_cases hk0 : k = 0
        · rw [hcond, if_pos hk0, Bool.and_eq_true] at h2
          have h3 := h2.2
          unfold FirstB at h3
          rw [Bool.and_eq_true] at h3
          have h4 := of_decide_eq_true h3.1
          exact .inl ⟨of_decide_eq_true h2.1, h4.1, h4.2, hR.sound _ _ h3.2⟩
        · rw [hcond, if_neg hk0] at h2
          unfold FirstB at h2
          rw [Bool.and_eq_true] at h2
          have h4 := of_decide_eq_true h2.1
          exact .inr ⟨s0, hs0, h4.1, hR.sound _ _ h2.2⟩
      refine O.mk (hw1.rd1_bk 6 rfl rfl) ?_
      refine O.mk (hw1.rd1_bk 6 rfl rfl) ?_
      (repeat with_reducible first | refine qq ?_ | refine qr ?_ | refine qs ?_ | refine hw1.l 2 ?_)
      refine O.mk (hix1 _ _ (by omega) (by omega)) ?_
      rw [show ((i : Int) + 1).toNat = i + 1 by omega]
      refine O.mk hrd1 ?_
      refine O.mk (hw1.rd1_bk 6 rfl rfl) ?_
      (repeat with_reducible first | refine qq ?_ | refine qr ?_ | refine qs ?_ | refine hw1.l 2 ?_)
      refine O.mk (hix2 _ _ (by omega) (by omega)) ?_
      rw [show ((j : Int) + 1).toNat = j + 1 by omega]
      refine O.mk hrd2 ?_
      refine (k62 hw1 (a := e) (b := s) (by omega) (by omega)).use ?_
      rintro _ w2 ⟨c', rs', rfl, hcase, hw2⟩
      refine hK c' rs' w2 ?_ hw2
      rcases hcase with ⟨rfl, rfl, hh⟩ | ⟨rfl, h3, h4, h5, h6, h7⟩
      · refine ⟨hR.len, hR.sound, hR.sub, fun hc => ?_, fun hc => hR.yes (by simpa using hc)⟩
        have hc' : c = false := by simpa using hc
        obtain ⟨e1, e2⟩ := hR.no hc'
        refine ⟨e1, fun i' j' s' hp => ?_⟩
        rcases hp with hp | ⟨rfl, rfl, _⟩
        · exact e2 i' j' s' hp
        · intro x' y' e' s'' f1 f2 f3 f4 _ _ _ _ _ _
          rw [hes] at f3; cases f3
          rw [hss] at f4; cases f4
          rw [← e1]
          exact hh g4 (by omega)
      · refine ⟨h6.trans hR.len, fun a b hab => ?_, fun a b hab => by rw [h7, hR.sub a b hab]; rfl, fun hc => by simp at hc, fun _ => ⟨e.toNat, s.toNat, by omega, by omega, ?_, by rw [h7]; simp⟩⟩
        · rw [h7, Bool.or_eq_true] at hab
          rcases hab with hab | hab
          · exact hR.sound a b hab
          · obtain ⟨f1, f2⟩ := of_decide_eq_true hab
            rw [f1, f2]; exact hHB
        · rcases hh : Has rs2 e.toNat s.toNat with _ | _
          · rfl
          · rw [hR.sub _ _ hh] at h5; cases h5
    · have := hK false rs w1 ⟨hR.len, hR.sound, hR.sub, fun hc => ?_, fun hc => hR.yes (by simpa using hc)⟩ hw1
      · exact this
      · have hc' : c = false := by simpa using hc
        obtain ⟨e1, e2⟩ := hR.no hc'
        refine ⟨e1, fun i' j' s' hp => ?_⟩
        rcases hp with hp | ⟨rfl, rfl, hsk⟩
        · exact e2 i' j' s' hp
        · intro x' y' e' s'' f1 f2 f3 f4 f5 f6 f7 f8 f9 f10
          rw [hx] at f1; cases f1
          rw [hy] at f2; cases f2
          rw [hes] at f3; cases f3
          rw [hss] at f4; cases f4
          exfalso
          unfold RuleP at h
          rw [decide_eq_true ⟨f5, f6, f7, f8, f9⟩, Bool.true_and, hcond] at h
          rw [← e1] at f10
          by_cases hk0 : k = 0
          · rw [hsk, decide_eq_true hk0, if_pos rfl] at f10
            rw [if_pos hk0, decide_eq_true f10.1, Bool.true_and] at h
            unfold FirstB at h
            rw [decide_eq_true ⟨f10.2.1, f10.2.2.1⟩, Bool.true_and, f10.2.2.2] at h
            cases h
          · rw [hsk, decide_eq_false hk0, if_neg (by decide)] at f10
            obtain ⟨s0', q1, q2, q3⟩ := f10
            rw [hs0] at q1; cases q1
            rw [if_neg hk0] at h
            unfold FirstB at h
            rw [decide_eq_true ⟨q2, by omega⟩, Bool.true_and, q3] at h
            cases h
  by_cases hk0 : k = 0
  · rw [if_pos hk0]
    refine CV.mk57 ?_
    refine (k57 hw hx hy hes hss (by omega) (by omega) hT).use ?_
    rintro _ w1 ⟨rfl, hw1⟩
    rw [if_pos hk0] at hcond
    rw [← hcond]
    exact hmain w1 hw1
  · rw [if_neg hk0]
    refine CV.mk60 ?_
    refine (k60 hw hx hy hes hss hs0 (by omega) (by omega) hT).use ?_
    rintro _ w1 ⟨rfl, hw1⟩
    rw [if_neg hk0] at hcond
    rw [← hcond]
    exact hmain w1 hw1
end
end Go.Proofs.Ytedcfkigfcobaaa
end
/- Contracts: a run's closure, all of it. -/
section
namespace Go.Proofs.Ytedcfkigfcobaaa
open Go Go.Proofs
attribute [local irreducible] Bc O AL BS MS MM ST AP CV Cl
section
variable {B : Base} {w : World} {L : List Atom} {mv : Value} {T : List TK} {M : List MK} {bt capt : Nat}
set_option maxHeartbeats 4000000 in
set_option maxRecDepth 8000 in
theorem k30 (hw : Own B w (rA (tvS bt T.length capt) mv T M ++ L)) (hr : RunOK T M) (hT : T.length ≤ 256) (hn : M.length ≤ 1200) :
    Cl Try.prog 30 [runV (tvS bt T.length capt) mv] w fun v w' => ∃ (cb : Nat) (rv bv ev : Value) (rs : List Row) (bl el : List Int), v = pp cb ∧ BE T M M.length 1 bl ∧ BE T M M.length 2 el ∧ rs.length = M.length ∧ (∀ a b, Has rs a b = true ↔ HB T M bl el a b) ∧ Own B w' (rA (tvS bt T.length capt) mv T M ++ (clA (tvS bt T.length capt) mv rv bv ev cb rs bl el ++ L)) := by
  obtain ⟨R, hR⟩ : ∃ R : Value → World → Prop, R = fun v w' => ∃ (cb : Nat) (rv bv ev : Value) (rs : List Row) (bl el : List Int), v = pp cb ∧ BE T M M.length 1 bl ∧ BE T M M.length 2 el ∧ rs.length = M.length ∧ (∀ a b, Has rs a b = true ↔ HB T M bl el a b) ∧ Own B w' (rA (tvS bt T.length capt) mv T M ++ (clA (tvS bt T.length capt) mv rv bv ev cb rs bl el ++ L)) := ⟨_, rfl⟩
  rw [← hR]
  have hmv := sl_one hw 1 rfl
  have hJ : ∀ (b1 cb pb : Nat) (rv bv ev : Value) w' L', Own B w' L' → L'.Perm (rA (tvS bt T.length capt) mv T M ++ (clA (tvS bt T.length capt) mv rv bv ev cb (List.replicate M.length zRow) (List.replicate (T.length + 1) 0) (List.replicate (T.length + 1) 0) ++ (bk pb 112 [pp cb] :: bk b1 52 [tvS bt T.length capt, mv] :: L))) → j30_0 R (pp b1) (pp pb) w' := by
    intro b1 cb pb rv bv ev w3 L' hwL hperm
    have hw3 := hwL.perm hperm
    clear hwL hperm
    have h6 : ∀ {rs bl el w'}, Own B w' (rA (tvS bt T.length capt) mv T M ++ (clA (tvS bt T.length capt) mv rv bv ev cb rs bl el ++ (bk pb 112 [pp cb] :: bk b1 52 [tvS bt T.length capt, mv] :: L))) → rd1 (pp pb) w' = some (pp cb) := fun h => h.rd1_bk 6 rfl rfl
    unfold j30_0
    refine O.mk (h6 hw3) ?_
    (repeat with_reducible first | refine qq ?_ | refine qr ?_ | refine qs ?_ | refine hw3.l 2 ?_)
    refine O.mk (hw3.slLen 4 rfl) ?_
    obtain ⟨I0, hI⟩ : ∃ I : Value → World → Prop, I = fun v w' => ∃ (i : Nat) (bl el : List Int), v = .int .i64 i ∧ i ≤ T.length + 1 ∧ bl.length = T.length + 1 ∧ el.length = T.length + 1 ∧ (∀ (j : Nat), j < i → bl[j]? = some (-1) ∧ el[j]? = some (-1)) ∧ Own B w' (rA (tvS bt T.length capt) mv T M ++ (clA (tvS bt T.length capt) mv rv bv ev cb (List.replicate M.length zRow) bl el ++ (bk pb 112 [pp cb] :: bk b1 52 [tvS bt T.length capt, mv] :: L))) := ⟨_, rfl⟩
    obtain ⟨m0, hm⟩ : ∃ m : Value → World → Nat, m = fun v _ => match v with | .int _ i => (T.length + 1 - i).toNat | _ => 0 := ⟨_, rfl⟩
    refine ⟨I0, m0, by rw [hI]; exact ⟨0, _, _, rfl, by omega, by simp, by simp, fun j h => by omega, hw3⟩, ?_⟩
    clear hw3
    intro t37 wh0 h0
    rw [hI] at h0
    obtain ⟨i, bl, el, rfl, hi, hbl, hel, hall, hw4⟩ := h0
    rw [List.length_replicate]
    (repeat with_reducible first | refine qq ?_ | refine qr ?_ | refine qs ?_)
    refine Bc_dec (fun hlt => ?_) (fun hge => ?_)
    · refine hw4.dr fun w5 hw5 => ?_
      clear hw4
      refine O.mk (h6 hw5) ?_
      (repeat with_reducible first | refine qq ?_ | refine qr ?_ | refine qs ?_ | refine hw5.l 2 ?_)
      refine O.mk (h6 hw5) ?_
      (repeat with_reducible first | refine qq ?_ | refine qr ?_ | refine qs ?_ | refine hw5.l 2 ?_)
      obtain ⟨vb, hvb⟩ := list_get (l := bl) (j := i) (by omega)
      obtain ⟨ve, hve⟩ := list_get (l := el) (j := i) (by omega)
      obtain ⟨ba, hix1, _⟩ := hw5.eli 4 rfl hvb
      refine O.mk (hix1 _ _ (by omega) (by omega)) ?_
      refine hw5.elsti 4 rfl (list_lt hvb) (-1) (hix1 .i64 (i : Int) (by omega) (by omega)) (by omega) tsz3 fun w6 hw6 => ?_
      clear hw5
      obtain ⟨bb', hix2, _⟩ := hw6.eli 5 rfl hve
      refine O.mk (hix2 _ _ (by omega) (by omega)) ?_
      refine hw6.elsti 5 rfl (list_lt hve) (-1) (hix2 .i64 (i : Int) (by omega) (by omega)) (by omega) tsz3 fun w7 hw7 => ?_
      clear hw6
      refine O.mk (bi_addb (a := i) (b := 1) (by omega)) ?_
      rw [hI, hm]
      refine ⟨⟨i + 1, bl.set i (-1), el.set i (-1), rfl, by omega, by simpa using hbl, by simpa using hel, fun j hj => ?_, hw7⟩, by simp only; omega⟩
      rw [List.getElem?_set, List.getElem?_set]
      by_cases hij : i = j
      · subst hij
        rw [if_pos rfl, if_pos rfl, if_pos (list_lt hvb), if_pos (list_lt hve)]
        exact ⟨rfl, rfl⟩
      · rw [if_neg hij, if_neg hij]
        exact hall j (by omega)
    · have hie : i = T.length + 1 := by omega
      have hb0 : BE T M 0 1 bl := ⟨hbl, fun x v hv => by
        have := (hall x (by have := list_lt hv; omega)).1
        rw [hv] at this; cases this
        exact .inl ⟨rfl, fun j n h => by omega⟩⟩
      have he0 : BE T M 0 2 el := ⟨hel, fun x v hv => by
        have := (hall x (by have := list_lt hv; omega)).2
        rw [hv] at this; cases this
        exact .inl ⟨rfl, fun j n h => by omega⟩⟩
      clear hall hge hie hi
      (repeat with_reducible first | refine qq ?_ | refine qr ?_ | refine qs ?_ | refine hw4.l 7 ?_)
      refine O.mk (hw4.slLen 1 rfl) ?_
      obtain ⟨I1, hI1⟩ : ∃ I : Value → World → Prop, I = fun v w' => ∃ (i : Nat) (bl el : List Int), v = .int .i64 i ∧ i ≤ M.length ∧ BE T M i 1 bl ∧ BE T M i 2 el ∧ Own B w' (rA (tvS bt T.length capt) mv T M ++ (clA (tvS bt T.length capt) mv rv bv ev cb (List.replicate M.length zRow) bl el ++ (bk pb 112 [pp cb] :: bk b1 52 [tvS bt T.length capt, mv] :: L))) := ⟨_, rfl⟩
      obtain ⟨m1, hm1⟩ : ∃ m : Value → World → Nat, m = fun v _ => match v with | .int _ i => (M.length - i).toNat | _ => 0 := ⟨_, rfl⟩
      refine ⟨I1, m1, by rw [hI1]; exact ⟨0, bl, el, rfl, by omega, hb0, he0, hw4⟩, ?_⟩
      clear hw4 hb0 he0 hbl hel bl el
      intro t54 wh1 h1
      rw [hI1] at h1
      obtain ⟨i, bl, el, rfl, hi, hb, he, hw5⟩ := h1
      (repeat with_reducible first | refine qq ?_ | refine qr ?_ | refine qs ?_)
      refine Bc_dec (fun hlt => ?_) (fun hge => ?_)
      · obtain ⟨m, hmm⟩ := list_get (l := M) (j := i) (by omega)
        have hok := hr.mks i m hmm
        have htk := hok.task
        obtain ⟨bm, hixm, hrdm, hrdN⟩ := hw5.el 1 rfl encMK_len hmm
        refine O.mk (hixm _ _ (by omega) (by omega)) ?_
        rw [show ((i : Int)).toNat = i by omega]
        refine O.mk hrdN ?_
        refine hw5.al fun b6 w6 hb6 hw6' => ?_
        clear hrdm hrdN hixm
        have hw6 : Own B w6 (rA (tvS bt T.length capt) mv T M ++ (clA (tvS bt T.length capt) mv rv bv ev cb (List.replicate M.length zRow) bl el ++ (bk b6 67 [.int .i64 0, .int .i64 0, .int .i64 0, .int .i64 0, .int .i64 0, .int .i64 0, .int .i64 0, .bool false] :: bk pb 112 [pp cb] :: bk b1 52 [tvS bt T.length capt, mv] :: L))) := hw6'.perm (List.perm_middle (l₁ := rA (tvS bt T.length capt) mv T M ++ clA (tvS bt T.length capt) mv rv bv ev cb (List.replicate M.length zRow) bl el)).symm
        clear hw6' hw5
        refine hw6.st_bk (x := .agg (encMK m).toArray) 6 rfl (by kernel_rfl) (encMK_one m) (Nat.le_refl 8) fun w7 hw7 => ?_
        clear hw6
        replace hw7 : Own B w7 (rA (tvS bt T.length capt) mv T M ++ (clA (tvS bt T.length capt) mv rv bv ev cb (List.replicate M.length zRow) bl el ++ (bk b6 67 (encMK m) :: bk pb 112 [pp cb] :: bk b1 52 [tvS bt T.length capt, mv] :: L))) := hw7
        have JN : ∀ bl' el' w', BE T M (i + 1) 1 bl' → BE T M (i + 1) 2 el' → Own B w' (rA (tvS bt T.length capt) mv T M ++ (clA (tvS bt T.length capt) mv rv bv ev cb (List.replicate M.length zRow) bl' el' ++ (bk b6 67 (encMK m) :: bk pb 112 [pp cb] :: bk b1 52 [tvS bt T.length capt, mv] :: L))) → j30_1 R (.int .i64 i) I1 m1 wh1 w' := by
          intro bl' el' w' g1 g2 hw'
          unfold j30_1
          refine O.mk (bi_addb (a := i) (b := 1) (by omega)) ?_
          rw [hI1, hm1]
          exact ⟨⟨i + 1, bl', el', rfl, by omega, g1, g2, (hw'.perm (List.perm_middle (l₁ := rA (tvS bt T.length capt) mv T M ++ clA (tvS bt T.length capt) mv rv bv ev cb (List.replicate M.length zRow) bl' el'))).tail⟩, by simp only; omega⟩
        obtain ⟨vb, hvb⟩ := list_get (l := bl) (j := m.task.toNat) (by have := hb.1; omega)
        obtain ⟨ve, hve⟩ := list_get (l := el) (j := m.task.toNat) (by have := he.1; omega)
        (repeat with_reducible first | refine qq ?_ | refine qr ?_ | refine qs ?_ | refine hw7.l 6 ?_)
        refine Bc_dec (fun k1 => ?_) (fun k1 => ?_)
        · refine hw7.dr fun w8 hw8 => ?_
          clear hw7
          refine O.mk (hw8.rd1_bk 7 rfl rfl) ?_
          (repeat with_reducible first | refine qq ?_ | refine qr ?_ | refine qs ?_ | refine hw8.l 2 ?_ | refine hw8.l 6 ?_)
          obtain ⟨b2, hix1, _⟩ := hw8.eli 4 rfl hvb
          refine O.mk (hix1 _ _ (by omega) rfl) ?_
          refine hw8.elsti 4 rfl (list_lt hvb) i (hix1 .i64 _ (by omega) rfl) rfl tsz3 fun w9 hw9 => ?_
          exact JN _ _ _ (hb.put hmm k1 (by omega)) (he.skip hmm (by omega)) hw9
        (repeat with_reducible first | refine qq ?_ | refine qr ?_ | refine qs ?_)
        refine Bc_dec (fun k2 => ?_) (fun k2 => JN _ _ _ (hb.skip hmm k1) (he.skip hmm k2) hw7)
        refine hw7.dr fun w8 hw8 => ?_
        clear hw7
        refine O.mk (hw8.rd1_bk 7 rfl rfl) ?_
        (repeat with_reducible first | refine qq ?_ | refine qr ?_ | refine qs ?_ | refine hw8.l 2 ?_ | refine hw8.l 6 ?_)
        obtain ⟨b2, hix1, _⟩ := hw8.eli 5 rfl hve
        refine O.mk (hix1 _ _ (by omega) rfl) ?_
        refine hw8.elsti 5 rfl (list_lt hve) i (hix1 .i64 _ (by omega) rfl) rfl tsz3 fun w9 hw9 => ?_
        exact JN _ _ _ (hb.skip hmm k1) (he.put hmm k2 (by omega)) hw9
      · have hie : i = M.length := by omega
        subst hie
        have hltH : ∀ a b, HB T M bl el a b → a < b ∧ b < M.length := fun a b h => h.lt hr hb he
        have hC := HB.closed (T := T) (M := M) (bl := bl) (el := el)
        refine O.mk (h6 hw5) ?_
        refine (k55 hw5 hr hb he hn hT (by simp) (fun a b => Has_zero _ a b)).use ?_
        clear hw5
        rintro _ w6 ⟨rfl, rs1, hl1, hs1, hlaid1, hw6⟩
        refine O.mk (h6 hw6) ?_
        refine (k56 hw6 (H := HB T M bl el) (by omega) hC.trans (fun a b h => by rw [hl1]; exact hltH a b h) hs1).use ?_
        clear hw6
        rintro _ w7 ⟨rfl, rs2, hl2, hsub2, hs2, htr2, hw7⟩
        rw [hl1] at hl2
        have hlaid2 := hlaid1.mono hsub2
        clear hsub2 hlaid1 hs1 hl1 rs1
        refine hw7.bs (rules_bs (pp pb)) fun rb w8 hrb hw8' => ?_
        clear hw7
        obtain ⟨L2, hL2⟩ : ∃ L2, L2 = bk rb 114 [.func (.func 57) #[] #[pp pb], .func (.func 60) #[] #[pp pb]] :: bk b1 52 [tvS bt T.length capt, mv] :: L := ⟨_, rfl⟩
        have hw8 : Own B w8 (rA (tvS bt T.length capt) mv T M ++ (clA (tvS bt T.length capt) mv rv bv ev cb rs2 bl el ++ (bk pb 112 [pp cb] :: L2))) := by
          rw [hL2]
          exact hw8'.perm (List.perm_middle (l₁ := rA (tvS bt T.length capt) mv T M ++ clA (tvS bt T.length capt) mv rv bv ev cb rs2 bl el ++ [bk pb 112 [pp cb]])).symm
        clear hw8'
        have hrule : ∀ {rs w'} (k : Nat), k < 2 → Own B w' (rA (tvS bt T.length capt) mv T M ++ (clA (tvS bt T.length capt) mv rv bv ev cb rs bl el ++ (bk pb 112 [pp cb] :: L2))) → rd1 (.pointer (some ⟨rb, (k : Int).toNat * 1, none⟩)) w' = some (if k = 0 then .func (.func 57) #[] #[pp pb] else .func (.func 60) #[] #[pp pb]) := fun {rs w'} k hk h => by
          have : k = 0 ∨ k = 1 := by omega
          rcases this with rfl | rfl
          · exact h.rd1_bk 7 (by rw [hL2]; rfl) rfl
          · exact h.rd1_bk 7 (by rw [hL2]; rfl) rfl
        have hrun : ∀ {rs w'}, Own B w' (rA (tvS bt T.length capt) mv T M ++ (clA (tvS bt T.length capt) mv rv bv ev cb rs bl el ++ (bk pb 112 [pp cb] :: L2))) → rd1 (.pointer (some ⟨b1, 0, none⟩)) w' = some (tvS bt T.length capt) := fun {rs w'} h => h.rd1_bk 8 (by rw [hL2]; rfl) rfl
        have h6' : ∀ {rs w'}, Own B w' (rA (tvS bt T.length capt) mv T M ++ (clA (tvS bt T.length capt) mv rv bv ev cb rs bl el ++ (bk pb 112 [pp cb] :: L2))) → rd1 (pp pb) w' = some (pp cb) := fun h => h.rd1_bk 6 rfl rfl
        have hback : ∀ {rs w'}, Own B w' (rA (tvS bt T.length capt) mv T M ++ (clA (tvS bt T.length capt) mv rv bv ev cb rs bl el ++ (bk pb 112 [pp cb] :: L2))) → Own B w' (rA (tvS bt T.length capt) mv T M ++ (clA (tvS bt T.length capt) mv rv bv ev cb rs bl el ++ L)) := fun {rs w'} h => by
          rw [hL2] at h
          exact ((h.drop 6).drop 6).drop 6
        clear hL2 h6
        obtain ⟨μ2, hμ2⟩ := meas (fun (rs : List Row) w' => Own B w' (rA (tvS bt T.length capt) mv T M ++ (clA (tvS bt T.length capt) mv rv bv ev cb rs bl el ++ (bk pb 112 [pp cb] :: L2)))) (fun rs => c2 (Has rs) M.length M.length) (fun w' g g' h1 h2 => by rw [rows_uniq h1 h2 3 rfl rfl])
        obtain ⟨I2, hI2⟩ : ∃ I : World → Prop, I = fun w' => ∃ rs : List Row, rs.length = M.length ∧ (∀ a b, Has rs a b = true → HB T M bl el a b) ∧ Laid T M bl el M.length T.length (Has rs) ∧ (∀ a b c, Has rs a b = true → Has rs b c = true → Has rs a c = true) ∧ Own B w' (rA (tvS bt T.length capt) mv T M ++ (clA (tvS bt T.length capt) mv rv bv ev cb rs bl el ++ (bk pb 112 [pp cb] :: L2))) := ⟨_, rfl⟩
        refine ⟨I2, μ2, by rw [hI2]; exact ⟨rs2, hl2, hs2, hlaid2, htr2, hw8⟩, ?_⟩
        clear hw8 htr2 hlaid2 hs2 hl2 rs2
        intro wh2 h2
        rw [hI2] at h2
        obtain ⟨rs2, hl2, hs2, hlaid2, htr2, hw9⟩ := h2
        have hμ := hμ2 wh2 rs2 hw9
        obtain ⟨I3, hI3⟩ : ∃ I : Value → Value → World → Prop, I = fun v1 v2 w' => ∃ (c : Bool) (i : Nat) (rs : List Row), v1 = .bool c ∧ v2 = .int .i64 ((i : Int) + 1) ∧ i ≤ T.length ∧ Rd T M bl el rs2 rs c (fun i' j' _ => i' < i ∧ j' < T.length) ∧ Own B w' (rA (tvS bt T.length capt) mv T M ++ (clA (tvS bt T.length capt) mv rv bv ev cb rs bl el ++ (bk pb 112 [pp cb] :: L2))) := ⟨_, rfl⟩
        obtain ⟨m3, hm3⟩ : ∃ m : Value → Value → World → Nat, m = fun _ v _ => match v with | .int _ i => (T.length + 1 - i).toNat | _ => 0 := ⟨_, rfl⟩
        refine ⟨I3, m3, by rw [hI3]; exact ⟨false, 0, rs2, rfl, rfl, by omega, ⟨hl2, hs2, fun _ _ h => h, fun _ => ⟨rfl, fun i j s h => by omega⟩, fun h => by cases h⟩, hw9⟩, ?_⟩
        clear hw9
        intro t8 t9 wh3 h3
        rw [hI3] at h3
        obtain ⟨c3, i3, rs3, rfl, rfl, hi3, hR3, hw10⟩ := h3
        (repeat with_reducible first | refine qq ?_ | refine qr ?_ | refine qs ?_)
        refine O.mk (hrun hw10) ?_
        refine O.mk lenS_s ?_
        (repeat with_reducible first | refine qq ?_ | refine qr ?_ | refine qs ?_)
        refine Bc_dec (fun hlt3 => ?_) (fun hge3 => ?_)
        · obtain ⟨I4, hI4⟩ : ∃ I : Value → Value → World → Prop, I = fun v1 v2 w' => ∃ (c : Bool) (j : Nat) (rs : List Row), v1 = .bool c ∧ v2 = .int .i64 ((j : Int) + 1) ∧ j ≤ T.length ∧ Rd T M bl el rs2 rs c (fun i' j' _ => (i' < i3 ∧ j' < T.length) ∨ (i' = i3 ∧ j' < j)) ∧ Own B w' (rA (tvS bt T.length capt) mv T M ++ (clA (tvS bt T.length capt) mv rv bv ev cb rs bl el ++ (bk pb 112 [pp cb] :: L2))) := ⟨_, rfl⟩
          obtain ⟨m4, hm4⟩ : ∃ m : Value → Value → World → Nat, m = fun _ v _ => match v with | .int _ i => (T.length + 1 - i).toNat | _ => 0 := ⟨_, rfl⟩
          refine ⟨I4, m4, by rw [hI4]; exact ⟨c3, 0, rs3, rfl, rfl, by omega, hR3.weak (fun i j s h => by omega), hw10⟩, ?_⟩
          clear hw10 hR3
          intro t8 t10 wh4 h4
          rw [hI4] at h4
          obtain ⟨c4, j4, rs4, rfl, rfl, hj4, hR4, hw11⟩ := h4
          (repeat with_reducible first | refine qq ?_ | refine qr ?_ | refine qs ?_)
          refine O.mk (hrun hw11) ?_
          refine O.mk lenS_s ?_
          (repeat with_reducible first | refine qq ?_ | refine qr ?_ | refine qs ?_)
          refine Bc_dec (fun hlt4 => ?_) (fun hge4 => ?_)
          · refine O.mk lenS_s ?_
            obtain ⟨I5, hI5⟩ : ∃ I : Value → Value → World → Prop, I = fun v1 v2 w' => ∃ (c : Bool) (k : Nat) (rs : List Row), v1 = .bool c ∧ v2 = .int .i64 k ∧ k ≤ 2 ∧ Rd T M bl el rs2 rs c (fun i' j' s => ((i' < i3 ∧ j' < T.length) ∨ (i' = i3 ∧ j' < j4)) ∨ (i' = i3 ∧ j' = j4 ∧ ((s = true ∧ 1 ≤ k) ∨ (s = false ∧ 2 ≤ k)))) ∧ Own B w' (rA (tvS bt T.length capt) mv T M ++ (clA (tvS bt T.length capt) mv rv bv ev cb rs bl el ++ (bk pb 112 [pp cb] :: L2))) := ⟨_, rfl⟩
            obtain ⟨m5, hm5⟩ : ∃ m : Value → Value → World → Nat, m = fun _ v _ => match v with | .int _ i => (2 - i).toNat | _ => 0 := ⟨_, rfl⟩
            refine ⟨I5, m5, by rw [hI5]; exact ⟨c4, 0, rs4, rfl, rfl, by omega, hR4.weak (fun i j s h => by rcases h with h | ⟨_, _, ⟨_, h⟩ | ⟨_, h⟩⟩; exact h; all_goals omega), hw11⟩, ?_⟩
            clear hw11 hR4
            intro t8 t105 wh5 h5
            rw [hI5] at h5
            obtain ⟨c5, k5, rs5, rfl, rfl, hk5, hR5, hw12⟩ := h5
            (repeat with_reducible first | refine qq ?_ | refine qr ?_ | refine qs ?_)
            refine Bc_dec (fun hlt5 => ?_) (fun hge5 => ?_)
            · refine O.mk (iS_0 (by omega) (by omega)) ?_
              refine O.mk (hrule k5 (by omega) hw12) ?_
              refine hw12.dr fun w13 hw13 => ?_
              clear hw12
              have JN : ∀ (c' : Bool) (rs' : List Row) w', Rd T M bl el rs2 rs' (c5 || c') (fun i' j' s => (((i' < i3 ∧ j' < T.length) ∨ (i' = i3 ∧ j' < j4)) ∨ (i' = i3 ∧ j' = j4 ∧ ((s = true ∧ 1 ≤ k5) ∨ (s = false ∧ 2 ≤ k5)))) ∨ (i' = i3 ∧ j' = j4 ∧ s = decide (k5 = 0))) → Own B w' (rA (tvS bt T.length capt) mv T M ++ (clA (tvS bt T.length capt) mv rv bv ev cb rs' bl el ++ (bk pb 112 [pp cb] :: L2))) → j30_3 R (.int .i64 k5) I5 m5 (.bool c5) wh5 (.bool c') w' := by
                intro c' rs' w' hR' hw'
                have hfin : ∀ c'' : Bool, c'' = (c5 || c') → j30_2 R (.int .i64 k5) I5 m5 (.bool c5) wh5 (.bool c'') w' := by
                  intro c'' hc''
                  unfold j30_2
                  refine O.mk (bi_addb (a := k5) (b := 1) (by omega)) ?_
                  rw [hI5, hm5]
                  refine ⟨⟨c'', k5 + 1, rs', rfl, rfl, by omega, ?_, hw'⟩, by simp only; omega⟩
                  rw [hc'']
                  refine hR'.weak fun i' j' s h => ?_
                  rcases h with h | ⟨h1, h2, ⟨h3, h4⟩ | ⟨h3, h4⟩⟩
                  · exact .inl (.inl h)
                  · by_cases hk : k5 = 0
                    · exact .inr ⟨h1, h2, by rw [h3, decide_eq_true hk]⟩
                    · exact .inl (.inr ⟨h1, h2, .inl ⟨h3, by omega⟩⟩)
                  · exact .inr ⟨h1, h2, by rw [h3, decide_eq_false (by omega)]⟩
                unfold j30_3
                exact Bc_b (fun h => hfin true (by rw [h, Bool.or_true])) (fun h => hfin c5 (by rw [h, Bool.or_false]))
              exact rule_step (K := fun t w' => j30_3 R (.int .i64 k5) I5 m5 (.bool c5) wh5 t w') hr hb he hn hT (by omega) (by omega) (by omega) hR5 hw13 JN
            · (repeat with_reducible first | refine qq ?_ | refine qr ?_ | refine qs ?_)
              rw [hI4, hm4]
              refine ⟨⟨c5, j4 + 1, rs5, rfl, by simp, by omega, hR5.weak (fun i' j' s h => ?_), hw12⟩, by simp only; omega⟩
              by_cases h' : (i' < i3 ∧ j' < T.length) ∨ (i' = i3 ∧ j' < j4)
              · exact .inl h'
              · refine .inr ⟨by omega, by omega, ?_⟩
                rcases s with _ | _
                · exact .inr ⟨rfl, by omega⟩
                · exact .inl ⟨rfl, by omega⟩
          · (repeat with_reducible first | refine qq ?_ | refine qr ?_ | refine qs ?_)
            rw [hI3, hm3]
            refine ⟨⟨c4, i3 + 1, rs4, rfl, by simp, by omega, hR4.weak (fun i' j' s h => by omega), hw11⟩, by simp only; omega⟩
        · (repeat with_reducible first | refine qq ?_ | refine qr ?_ | refine qs ?_)
          refine Bc_b (fun hc => ?_) (fun hc => ?_)
          · have hc' : c3 = false := by simpa using hc
            obtain ⟨rfl, hsat⟩ := hR3.no hc'
            refine O.mk (h6' hw10) ?_
            rw [hR]
            refine ⟨cb, rv, bv, ev, rs3, bl, el, rfl, hb, he, hl2, fun a b => ⟨hs2 a b, fun h => ?_⟩, hback hw10⟩
            exact h _ (closed_of hlaid2 htr2 fun i j hi hj => ⟨hsat i j true ⟨by omega, hj⟩, hsat i j false ⟨by omega, hj⟩⟩)
          · have hc' : c3 = true := by simpa using hc
            refine O.mk (h6' hw10) ?_
            refine (k56 hw10 (H := HB T M bl el) (by rw [hR3.len]; omega) hC.trans (fun a b h => by rw [hR3.len]; exact hltH a b h) hR3.sound).use ?_
            rintro _ w11 ⟨rfl, rs4, hl4, hsub4, hs4, htr4, hw11⟩
            have hsub : ∀ a b, Has rs2 a b = true → Has rs4 a b = true := fun a b h => hsub4 a b (hR3.sub a b h)
            rw [hI2]
            refine ⟨⟨rs4, hl4.trans hR3.len, hs4, hlaid2.mono hsub, htr4, hw11⟩, ?_⟩
            rw [hμ, hμ2 w11 rs4 hw11]
            obtain ⟨a, b, h1, h2, h3, h4⟩ := hR3.yes hc'
            exact c2_lt hsub h1 h3 (hsub4 a b h4) M.length h2
  refine s30 ?_
  unfold c30
  refine hw.al fun b1 w1 hb1 hw1' => ?_
  have hw1 : Own B w1 (rA (tvS bt T.length capt) mv T M ++ (bk b1 52 [tvS bt T.length capt, mv] :: L)) := hw1'.perm (List.perm_middle (l₁ := rA (tvS bt T.length capt) mv T M)).symm
  clear hw1' hw
  refine hw1.dr fun w' hw' => ?_
  clear hw1
  have hH : HdS w' w' := HdS.refl w'
  refine O.mk (v := runV (tvS bt T.length capt) mv) (hw'.rdN_bk 2 rfl (Nat.le_refl 2)) ?_
  (repeat with_reducible first | refine qq ?_ | refine qr ?_ | refine qs ?_ | refine hw'.l 2 ?_)
  refine O.mk (hw'.slLen 1 rfl) ?_
  (repeat with_reducible first | refine qq ?_ | refine qr ?_ | refine qs ?_ | refine hw'.l 2 ?_)
  have e1 : ((T.length : Int) + 1) = ((T.length + 1 : Nat) : Int) := by simp
  rw [e1]
  have hST : ∀ (cb pb : Nat) (rv bv ev : Value) w1 L', Own B w1 L' → HdS w' w1 → w'.heap.size ≤ pb → L'.Perm (sl 73 15 (tvS bt T.length capt) T.length (T.flatMap encTK) :: sl 67 8 mv M.length (M.flatMap encMK) :: bk cb 145 [tvS bt T.length capt, mv, rv, bv, ev] :: sl 149 19 rv (List.replicate M.length zRow).length ((List.replicate M.length zRow).flatMap encRow) ::
      sl 3 1 bv (List.replicate (T.length + 1) (0 : Int)).length (ints (List.replicate (T.length + 1) 0)) :: sl 3 1 ev (List.replicate (T.length + 1) (0 : Int)).length (ints (List.replicate (T.length + 1) 0)) :: bk pb 112 [.pointer none] :: bk b1 52 [tvS bt T.length capt, mv] :: L) →
      ST Try.prog 112 (pp pb) (pp cb) w1 fun _ w2 => Hd w' w2 ∧ j30_0 R (pp b1) (pp pb) w2 := by
    intro cb pb rv bv ev w1 L' h1 h2 h3 h4
    exact (h1.perm h4).stP h2 6 rfl h3 fun w2 g1 g2 => ⟨g2.1, hJ b1 cb pb rv bv ev w2 _ g1 (List.Perm.refl _)⟩
  clear hJ
  repeat' (first
    | (apply hST _ _ _ _ _ _ _ hw' hH <;> (first | assumption | (repeat' (first | exact List.Perm.refl _ | refine P0 ?_ | refine P1 ?_ | refine P2 ?_ | refine P3 ?_ | refine P4 ?_ | refine P5 ?_))))
    | refine And.intro hH.1 ?_
    | refine And.intro ?_ ?_
    | (refine hw'.mksR hH (by omega) fun v w' hone hw' hH => ?_)
    | (refine hw'.mksI hH (by omega) fun v w' hone hw' hH => ?_)
    | refine O.mk (fill145 (by assumption) (by assumption) (by assumption)) ?_
    | (refine hw'.alH hH fun b w' hb hb' hw' hH => ?_))
end
end Go.Proofs.Ytedcfkigfcobaaa
end
/- Contracts: rows of bools; the order of a run. -/
section
namespace Go.Proofs.Ytedcfkigfcobaaa
open Go Go.Proofs
attribute [local irreducible] Bc O AL BS MS MM ST AP CV Cl
structure BR where
  v : Value
  l : List Bool
def encBR (r : BR) : List Value := [r.v]
theorem encBR_len (r : BR) : (encBR r).length = 1 := rfl
def brA (r : BR) : Atom := sl 4 1 r.v r.l.length (bools r.l)
def HasB (rows : List BR) (a b : Nat) : Bool := (rows[a]?.bind (·.l[b]?)).getD false
theorem HasB_row {rows : List BR} {a : Nat} {r : BR} (hr : rows[a]? = some r) (b : Nat) : HasB rows a b = r.l[b]?.getD false := by unfold HasB; rw [hr]; rfl
section
variable {P : Program} {B : Base} {w : World} {L : List Atom} {lv v : Value} {rows : List BR} {l : List Bool}
theorem Own.elb (h : Own B w L) (j : Nat) {t : Nat} (hj : L[j]? = some (sl t 1 v l.length (bools l))) {i : Nat} {x : Bool} (hx : l[i]? = some x) :
    ∃ b, (∀ (k : IntKind) (q : Int), 0 ≤ q → q.toNat = i → iS 1 v (.int k q) = some (.pointer (some ⟨b, q.toNat * 1, none⟩))) ∧ rd1 (.pointer (some ⟨b, i * 1, none⟩)) w = some (.bool x) := by
  rw [bools_flat] at hj
  obtain ⟨b, h1, h2, _⟩ := h.el j hj encB_len hx
  exact ⟨b, h1, h2 0 _ rfl⟩
theorem Own.elstb (h : Own B w L) (j : Nat) {t : Nat} (hj : L[j]? = some (sl t 1 v l.length (bools l))) {i : Nat} (hx : i < l.length) (x' : Bool) {b : Nat} {kk : IntKind} {q : Int}
    (hix : iS 1 v (.int kk q) = some (.pointer (some ⟨b, q.toNat * 1, none⟩))) (hq : q.toNat = i) {ty : TypeId} (ht : tsz P ty = some 1) {K : Value → World → Prop} (hk : ∀ w', Own B w' (L.set j (sl t 1 v (l.set i x').length (bools (l.set i x')))) → K undef w') :
    ST P ty (.pointer (some ⟨b, q.toNat * 1, none⟩)) (.bool x') w K := by
  rw [bools_flat] at hj
  obtain ⟨x, hx⟩ := list_get hx
  have := h.elst (P := P) (ty := ty) (X := .bool x') (k := 0) (x' := x') j hj encB_len hx hix hq ht rfl (Nat.le_refl 1) rfl (K := K) (fun w' hw' => hk w' (by rw [bools_flat]; exact hw'))
  exact this
abbrev bbA (lv : Value) (rows : List BR) : List Atom := [sl 59 1 lv rows.length (rows.flatMap encBR), sep (rows.map brA)]
/-- a row, its address and its cells -/
theorem Own.bbrow (h : Own B w L) (i : Nat) (hi : L[i]? = some (sl 59 1 lv rows.length (rows.flatMap encBR))) {a : Nat} {r : BR} (hr : rows[a]? = some r) :
    ∃ b, (∀ (k : IntKind) (q : Int), 0 ≤ q → q.toNat = a → iS 1 lv (.int k q) = some (.pointer (some ⟨b, q.toNat * 1, none⟩))) ∧ rd1 (.pointer (some ⟨b, a * 1, none⟩)) w = some r.v := by
  obtain ⟨b, h1, h2, _⟩ := h.el i hi encBR_len hr
  exact ⟨b, h1, h2 0 _ rfl⟩
theorem Own.bbel (h : Own B w L) (j : Nat) (hj : L[j]? = some (sep (rows.map brA))) {a b : Nat} {r : BR} (hr : rows[a]? = some r) {x : Bool} (hx : r.l[b]? = some x) :
    ∃ c, (∀ (k : IntKind) (q : Int), 0 ≤ q → q.toNat = b → iS 1 r.v (.int k q) = some (.pointer (some ⟨c, q.toNat * 1, none⟩))) ∧ rd1 (.pointer (some ⟨c, b * 1, none⟩)) w = some (.bool x) :=
  (h.out (i := j) hj hr).elb 0 rfl hx
theorem Own.bblen (h : Own B w L) (j : Nat) (hj : L[j]? = some (sep (rows.map brA))) {a : Nat} {r : BR} (hr : rows[a]? = some r) : lenS r.v = some (.int .i64 r.l.length) :=
  (h.out (i := j) hj hr).slLen 0 rfl
theorem Own.bbst (h : Own B w L) (j : Nat) (hj : L[j]? = some (sep (rows.map brA))) {a b : Nat} {r : BR} (hr : rows[a]? = some r) (hb : b < r.l.length) (x : Bool) {c : Nat} {q : Int}
    (hix : iS 1 r.v (.int .i64 q) = some (.pointer (some ⟨c, q.toNat * 1, none⟩))) (hq : q.toNat = b) {ty : TypeId} (ht : tsz P ty = some 1) {K : Value → World → Prop} (hk : ∀ w', Own B w' (L.set j (sep ((rows.set a ⟨r.v, r.l.set b x⟩).map brA))) → K undef w') :
    ST P ty (.pointer (some ⟨c, q.toNat * 1, none⟩)) (.bool x) w K :=
  (h.out (i := j) hj hr).elstb 0 rfl hb x hix hq ht fun w' hw' => hk w' (Own.back' (x' := ⟨r.v, r.l.set b x⟩) (list_lt hr) (i := j) hj hw')
theorem HasB_set {rows : List BR} {a b : Nat} {r : BR} (hr : rows[a]? = some r) (hb : b < r.l.length) (x y : Nat) : HasB (rows.set a ⟨r.v, r.l.set b true⟩) x y = (HasB rows x y || decide (x = a ∧ y = b)) := by
  unfold HasB
  rw [List.getElem?_set]
  by_cases h : a = x
  · subst h
    rw [if_pos rfl, if_pos (list_lt hr), hr]
    simp only [Option.bind_some, true_and]
    rw [List.getElem?_set]
    by_cases h2 : b = y
    · subst h2; rw [if_pos rfl, if_pos hb]; simp
    · rw [if_neg h2, decide_eq_false (fun h => h2 h.symm), Bool.or_false]
  · rw [if_neg h, decide_eq_false (fun h' => h h'.1.symm), Bool.or_false]
end
theorem tsz4' : tsz Try.prog 4 = some 1 := by kernel_rfl
section
variable {B : Base} {w : World} {L : List Atom} {mv : Value} {T : List TK} {M : List MK} {bt capt : Nat}
set_option maxHeartbeats 4000000 in
set_option maxRecDepth 8000 in
theorem k12 (hw : Own B w (rA (tvS bt T.length capt) mv T M ++ L)) (hr : RunOK T M) (hT : T.length ≤ 256) (hn : M.length ≤ 1200) :
    Cl Try.prog 12 [runV (tvS bt T.length capt) mv] w fun v w' => ∃ (lv : Value) (rows : List BR) (bl el : List Int), v = .tuple #[lv, .int .i64 0] ∧ BE T M M.length 1 bl ∧ BE T M M.length 2 el ∧ rows.length = M.length ∧ (∀ (a : Nat) r, rows[a]? = some r → r.l.length = M.length) ∧ (∀ a b, a < M.length → b < M.length → (HasB rows a b = true ↔ HB T M bl el a b)) ∧ Own B w' (rA (tvS bt T.length capt) mv T M ++ (bbA lv rows ++ L)) := by
  obtain ⟨R, hR⟩ : ∃ R : Value → World → Prop, R = fun v w' => ∃ (lv : Value) (rows : List BR) (bl el : List Int), v = .tuple #[lv, .int .i64 0] ∧ BE T M M.length 1 bl ∧ BE T M M.length 2 el ∧ rows.length = M.length ∧ (∀ (a : Nat) r, rows[a]? = some r → r.l.length = M.length) ∧ (∀ a b, a < M.length → b < M.length → (HasB rows a b = true ↔ HB T M bl el a b)) ∧ Own B w' (rA (tvS bt T.length capt) mv T M ++ (bbA lv rows ++ L)) := ⟨_, rfl⟩
  rw [← hR]
  refine s12 ?_
  unfold c12
  refine hw.al fun b1 w1 hb1 hw1' => ?_
  have hw1 : Own B w1 (rA (tvS bt T.length capt) mv T M ++ (bk b1 52 [tvS bt T.length capt, mv] :: L)) := hw1'.perm (List.perm_middle (l₁ := rA (tvS bt T.length capt) mv T M)).symm
  clear hw1' hw
  refine O.mk (v := runV (tvS bt T.length capt) mv) (hw1.rdN_bk 2 rfl (Nat.le_refl 2)) ?_
  refine (k29 hw1 hr hT hn).use ?_
  clear hw1
  rintro _ w2 ⟨rfl, hw2⟩
  (repeat with_reducible first | refine qq ?_ | refine qr ?_ | refine qs ?_)
  refine Bc_dec (fun h => absurd rfl h) (fun _ => ?_)
  refine O.mk (v := runV (tvS bt T.length capt) mv) (hw2.rdN_bk 2 rfl (Nat.le_refl 2)) ?_
  refine (k30 hw2 hr hT hn).use ?_
  clear hw2
  rintro _ w3 ⟨cb, rv, bv, ev, rs, bl, el, rfl, hb, he, hl, hH, hw3⟩
  (repeat with_reducible first | refine qq ?_ | refine qr ?_ | refine qs ?_ | refine hw3.l 6 ?_)
  refine O.mk (hw3.slLen 1 rfl) ?_
  obtain ⟨I0, hI⟩ : ∃ I : Value → Value → World → Prop, I = fun v1 v2 w' => ∃ (a : Nat) (rows : List BR), v2 = .int .i64 a ∧ a ≤ M.length ∧ rows.length = a ∧ (∀ (x : Nat) r, rows[x]? = some r → r.l.length = M.length) ∧ (∀ x y, x < a → y < M.length → HasB rows x y = Has rs x y) ∧ Own B w' (rA (tvS bt T.length capt) mv T M ++ (clA (tvS bt T.length capt) mv rv bv ev cb rs bl el ++ (sl 59 1 v1 rows.length (rows.flatMap encBR) :: sep (rows.map brA) :: bk b1 52 [tvS bt T.length capt, mv] :: L))) := ⟨_, rfl⟩
  obtain ⟨m0, hm⟩ : ∃ m : Value → Value → World → Nat, m = fun _ v _ => match v with | .int _ i => (M.length - i).toNat | _ => 0 := ⟨_, rfl⟩
  refine ⟨I0, m0, ?_, ?_⟩
  · rw [hI]
    refine ⟨0, [], rfl, by omega, rfl, (fun x r h => by cases h), fun x y h => by omega, ?_⟩
    have h1 := hw3.sep0.nilSl 59 1
    exact h1.perm (List.perm_append_comm (l₁ := [sl 59 1 (.slice none 0 0) 0 [], sep []]) (l₂ := rA (tvS bt T.length capt) mv T M ++ clA (tvS bt T.length capt) mv rv bv ev cb rs bl el) |>.append_right (bk b1 52 [tvS bt T.length capt, mv] :: L))
  clear hw3
  intro t6 t20 wh0 h0
  rw [hI] at h0
  obtain ⟨a, rows, rfl, ha, hrl, hr1, hr2, hw4⟩ := h0
  (repeat with_reducible first | refine qq ?_ | refine qr ?_ | refine qs ?_)
  refine Bc_dec (fun hlt => ?_) (fun hge => ?_)
  · (repeat with_reducible first | refine qq ?_ | refine qr ?_ | refine qs ?_ | refine hw4.l 8 ?_)
    refine O.mk (hw4.slLen 1 rfl) ?_
    refine hw4.mks (e := 4) (sz := 1) (bytes := 1) (n := M.length) (z := .bool false) (by decide) rfl (by omega) (by omega) fun nv w5 hw5 => ?_
    rw [bools_zero] at hw5
    clear hw4
    refine O.mk (hw5.slLen 0 rfl) ?_
    obtain ⟨I1, hI1⟩ : ∃ I : Value → World → Prop, I = fun v w' => ∃ (b : Nat) (l : List Bool), v = .int .i64 b ∧ b ≤ M.length ∧ l.length = M.length ∧ (∀ y, y < b → l[y]? = some (Has rs a y)) ∧ Own B w' (rA (tvS bt T.length capt) mv T M ++ (clA (tvS bt T.length capt) mv rv bv ev cb rs bl el ++ (sl 4 1 nv l.length (bools l) :: sl 59 1 t6 rows.length (rows.flatMap encBR) :: sep (rows.map brA) :: bk b1 52 [tvS bt T.length capt, mv] :: L))) := ⟨_, rfl⟩
    obtain ⟨m1, hm1⟩ : ∃ m : Value → World → Nat, m = fun v _ => match v with | .int _ i => (M.length - i).toNat | _ => 0 := ⟨_, rfl⟩
    refine ⟨I1, m1, ?_, ?_⟩
    · rw [hI1]
      refine ⟨0, List.replicate M.length false, rfl, by omega, by simp, fun y h => by omega, ?_⟩
      have h1 := hw5.perm (List.perm_middle (l₁ := rA (tvS bt T.length capt) mv T M ++ clA (tvS bt T.length capt) mv rv bv ev cb rs bl el)).symm
      rw [List.length_replicate]
      exact h1
    clear hw5
    intro t29 wh1 h1
    rw [hI1] at h1
    obtain ⟨b, l, rfl, hb2, hll, hl2, hw6⟩ := h1
    (repeat with_reducible first | refine qq ?_ | refine qr ?_ | refine qs ?_)
    refine Bc_dec (fun hlb => ?_) (fun hgb => ?_)
    · refine (k31 hw6 (a := a) (b := b) (by omega) (by omega)).use ?_
      rintro _ w7 ⟨rfl, h7⟩
      rw [h7]
      obtain ⟨x, hx⟩ := list_get (l := l) (j := b) (by omega)
      obtain ⟨c, hix, _⟩ := hw6.elb 6 rfl hx
      refine O.mk (hix _ _ (by omega) (by omega)) ?_
      refine hw6.elstb 6 rfl (list_lt hx) _ (hix .i64 (b : Int) (by omega) (by omega)) (by omega) tsz4' fun w8 hw8 => ?_
      refine O.mk (bi_addb (a := b) (b := 1) (by omega)) ?_
      rw [hI1, hm1]
      refine ⟨⟨b + 1, _, rfl, by omega, by simpa using hll, fun y hy => ?_, hw8⟩, by simp only; omega⟩
      rw [List.getElem?_set]
      by_cases hby : b = y
      · subst hby
        rw [if_pos rfl, if_pos (list_lt hx), decide_eq_true (by omega)]
        simp
      · rw [if_neg hby]; exact hl2 y (by omega)
    · have hbe : b = M.length := by omega
      have hone : one nv = true := sl_one hw6 6 rfl
      have hw7 : Own B wh1 (sl 4 1 nv l.length (bools l) :: (rA (tvS bt T.length capt) mv T M ++ (clA (tvS bt T.length capt) mv rv bv ev cb rs bl el ++ (sl 59 1 t6 rows.length (rows.flatMap encBR) :: sep (rows.map brA) :: bk b1 52 [tvS bt T.length capt, mv] :: L)))) := hw6.perm (List.perm_middle (l₁ := rA (tvS bt T.length capt) mv T M ++ clA (tvS bt T.length capt) mv rv bv ev cb rs bl el))
      clear hw6
      refine hw7.app (x := nv) (xs := [nv]) T55 ⟨_, T55.under⟩ 7 rfl (by decide) (by have := cells_one' hone; rw [← this]) rfl (by simp [hone]) (by omega) fun lv' w8 hw8 => ?_
      clear hw7
      refine O.mk (bi_addb (a := a) (b := 1) (by omega)) ?_
      rw [hI, hm]
      have hw9 : Own B w8 (brA ⟨nv, l⟩ :: (rA (tvS bt T.length capt) mv T M ++ (clA (tvS bt T.length capt) mv rv bv ev cb rs bl el ++ (sl 59 1 lv' (rows.length + 1) (rows.flatMap encBR ++ [nv]) :: sep (rows.map brA) :: bk b1 52 [tvS bt T.length capt, mv] :: L)))) := hw8
      have hw10 := Own.growAt (i := 7) (xs := rows) (f := brA) (x := ⟨nv, l⟩) rfl hw9
      refine ⟨⟨a + 1, rows ++ [⟨nv, l⟩], rfl, by omega, by simp [hrl], fun x r hx => ?_, fun x y hx hy => ?_, ?_⟩, by simp only; omega⟩
      · rcases app_get.1 hx with h | ⟨_, rfl⟩
        · exact hr1 x r h
        · exact hll
      · by_cases hxa : x = a
        · subst hxa
          have : (rows ++ [(⟨nv, l⟩ : BR)])[x]? = some ⟨nv, l⟩ := app_get.2 (.inr ⟨hrl.symm, rfl⟩)
          rw [HasB_row this]
          simp only
          rw [hl2 y (by omega)]; rfl
        · obtain ⟨r, hrx⟩ := list_get (l := rows) (j := x) (by omega)
          have h1 : (rows ++ [(⟨nv, l⟩ : BR)])[x]? = some r := app_old hrx
          rw [HasB_row h1, ← HasB_row hrx]
          exact hr2 x y (by omega) hy
      · have e1 : (rows ++ [(⟨nv, l⟩ : BR)]).length = rows.length + 1 := by simp
        have e2 : (rows ++ [(⟨nv, l⟩ : BR)]).flatMap encBR = rows.flatMap encBR ++ [nv] := by simp [encBR]
        rw [e1, e2]
        exact hw10
  · have hae : a = M.length := by omega
    rw [hR]
    refine ⟨t6, rows, bl, el, rfl, hb, he, by omega, hr1, fun x y hx hy => ?_, ?_⟩
    · rw [hr2 x y (by omega) hy]; exact hH x y
    · have h1 : Own B wh0 (rA (tvS bt T.length capt) mv T M ++ (bbA t6 rows ++ L)) := ((((hw4.drop 8).drop 2).drop 2).drop 2).drop 2
      exact h1
end
end Go.Proofs.Ytedcfkigfcobaaa
end
