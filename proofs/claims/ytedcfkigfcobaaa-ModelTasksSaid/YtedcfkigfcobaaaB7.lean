/-
  A part of the proof that the statement on the tasks of a machine returns true for every input: no condition is asked beyond those of the theorems below.
-/
import Derived.Test.YtedcfkigfcobaaaB6
set_option linter.unusedVariables false
set_option linter.unusedSimpArgs false
set_option linter.unusedSectionVars false
/- Contracts: a thread's step. -/
section
namespace Go.Proofs.Ytedcfkigfcobaaa
open Go Go.Proofs
attribute [local irreducible] Bc O AL BS MS MM ST AP CV Cl
theorem fill162e : (fillW Try.prog 162 []).map Value.agg = some (.agg (encAS ⟨0, 0, 0, 0, 0, .slice none 0 0⟩).toArray) := by kernel_rfl
theorem fill162a {v : Value} (h : one v = true) : (fillW Try.prog 162 [(5, v)]).map Value.agg = some (.agg (encAS ⟨0, 0, 0, 0, 0, v⟩).toArray) := by
  cases v <;> first | (cases h; done) | kernel_rfl
section
variable {B : Base} {w : World} {L : List Atom} {p : PP}
/-- where a frame stands is written -/
theorem Own.atst {t : TH} (hw : Own B w L) (i : Nat) (hi : L[i]? = some (threadA p t)) {k : Nat} {f : FR} (hf : t.fs[k]? = some f) {bF : Nat} {q : Int} (hix : iS 3 t.fv (.int .i64 q) = some (.pointer (some ⟨bF, q.toNat * 3, none⟩))) (hq : q.toNat = k) (a : Int) {K : Value → World → Prop}
    (hk : ∀ w', Own B w' (L.set i (threadA p ⟨t.b, t.fv, t.fs.set k ⟨f.func, a, f.rv, f.regs⟩, t.trap⟩)) → K undef w') : ST Try.prog 3 (.pointer (some ⟨bF, q.toNat * 3 + 1, none⟩)) (.int .i64 a) w K := by
  have hw2 := hw.opn i hi
  refine hw2.elst 1 rfl encFR_len hf (x' := ⟨f.func, a, f.rv, f.regs⟩) (k := 1) (X := .int .i64 a) hix hq tsz3 rfl (Nat.le_succ 2) rfl fun w3 hw3 => hk w3 ?_
  refine Own.shut (A := TH.parts p ⟨t.b, t.fv, t.fs.set k ⟨f.func, a, f.rv, f.regs⟩, t.trap⟩) hi ?_
  unfold TH.parts
  simp only
  rw [map_set_same (x := f) (x' := ⟨f.func, a, f.rv, f.regs⟩) (f := frA) rfl hf]
  exact hw3
theorem FrOK.goto {f : FR} {g : PF} (h : FrOK p f g) {a : Int} (h0 : 0 ≤ a) (h1 : a < g.code.length) : FrOK p ⟨f.func, a, f.rv, f.regs⟩ g := ⟨h.f0, h.fg, h.regs, h0, h1⟩
theorem TOK.pop {t : TH} (h : TOK p t) {v : Value} {n : Nat} {tr : Int} : TOK p ⟨t.b, v, t.fs.take n, tr⟩ := by
  refine ⟨by simp only [List.length_take]; have := h.len; omega, fun i f hi => ?_⟩
  simp only at hi
  rw [List.getElem?_take] at hi
  split at hi
  · exact h.fr i f hi
  · cases hi
theorem sl_take {t sz n m b cap : Nat} {cs : List Value} (hm : m ≤ n) (g : Hp) (hg : sl t sz (.slice (some ⟨b, 0, none⟩) n cap) n cs g) : sl t sz (.slice (some ⟨b, 0, none⟩) m cap) m (cs.take (m * sz)) g := by
  rcases hg with ⟨h, _⟩ | ⟨b', cap', sp, h1, h2, h3, h4, h5⟩
  · cases h
  · cases h1
    have hle : m * sz ≤ n * sz := Nat.mul_le_mul_right _ hm
    refine .inr ⟨b, cap, cs.drop (m * sz) ++ sp, rfl, by omega, by simp; omega, ?_, ?_⟩
    · simp only [List.length_append, List.length_drop, h3, h4]
      rw [Nat.sub_mul, Nat.sub_mul]
      have : n * sz ≤ cap * sz := Nat.mul_le_mul_right _ h2
      omega
    · rw [← List.append_assoc, List.take_append_drop]; exact h5
set_option maxHeartbeats 4000000 in
theorem k71 (hP : ProgOK B p) (hM : MayP p) {t : TH} (ht : TOK p t) {h : HS} (hok : HOK h) (hw : Own B w L) (i ih : Nat) (hi : L[i]? = some (threadA p t)) (hih : L[ih]? = some (heapA h)) (hne : i ≠ ih) (task it : Int) :
    Cl Try.prog 71 [pp t.b, pp h.b, .int .i64 task, .int .i64 it] w fun v w' => ∃ (a : AS) (e : Int), v = .tuple #[.agg (encAS a).toArray, .int .i64 e] ∧ ∃ (accs : List AC) (t' : TH) (h' : HS), accs.length ≤ 1 ∧ t'.b = t.b ∧ h'.b = h.b ∧ TOK p t' ∧ HOK h' ∧
      (a.op ≠ 0 → t' = t ∧ ∃ f g x, At p t f g x ∧ sharedB x.op = true ∧ AskOK x f.regs a) ∧ Own B w' (sl 65 5 a.acc accs.length (accs.flatMap encAC) :: (L.set i (threadA p t')).set ih (heapA h')) := by
  obtain ⟨R, hR⟩ : ∃ R : Value → World → Prop, R = fun v w' => ∃ (a : AS) (e : Int), v = .tuple #[.agg (encAS a).toArray, .int .i64 e] ∧ ∃ (accs : List AC) (t' : TH) (h' : HS), accs.length ≤ 1 ∧ t'.b = t.b ∧ h'.b = h.b ∧ TOK p t' ∧ HOK h' ∧
      (a.op ≠ 0 → t' = t ∧ ∃ f g x, At p t f g x ∧ sharedB x.op = true ∧ AskOK x f.regs a) ∧ Own B w' (sl 65 5 a.acc accs.length (accs.flatMap encAC) :: (L.set i (threadA p t')).set ih (heapA h')) := ⟨_, rfl⟩
  rw [← hR]
  have JR : ∀ (a : AS) (e : Int) (accs : List AC) (t' : TH) (h' : HS) w', accs.length ≤ 1 → t'.b = t.b → h'.b = h.b → TOK p t' → HOK h' → (a.op ≠ 0 → t' = t ∧ ∃ f g x, At p t f g x ∧ sharedB x.op = true ∧ AskOK x f.regs a) →
      Own B w' (sl 65 5 a.acc accs.length (accs.flatMap encAC) :: (L.set i (threadA p t')).set ih (heapA h')) → R (.tuple #[.agg (encAS a).toArray, .int .i64 e]) w' := fun a e accs t' h' w' h1 h2 h3 h4 h5 h6 h7 => by
    rw [hR]; exact ⟨a, e, rfl, accs, t', h', h1, h2, h3, h4, h5, h6, h7⟩
  clear hR
  refine s71 ?_
  unfold c71
  refine hw.al fun b8 w1 hb8 hw1 => ?_
  clear hw
  replace hw1 : Own B w1 (bk b8 162 (encAS ⟨0, 0, 0, 0, 0, .slice none 0 0⟩) :: L) := hw1
  have JE : ∀ (e : Int) (L' : List Atom) (t' : TH) (h' : HS) w', t'.b = t.b → h'.b = h.b → TOK p t' → HOK h' → Own B w' (L' ++ (bk b8 162 (encAS ⟨0, 0, 0, 0, 0, .slice none 0 0⟩) :: (L.set i (threadA p t')).set ih (heapA h'))) →
      O ((fillW Try.prog 162 []).map .agg) fun t18 => ST Try.prog 162 (pp b8) t18 w' fun _ w => O (rdN 6 (pp b8) w) fun r0 => R (.tuple #[r0, .int .i64 e]) w := by
    intro e L' t' h' w' h2 h3 h4 h5 hw'
    replace hw' := hw'.dropL
    refine O.mk fill162e ?_
    refine hw'.st_bk (x := .agg (encAS ⟨0, 0, 0, 0, 0, .slice none 0 0⟩).toArray) 0 rfl tsz162 rfl (Nat.le_refl 6) fun w2 hw2 => ?_
    refine O.mk (v := .agg (encAS ⟨0, 0, 0, 0, 0, .slice none 0 0⟩).toArray) (hw2.rdN_bk 0 rfl (Nat.le_refl 6)) ?_
    exact JR _ e [] t' h' w2 (by simp) h2 h3 h4 h5 (fun h => absurd rfl h) (hw2.tail.nilSl 65 5)
  refine (k73 hw1 (i + 1) hi).use ?_
  rintro _ _ ⟨rfl, rfl⟩
  have hset : (L.set i (threadA p t)).set ih (heapA h) = L := by rw [set_same hi, set_same hih]
  refine Bc_dec (fun hov => JE 13 [] t h _ rfl rfl ht hok (by rw [hset]; exact hw1)) (fun hov => ?_)
  have hnil : t.fs ≠ [] := by rintro h'; rw [h'] at hov; exact hov (.inl rfl)
  refine (k67 hP hw1 (i + 1) hi ht hnil).use ?_
  clear hw1
  rintro _ w2 ⟨⟨x, rfl, hx⟩, hw2⟩
  obtain ⟨f, g, hA⟩ := hx.at ht
  have hlt := hA.lt
  have hlen := ht.len
  have hat := hA.at hM
  have hV := hA.valid hM
  have hli : one x.lv = true := (hP.li g (List.mem_of_getElem? hA.fok.fg) x (List.mem_of_getElem? hA.code)).one
  refine hw2.al fun b10 w3 hb10 hw3 => ?_
  clear hw2
  refine hw3.st_bk (x := .agg (encPI x).toArray) 0 rfl tsz79 (encPI_one hli) (Nat.le_refl 8) fun w4 hw4 => ?_
  clear hw3
  refine hw4.dr fun w5 hw5 => ?_
  clear hw4
  replace hw5 : Own B w5 (bk b10 79 (encPI x) :: bk b8 162 (encAS ⟨0, 0, 0, 0, 0, .slice none 0 0⟩) :: L) := hw5
  have hwt := hw5.opn (i + 2) hi
  obtain ⟨bF, hixF, hrdF, _⟩ := hwt.el 1 rfl encFR_len hA.get
  have e1 : ((t.fs.length : Int) - 1).toNat = t.fs.length - 1 := by omega
  have hixF := hixF .i64 ((t.fs.length : Int) - 1) (by omega) e1
  (repeat with_reducible first | refine qq ?_ | refine qr ?_ | refine qs ?_ | refine hwt.l 0 ?_)
  refine O.mk (hwt.slLen 1 rfl) ?_
  (repeat with_reducible first | refine qq ?_ | refine qr ?_ | refine qs ?_)
  refine O.mk hixF ?_
  (repeat with_reducible first | refine qq ?_ | refine qr ?_ | refine qs ?_)
  refine O.mk (by rw [e1]; exact hrdF 2 _ rfl) ?_
  (repeat with_reducible first | refine qq ?_ | refine qr ?_ | refine qs ?_ | refine hw5.l 0 ?_)
  clear hwt hrdF
  -- the end, with accesses
  have J0 : ∀ v (accs : List AC) (t' : TH) (h' : HS) w', accs.length ≤ 1 → t'.b = t.b → h'.b = h.b → TOK p t' → HOK h' → Own B w' (sl 65 5 v accs.length (accs.flatMap encAC) :: bk b10 79 (encPI x) :: bk b8 162 (encAS ⟨0, 0, 0, 0, 0, .slice none 0 0⟩) :: (L.set i (threadA p t')).set ih (heapA h')) → j71_0 R (pp b8) v w' := by
    intro v accs t' h' w' h1 h2 h3 h4 h5 hw'
    have hone := sl_one hw' 0 rfl
    unfold j71_0
    refine O.mk (fill162a hone) ?_
    refine hw'.st_bk (x := .agg (encAS ⟨0, 0, 0, 0, 0, v⟩).toArray) 2 rfl tsz162 (encAS_one (a := ⟨0, 0, 0, 0, 0, v⟩) hone) (Nat.le_refl 6) fun w2 hw2 => ?_
    refine O.mk (v := .agg (encAS ⟨0, 0, 0, 0, 0, v⟩).toArray) (hw2.rdN_bk 2 rfl (Nat.le_refl 6)) ?_
    refine JR _ 0 accs t' h' w2 h1 h2 h3 h4 h5 (fun h => absurd rfl h) ?_
    exact (hw2.drop 1).drop 1
  have J0n : ∀ (t' : TH) (h' : HS) w', t'.b = t.b → h'.b = h.b → TOK p t' → HOK h' → Own B w' (bk b10 79 (encPI x) :: bk b8 162 (encAS ⟨0, 0, 0, 0, 0, .slice none 0 0⟩) :: (L.set i (threadA p t')).set ih (heapA h')) → j71_0 R (pp b8) (.slice none 0 0) w' :=
    fun t' h' w' h2 h3 h4 h5 hw' => J0 _ [] t' h' w' (by simp) h2 h3 h4 h5 (hw'.nilSl 65 5)
  -- a thread alone is another one
  have hone1 : ∀ t', (L.set i (threadA p t')).set ih (heapA h) = L.set i (threadA p t') := fun t' => by rw [set_set_comm hne, set_same hih]
  have hih2 : ∀ A C : Atom, (A :: C :: L)[ih + 2]? = some (heapA h) := fun A C => by rw [List.getElem?_cons_succ, List.getElem?_cons_succ]; exact hih
  have hi2 : ∀ A C : Atom, (A :: C :: L)[i + 2]? = some (threadA p t) := fun A C => by rw [List.getElem?_cons_succ, List.getElem?_cons_succ]; exact hi
  refine (k81 _ _).use ?_
  rintro _ _ ⟨rfl, rfl⟩
  refine Bc_b (fun hsh => ?_) (fun hsh => ?_)
  · refine O.mk (v := .agg (encPI x).toArray) (hw5.rdN_bk 0 rfl (Nat.le_refl 8)) ?_
    refine (k82 hM hA hli hw5 (i + 2) (hi2 _ _) hsh (pp t.b)).use ?_
    clear hw5
    rintro _ w6 ⟨a, rfl, ha, hw6⟩
    refine hw6.st_bk (x := .agg (encAS a).toArray) 1 rfl tsz162 (encAS_one (by rw [ha.acc]; rfl)) (Nat.le_refl 6) fun w7 hw7 => ?_
    refine O.mk (v := .agg (encAS a).toArray) (hw7.rdN_bk 1 rfl (Nat.le_refl 6)) ?_
    refine JR a 0 [] t h w7 (by simp) rfl rfl ht hok (fun _ => ⟨rfl, f, g, x, hA, hsh, ha⟩) ?_
    rw [hset, ha.acc]
    exact hw7.tail.tail.nilSl 65 5
  refine O.mk (v := .agg (encPI x).toArray) (hw5.rdN_bk 0 rfl (Nat.le_refl 8)) ?_
  refine (k83 hP hM hA hw5 (i + 2) (hi2 _ _) it).use ?_
  clear hw5
  rintro _ w6 ⟨b, rfl, t', hb', ht', hbf, hw5⟩
  refine Bc_b (fun _ => ?_) (fun hbf' => ?_)
  · exact JE 0 [_] t' h w6 hb' rfl ht' hok (by rw [hone1]; exact hw5)
  obtain ⟨rfl, hnr⟩ := hbf hbf'
  clear hbf hb' ht' hbf'
  replace hw5 : Own B w6 (bk b10 79 (encPI x) :: bk b8 162 (encAS ⟨0, 0, 0, 0, 0, .slice none 0 0⟩) :: L.set i (threadA p t')) := hw5
  rw [set_same hi] at hw5
  refine O.mk (v := .agg (encPI x).toArray) (hw5.rdN_bk 0 rfl (Nat.le_refl 8)) ?_
  refine (k84 hP hM hA hok hw5 (i + 2) (ih + 2) (hi2 _ _) (hih2 _ _) (by omega) task).use ?_
  clear hw5
  rintro _ w7 ⟨c, e, rfl, t2, h2, hb2, hbh2, ht2, hok2, hcf, hw5⟩
  refine O.mk (v := .bool c) rfl ?_
  refine O.mk (v := .int .i64 e) rfl ?_
  refine Bc_b (fun _ => ?_) (fun hcf' => ?_)
  · refine JE e [_] t2 h2 w7 hb2 hbh2 ht2 hok2 hw5
  obtain rfl := hcf hcf'
  clear hcf hb2 hcf' ht2
  replace hw5 : Own B w7 (bk b10 79 (encPI x) :: bk b8 162 (encAS ⟨0, 0, 0, 0, 0, .slice none 0 0⟩) :: (L.set i (threadA p t2)).set ih (heapA h2)) := hw5
  rw [set_same hi] at hw5
  have hiN : (L.set ih (heapA h2))[i]? = some (threadA p t2) := set_miss (Ne.symm hne) hi
  have hihN : (L.set ih (heapA h2))[ih]? = some (heapA h2) := set_hit hih
  have hLN : ∀ (t' : TH) (h' : HS), ((L.set ih (heapA h2)).set i (threadA p t')).set ih (heapA h') = (L.set i (threadA p t')).set ih (heapA h') := fun t' h' => by rw [set_set_comm (Ne.symm hne), List.set_set]
  -- a thread alone is another one
  have J1 : ∀ (t' : TH) w', Own B w' (bk b10 79 (encPI x) :: bk b8 162 (encAS ⟨0, 0, 0, 0, 0, .slice none 0 0⟩) :: (L.set ih (heapA h2)).set i (threadA p t')) → t'.b = t2.b → TOK p t' → j71_0 R (pp b8) (.slice none 0 0) w' := by
    intro t' w' hw' hb ht'
    refine J0n t' h2 w' hb hbh2 ht' hok2 ?_
    rw [set_set_comm hne]; exact hw'
  have hpx : ∀ w', Own B w' (bk b10 79 (encPI x) :: bk b8 162 (encAS ⟨0, 0, 0, 0, 0, .slice none 0 0⟩) :: L.set ih (heapA h2)) → rdN 8 (pp b10) w' = some (.agg (encPI x).toArray) := fun w' h' => h'.rdN_bk 0 rfl (Nat.le_refl 8)
  have hreg : ∀ (k : Nat) w', (k : Int) < namedN x.op → Own B w' (bk b10 79 (encPI x) :: bk b8 162 (encAS ⟨0, 0, 0, 0, 0, .slice none 0 0⟩) :: L.set ih (heapA h2)) →
      ∃ b y, iS 1 f.rv (.int .i64 (regN x k)) = some (.pointer (some ⟨b, (regN x k).toNat * 1, none⟩)) ∧ rd1 (.pointer (some ⟨b, (regN x k).toNat * 1, none⟩)) w' = some (.int .i64 y) := by
    intro k w' hk h'
    have hr := hA.reg hM k hk
    obtain ⟨b, y, _, h1, h2⟩ := h'.reg (i + 2) hiN hA.get hr.1 hr.2
    exact ⟨b, y, h1, h2⟩
  have J85 : ∀ (kind loc id j : Int) (wr : Bool) (n : Int) w', (12 ≤ x.op ∧ x.op ≤ 19 ∧ x.op ≠ 17 ∧ x.op ≠ 14) → Own B w' (bk b10 79 (encPI x) :: bk b8 162 (encAS ⟨0, 0, 0, 0, 0, .slice none 0 0⟩) :: L.set ih (heapA h2)) →
      Cl Try.prog 85 [pp t2.b, pp h.b, .agg (encPI x).toArray, .int .i64 kind, .int .i64 loc, .int .i64 id, .int .i64 j, .bool wr, .int .i64 n, f.rv] w' fun v w => j71_0 R (pp b8) v w := by
    intro kind loc id j wr n w' hop h'
    rw [← hbh2]
    refine (k85 hM hA hop hok2 h' (i + 2) (ih + 2) hiN hihN (by omega) kind loc id j wr n).use ?_
    rintro v w8 ⟨accs, t3, h3, h4, h5, h6, h7, h8, h9⟩
    refine J0 v accs t3 h3 w8 h4 h5 (h6.trans hbh2) h7 h8 ?_
    rw [← hLN]
    exact h9
  (repeat with_reducible first | refine qq ?_ | refine qr ?_ | refine qs ?_ | refine hw5.l 0 ?_)
  refine Bc_dec (fun hop => ?_) (fun n12 => ?_)
  · refine hw5.dr fun w8 hw8 => ?_
    obtain ⟨b, y, hix, hrd⟩ := hreg 1 w8 (by rw [hop]; decide) hw8
    refine O.mk (hpx _ hw8) ?_
    (repeat with_reducible first | refine qq ?_ | refine qr ?_ | refine qs ?_ | refine hw8.l 0 ?_)
    refine O.mk hix ?_
    refine O.mk hrd ?_
    exact J85 _ _ _ _ _ _ _ (by omega) hw8
  (repeat with_reducible first | refine qq ?_ | refine qr ?_ | refine qs ?_ | refine hw5.l 0 ?_)
  refine Bc_dec (fun hop => ?_) (fun n13 => ?_)
  · refine hw5.dr fun w8 hw8 => ?_
    obtain ⟨b, y, hix, hrd⟩ := hreg 0 w8 (by rw [hop]; decide) hw8
    obtain ⟨b', y', hix', hrd'⟩ := hreg 1 w8 (by rw [hop]; decide) hw8
    refine O.mk (hpx _ hw8) ?_
    (repeat with_reducible first | refine qq ?_ | refine qr ?_ | refine qs ?_ | refine hw8.l 0 ?_)
    refine O.mk hix ?_
    refine O.mk hrd ?_
    (repeat with_reducible first | refine qq ?_ | refine qr ?_ | refine qs ?_ | refine hw8.l 0 ?_)
    refine O.mk hix' ?_
    refine O.mk hrd' ?_
    exact J85 _ _ _ _ _ _ _ (by omega) hw8
  (repeat with_reducible first | refine qq ?_ | refine qr ?_ | refine qs ?_ | refine hw5.l 0 ?_)
  refine Bc_dec (fun hop => ?_) (fun n15 => ?_)
  · refine hw5.dr fun w8 hw8 => ?_
    obtain ⟨b, y, hix, hrd⟩ := hreg 1 w8 (by rw [hop]; decide) hw8
    refine O.mk (hpx _ hw8) ?_
    (repeat with_reducible first | refine qq ?_ | refine qr ?_ | refine qs ?_ | refine hw8.l 0 ?_)
    refine O.mk hix ?_
    refine O.mk hrd ?_
    (repeat with_reducible first | refine qq ?_ | refine qr ?_ | refine qs ?_ | refine hw8.l 0 ?_)
    exact J85 _ _ _ _ _ _ _ (by omega) hw8
  (repeat with_reducible first | refine qq ?_ | refine qr ?_ | refine qs ?_ | refine hw5.l 0 ?_)
  refine Bc_dec (fun hop => ?_) (fun n16 => ?_)
  · refine hw5.dr fun w8 hw8 => ?_
    obtain ⟨b, y, hix, hrd⟩ := hreg 0 w8 (by rw [hop]; decide) hw8
    obtain ⟨b', y', hix', hrd'⟩ := hreg 1 w8 (by rw [hop]; decide) hw8
    refine O.mk (hpx _ hw8) ?_
    (repeat with_reducible first | refine qq ?_ | refine qr ?_ | refine qs ?_ | refine hw8.l 0 ?_)
    refine O.mk hix ?_
    refine O.mk hrd ?_
    (repeat with_reducible first | refine qq ?_ | refine qr ?_ | refine qs ?_ | refine hw8.l 0 ?_)
    refine O.mk hix' ?_
    refine O.mk hrd' ?_
    exact J85 _ _ _ _ _ _ _ (by omega) hw8
  (repeat with_reducible first | refine qq ?_ | refine qr ?_ | refine qs ?_ | refine hw5.l 0 ?_)
  refine Bc_dec (fun hop => ?_) (fun n18 => ?_)
  · refine hw5.dr fun w8 hw8 => ?_
    obtain ⟨b, y, hix, hrd⟩ := hreg 1 w8 (by rw [hop]; decide) hw8
    obtain ⟨b', y', hix', hrd'⟩ := hreg 2 w8 (by rw [hop]; decide) hw8
    refine O.mk (hpx _ hw8) ?_
    (repeat with_reducible first | refine qq ?_ | refine qr ?_ | refine qs ?_ | refine hw8.l 0 ?_)
    refine O.mk hix ?_
    refine O.mk hrd ?_
    (repeat with_reducible first | refine qq ?_ | refine qr ?_ | refine qs ?_ | refine hw8.l 0 ?_)
    refine O.mk hix' ?_
    refine O.mk hrd' ?_
    exact J85 _ _ _ _ _ _ _ (by omega) hw8
  (repeat with_reducible first | refine qq ?_ | refine qr ?_ | refine qs ?_ | refine hw5.l 0 ?_)
  refine Bc_dec (fun hop => ?_) (fun n19 => ?_)
  · refine hw5.dr fun w8 hw8 => ?_
    obtain ⟨b, y, hix, hrd⟩ := hreg 0 w8 (by rw [hop]; decide) hw8
    obtain ⟨b', y', hix', hrd'⟩ := hreg 1 w8 (by rw [hop]; decide) hw8
    obtain ⟨b2, y2, hix2, hrd2⟩ := hreg 2 w8 (by rw [hop]; decide) hw8
    refine O.mk (hpx _ hw8) ?_
    (repeat with_reducible first | refine qq ?_ | refine qr ?_ | refine qs ?_ | refine hw8.l 0 ?_)
    refine O.mk hix ?_
    refine O.mk hrd ?_
    (repeat with_reducible first | refine qq ?_ | refine qr ?_ | refine qs ?_ | refine hw8.l 0 ?_)
    refine O.mk hix' ?_
    refine O.mk hrd' ?_
    (repeat with_reducible first | refine qq ?_ | refine qr ?_ | refine qs ?_ | refine hw8.l 0 ?_)
    refine O.mk hix2 ?_
    refine O.mk hrd2 ?_
    exact J85 _ _ _ _ _ _ _ (by omega) hw8
  (repeat with_reducible first | refine qq ?_ | refine qr ?_ | refine qs ?_ | refine hw5.l 0 ?_)
  refine Bc_dec (fun hop => ?_) (fun n20 => ?_)
  · obtain ⟨b, y, hix, hrd⟩ := hreg 1 w7 (by rw [hop]; decide) hw5
    (repeat with_reducible first | refine qq ?_ | refine qr ?_ | refine qs ?_ | refine hw5.l 0 ?_)
    refine O.mk hix ?_
    refine O.mk hrd ?_
    rw [← hbh2]
    refine (k86' hw5 (ih + 2) hihN hok2 y 2).use ?_
    rintro _ _ ⟨rfl, rfl⟩
    (repeat with_reducible first | refine qq ?_ | refine qr ?_ | refine qs ?_)
    refine Bc_b (fun _ => ?_) (fun _ => ?_)
    · refine hw5.trap (i + 2) hiN 1 fun w8 hw8 => ?_
      exact J1 ⟨t2.b, t2.fv, t2.fs, 1⟩ w8 hw8 rfl (ht.trap 1)
    refine hw5.dr fun w8 hw8 => ?_
    clear hw5 hrd
    have hr0 := hA.reg hM 0 (by rw [hop]; decide)
    obtain ⟨b, y1, hix, hrd⟩ := hreg 1 w8 (by rw [hop]; decide) hw8
    obtain ⟨b0, y0, hix0, hrd0⟩ := hreg 0 w8 (by rw [hop]; decide) hw8
    have hfin : ∀ y2 : Int, O (iS 1 f.rv (.int .i64 x.a)) fun t187 => ST Try.prog 2 t187 (.int .i64 y2) w8 fun _ w => j71_1 R (pp t2.b) (pp b8) w := by
      intro y2
      refine O.mk hix0 ?_
      refine hw8.regst (i + 2) hiN hA.get hr0.1 hr0.2 hix0 y2 tsz2 fun w9 hw9 => ?_
      unfold j71_1
      refine (k88 hw9 (i + 2) (set_hit (L := L.set ih (heapA h2)) hiN) (f := ⟨f.func, f.at_, f.rv, f.regs.set (regN x 0).toNat y2⟩) (k := t2.fs.length - 1) (by simp only; rw [List.getElem?_set_self hlt]) (by simp only [List.length_set]; omega) hat (a := 0) (by simp only [List.length_set]; omega)).use ?_
      rintro _ w10 ⟨rfl, hw10⟩
      replace hw10 : Own B w10 (bk b10 79 (encPI x) :: bk b8 162 (encAS ⟨0, 0, 0, 0, 0, .slice none 0 0⟩) :: ((L.set ih (heapA h2)).set i (threadA p ⟨t2.b, t2.fv, t2.fs.set (t2.fs.length - 1) ⟨f.func, f.at_, f.rv, f.regs.set (regN x 0).toNat y2⟩, t2.trap⟩)).set i _) := hw10
      rw [List.set_set] at hw10
      simp only [List.set_set] at hw10
      exact J1 _ w10 hw10 rfl (hA.write hM (by omega) (by omega) (f.regs.set (regN x 0).toNat y2) (by simp))
    (repeat with_reducible first | refine qq ?_ | refine qr ?_ | refine qs ?_ | refine hw8.l 0 ?_)
    refine O.mk hix ?_
    refine O.mk hrd ?_
    refine ⟨?_, ?_⟩
    · (repeat with_reducible first | refine qq ?_ | refine qr ?_ | refine qs ?_ | refine hw8.l 0 ?_)
      refine (k87 hw8 (ih + 2) hihN hok2 y1).use ?_
      rintro _ _ ⟨rfl, rfl⟩
      exact hfin _
    · refine (k87 hw8 (ih + 2) hihN hok2 y1).use ?_
      rintro _ _ ⟨rfl, rfl⟩
      (repeat with_reducible first | refine qq ?_ | refine qr ?_ | refine qs ?_ | refine hw8.l 0 ?_)
      exact hfin _
  (repeat with_reducible first | refine qq ?_ | refine qr ?_ | refine qs ?_ | refine hw5.l 0 ?_)
  refine Bc_dec (fun hop => ?_) (fun n22 => ?_)
  · obtain ⟨b, y, hix, hrd⟩ := hreg 0 w7 (by rw [hop]; decide) hw5
    (repeat with_reducible first | refine qq ?_ | refine qr ?_ | refine qs ?_ | refine hw5.l 0 ?_)
    refine O.mk hix ?_
    refine O.mk hrd ?_
    rw [← hbh2]
    refine (k89 hP hM hA hop hok2 hw5 (i + 2) (ih + 2) hiN hihN y).use ?_
    rintro _ w8 ⟨rfl, t3, hb3, ht3, hw8⟩
    exact J1 t3 w8 hw8 hb3 ht3
  (repeat with_reducible first | refine qq ?_ | refine qr ?_ | refine qs ?_ | refine hw5.l 0 ?_)
  refine Bc_dec (fun hop => ?_) (fun n33 => ?_)
  · refine hw5.dr fun w8 hw8 => ?_
    clear hw5
    have hwf := hw8.fout (i + 2) hiN hA.get
    obtain ⟨bS, cap, hS⟩ := hwf.slShape 3 rfl (by omega)
    have hcap : t2.fs.length ≤ cap := by
      rcases hwf.slGet (i := 3) rfl with ⟨h', _⟩ | ⟨_, _, _, h', hc, _⟩
      · rw [hS] at h'; cases h'
      · rw [hS] at h'; cases h'; exact hc
    (repeat with_reducible first | refine qq ?_ | refine qr ?_ | refine qs ?_ | refine hwf.l 2 ?_)
    refine O.mk (hwf.slLen 3 rfl) ?_
    (repeat with_reducible first | refine qq ?_ | refine qr ?_ | refine qs ?_)
    have e2 : (t2.fs.length : Int) - 1 = ((t2.fs.length - 1 : Nat) : Int) := by omega
    rw [hS, e2]
    refine O.mk (slc_to (by omega)) ?_
    (repeat with_reducible first | refine qq ?_ | refine qr ?_ | refine qs ?_)
    refine hwf.st1 2 rfl tsz154 rfl (by show 0 + 8 < 10; decide) fun w9 hw9 => ?_
    replace hw9 : Own B w9 (frA f :: sep ((t2.fs.eraseIdx (t2.fs.length - 1)).map frA) :: bk t2.b 156 (pcells p ++ [.slice (some ⟨bS, 0, none⟩) (t2.fs.length - 1) cap, .int .i64 t2.trap]) :: sl 152 3 t2.fv t2.fs.length (t2.fs.flatMap encFR) :: (bk b10 79 (encPI x) :: bk b8 162 (encAS ⟨0, 0, 0, 0, 0, .slice none 0 0⟩) :: L.set ih (heapA h2)).eraseIdx (i + 2)) := hw9
    rw [hS] at hw9
    have hw10 := (hw9.imp (i := 3) rfl (sl_take (m := t2.fs.length - 1) (by omega))).drop 0
    have e3 : t2.fs.eraseIdx (t2.fs.length - 1) = t2.fs.take (t2.fs.length - 1) := by
      rw [List.eraseIdx_eq_take_drop_succ, List.drop_of_length_le (by omega), List.append_nil]
    rw [e3, flat_take encFR_len] at hw10
    have e4 : (t2.fs.take (t2.fs.length - 1)).length = t2.fs.length - 1 := by rw [List.length_take]; omega
    have hw11 : Own B w9 (TH.parts p ⟨t2.b, .slice (some ⟨bS, 0, none⟩) (t2.fs.length - 1) cap, t2.fs.take (t2.fs.length - 1), t2.trap⟩ ++ (bk b10 79 (encPI x) :: bk b8 162 (encAS ⟨0, 0, 0, 0, 0, .slice none 0 0⟩) :: L.set ih (heapA h2)).eraseIdx (i + 2)) := by
      unfold TH.parts
      simp only
      rw [e4]
      exact hw10.perm ((List.Perm.swap _ _ _).trans (List.Perm.cons _ (List.Perm.swap _ _ _)))
    have hw12 := Own.shut (L := bk b10 79 (encPI x) :: bk b8 162 (encAS ⟨0, 0, 0, 0, 0, .slice none 0 0⟩) :: L.set ih (heapA h2)) (i := i + 2) (A := TH.parts p ⟨t2.b, .slice (some ⟨bS, 0, none⟩) (t2.fs.length - 1) cap, t2.fs.take (t2.fs.length - 1), t2.trap⟩) (hiN : (bk b10 79 (encPI x) :: bk b8 162 (encAS ⟨0, 0, 0, 0, 0, .slice none 0 0⟩) :: L.set ih (heapA h2))[i + 2]? = _) hw11
    exact J1 _ w9 hw12 rfl ht.pop
  have hixF' : iS 3 t2.fv (.int .i64 ((t2.fs.length : Int) - 1)) = some (.pointer (some ⟨bF, ((t2.fs.length : Int) - 1).toNat * 3, none⟩)) := hixF
  (repeat with_reducible first | refine qq ?_ | refine qr ?_ | refine qs ?_ | refine hw5.l 0 ?_)
  refine Bc_dec (fun hop => ?_) (fun n31 => ?_)
  · (repeat with_reducible first | refine qq ?_ | refine qr ?_ | refine qs ?_ | refine hw5.l 0 ?_)
    refine hw5.atst (i + 2) hiN hA.get hixF' e1 x.n fun w8 hw8 => ?_
    have hj := hV.jump (.inl hop)
    exact J1 _ w8 hw8 rfl (ht.set (hA.fok.goto hj.1 hj.2))
  (repeat with_reducible first | refine qq ?_ | refine qr ?_ | refine qs ?_ | refine hw5.l 0 ?_)
  refine Bc_dec (fun hop => ?_) (fun n32 => ?_)
  · have hj := hV.jump (.inr hop)
    have hwt := hw5.opn (i + 2) hiN
    obtain ⟨bF', hixF2, hrdF, _⟩ := hwt.el 1 rfl encFR_len hA.get
    have hbb : bF' = bF := by
      have h1 := hixF2 .i64 ((t2.fs.length : Int) - 1) (by omega) e1
      rw [hixF'] at h1
      simp only [Option.some.injEq, Value.pointer.injEq, Addr.mk.injEq] at h1
      exact h1.1.symm
    subst hbb
    (repeat with_reducible first | refine qq ?_ | refine qr ?_ | refine qs ?_ | refine hw5.l 0 ?_)
    refine O.mk (by rw [e1]; exact hrdF 1 _ rfl) ?_
    (repeat with_reducible first | refine qq ?_ | refine qr ?_ | refine qs ?_)
    refine hw5.atst (i + 2) hiN hA.get hixF' e1 (f.at_ + 1) fun w8 hw8 => ?_
    clear hwt hw5
    replace hw8 : Own B w8 (bk b10 79 (encPI x) :: bk b8 162 (encAS ⟨0, 0, 0, 0, 0, .slice none 0 0⟩) :: (L.set ih (heapA h2)).set i (threadA p ⟨t2.b, t2.fv, t2.fs.set (t2.fs.length - 1) ⟨f.func, f.at_ + 1, f.rv, f.regs⟩, t2.trap⟩)) := hw8
    have hiM := set_hit (a' := threadA p ⟨t2.b, t2.fv, t2.fs.set (t2.fs.length - 1) ⟨f.func, f.at_ + 1, f.rv, f.regs⟩, t2.trap⟩) hiN
    have hr0 := hA.reg hM 0 (by rw [hop]; decide)
    obtain ⟨b, y, _, hix, hrd⟩ := hw8.reg (i + 2) hiM (k := t2.fs.length - 1) (f := ⟨f.func, f.at_ + 1, f.rv, f.regs⟩) (by simp only; rw [List.getElem?_set_self hlt]) (r := x.a) hr0.1 hr0.2
    (repeat with_reducible first | refine qq ?_ | refine qr ?_ | refine qs ?_ | refine hw8.l 0 ?_)
    refine O.mk hix ?_
    refine O.mk hrd ?_
    (repeat with_reducible first | refine qq ?_ | refine qr ?_ | refine qs ?_)
    refine Bc_dec (fun _ => ?_) (fun _ => ?_)
    · (repeat with_reducible first | refine qq ?_ | refine qr ?_ | refine qs ?_ | refine hw8.l 0 ?_)
      refine hw8.atst (t := ⟨t2.b, t2.fv, t2.fs.set (t2.fs.length - 1) ⟨f.func, f.at_ + 1, f.rv, f.regs⟩, t2.trap⟩) (i + 2) hiM (k := t2.fs.length - 1) (f := ⟨f.func, f.at_ + 1, f.rv, f.regs⟩) (by simp only; rw [List.getElem?_set_self hlt]) hixF' e1 x.n fun w9 hw9 => ?_
      replace hw9 : Own B w9 (bk b10 79 (encPI x) :: bk b8 162 (encAS ⟨0, 0, 0, 0, 0, .slice none 0 0⟩) :: ((L.set ih (heapA h2)).set i (threadA p ⟨t2.b, t2.fv, t2.fs.set (t2.fs.length - 1) ⟨f.func, f.at_ + 1, f.rv, f.regs⟩, t2.trap⟩)).set i (threadA p ⟨t2.b, t2.fv, (t2.fs.set (t2.fs.length - 1) ⟨f.func, f.at_ + 1, f.rv, f.regs⟩).set (t2.fs.length - 1) ⟨f.func, x.n, f.rv, f.regs⟩, t2.trap⟩)) := hw9
      rw [List.set_set, List.set_set] at hw9
      exact J1 _ w9 hw9 rfl (ht.set (hA.fok.goto hj.1 hj.2))
    · exact J1 _ w8 hw8 rfl (ht.set (hA.fok.step hM hA.code (by omega) (by omega)))
  refine J1 t2 w7 ?_ rfl ht
  rw [set_same hiN]
  exact hw5
end
end Go.Proofs.Ytedcfkigfcobaaa
end
/- Contracts: the machine's small functions. -/
section
namespace Go.Proofs.Ytedcfkigfcobaaa
open Go Go.Proofs
attribute [local irreducible] Bc O AL BS MS MM ST AP CV Cl
structure TK where
  kind : Int
  of_ : Int
  which : Int
  func : Int
  looper : Int
  by_ : Int
  nth : Int
  front : Bool
  delay : Int
  due : Int
  payload : Int
  state : Int
  trap : Int
  mark : Int
  prev : Int
def encTK (t : TK) : List Value := [.int .i64 t.kind, .int .i64 t.of_, .int .i64 t.which, .int .i64 t.func, .int .i64 t.looper, .int .i64 t.by_, .int .i64 t.nth, .bool t.front, .int .i64 t.delay, .int .i64 t.due, .int .i64 t.payload, .int .i64 t.state, .int .i64 t.trap, .int .i64 t.mark, .int .i64 t.prev]
theorem encTK_len (t : TK) : (encTK t).length = 15 := rfl
theorem encTK_one (t : TK) : (encTK t).all one = true := rfl
structure MK where
  kind : Int
  task : Int
  other : Int
  site : Int
  lk : Int
  a : Int
  b : Int
  write : Bool
deriving DecidableEq
def encMK (m : MK) : List Value := [.int .i64 m.kind, .int .i64 m.task, .int .i64 m.other, .int .i64 m.site, .int .i64 m.lk, .int .i64 m.a, .int .i64 m.b, .bool m.write]
theorem encMK_len (m : MK) : (encMK m).length = 8 := rfl
theorem encMK_one (m : MK) : (encMK m).all one = true := rfl
def ptrC (b : Nat) : List Value := [pp b]
theorem ptrC_len (b : Nat) : (ptrC b).length = 1 := rfl
structure Mc where
  b : Nat
  h : HS
  v : VS
  qv : Value
  qs : List QS
  rv : Value
  runs : List Int
  tv : Value
  T : List TK
  hv : Value
  th : List TH
  gv : Value
  g : List Int
  lv : Value
  log : List Int
  mv : Value
  M : List MK
  ov : Value
  on : List Int
  now : Int
  steps : Int
  full : Bool
abbrev mcells (p : PP) (s : Mc) : List Value := pcells p ++ [pp s.h.b, pp s.v.b, s.qv, s.rv, s.tv, s.hv, s.gv, s.lv, s.mv, s.ov, .int .i64 s.now, .int .i64 s.steps, .bool s.full]
abbrev mAtoms (p : PP) (s : Mc) : List Atom := [bk s.b 45 (mcells p s), heapA s.h, livesA s.v, sl 96 1 s.qv s.qs.length ((s.qs.map (·.b)).flatMap ptrC), sep (s.qs.map queueA), sl 3 1 s.rv s.runs.length (ints s.runs), sl 73 15 s.tv s.T.length (s.T.flatMap encTK),
  sl 128 1 s.hv s.th.length ((s.th.map (·.b)).flatMap ptrC), sep (s.th.map (threadA p)), sl 2 1 s.gv s.g.length (ints s.g), sl 2 1 s.lv s.log.length (ints s.log), sl 67 8 s.mv s.M.length (s.M.flatMap encMK), sl 3 1 s.ov s.on.length (ints s.on)]
section
variable {B : Base} {w : World} {L : List Atom} {p : PP}
theorem tsz43 : tsz Try.prog 43 = some 1 := by kernel_rfl
theorem fill67 (a b c : Int) : (fillW Try.prog 67 [(0, .int .i64 a), (1, .int .i64 b), (2, .int .i64 c)]).map Value.agg = some (.agg (encMK ⟨a, b, c, 0, 0, 0, 0, false⟩).toArray) := by kernel_rfl
theorem fill63a (a b : Int) : (fillW Try.prog 63 [(0, .int .i64 a), (1, .int .i64 b)]).map Value.agg = some (.agg #[.int .i64 a, .int .i64 b, .int .i64 0]) := by kernel_rfl
theorem fill67a (t : Int) (c : AC) : (fillW Try.prog 67 [(0, .int .i64 3), (1, .int .i64 t), (3, .agg (encAC c).toArray)]).map Value.agg = some (.agg (encMK ⟨3, t, 0, c.site, c.kind, c.a, c.b, c.write⟩).toArray) := by kernel_rfl
theorem k41 {s : Mc} (hw : Own B w (mAtoms p s ++ L)) : Cl Try.prog 41 [pp s.b] w fun v w' => v = .int .i64 11 ∧ Own B w' (mAtoms p { s with full := true } ++ L) := by
  refine s41 ?_
  unfold c41
  (repeat with_reducible first | refine qq ?_ | refine qr ?_ | refine qs ?_)
  exact hw.st1 0 rfl tsz4 rfl (by show 20 < 21; decide) fun w2 hw2 => ⟨rfl, hw2⟩
/-- a mark behind the marks -/
theorem Own.mark {s : Mc} (hw : Own B w (mAtoms p s ++ L)) (hM : s.M.length < 2 ^ 30) (m : MK) {K : Value → World → Prop} (hk : ∀ v w', Own B w' (mAtoms p { s with mv := v, M := s.M ++ [m] } ++ L) → K (.tuple #[]) w') :
    BS 67 8 1 (.agg #[.int .i64 0, .int .i64 0, .int .i64 0, .int .i64 0, .int .i64 0, .int .i64 0, .int .i64 0, .bool false]) [(0, .agg (encMK m).toArray)] w fun t17 w => AP Try.prog #[43, 43] 43 [s.mv, t17] w fun t18 w =>
      O (nC (pp s.b)) fun t19 => O (fA 16 t19) fun t20 => ST Try.prog 43 t20 t18 w fun _ w => K (.tuple #[]) w := by
  refine hw.app (xs := encMK m) T43 ⟨_, T43.under⟩ 11 rfl (by decide) rfl rfl rfl (by omega) fun v w2 hw2 => ?_
  rw [flat_app] at hw2
  (repeat with_reducible first | refine qq ?_ | refine qr ?_ | refine qs ?_)
  have hone := sl_one hw2 11 rfl
  refine hw2.st1 0 rfl tsz43 hone (by show 16 < 21; decide) fun w3 hw3 => hk v w3 ?_
  show Own B w3 (bk s.b 45 (mcells p { s with mv := v, M := s.M ++ [m] }) :: heapA s.h :: livesA s.v :: sl 96 1 s.qv s.qs.length ((s.qs.map (·.b)).flatMap ptrC) :: sep (s.qs.map queueA) :: sl 3 1 s.rv s.runs.length (ints s.runs) :: sl 73 15 s.tv s.T.length (s.T.flatMap encTK) ::
    sl 128 1 s.hv s.th.length ((s.th.map (·.b)).flatMap ptrC) :: sep (s.th.map (threadA p)) :: sl 2 1 s.gv s.g.length (ints s.g) :: sl 2 1 s.lv s.log.length (ints s.log) :: sl 67 8 v (s.M ++ [m]).length ((s.M ++ [m]).flatMap encMK) :: sl 3 1 s.ov s.on.length (ints s.on) :: L)
  rw [List.length_append]
  exact hw3
theorem k69 {s : Mc} (hw : Own B w (mAtoms p s ++ L)) (hM : s.M.length < 2 ^ 30) (k t o : Int) :
    Cl Try.prog 69 [pp s.b, .int .i64 k, .int .i64 t, .int .i64 o] w fun r w' => r = .tuple #[] ∧ ∃ v, Own B w' (mAtoms p { s with mv := v, M := s.M ++ [⟨k, t, o, 0, 0, 0, 0, false⟩] } ++ L) := by
  refine s69 ?_
  unfold c69
  (repeat with_reducible first | refine qq ?_ | refine qr ?_ | refine qs ?_ | refine hw.l 0 ?_)
  refine O.mk (fill67 _ _ _) ?_
  exact hw.mark (K := fun r w' => r = .tuple #[] ∧ ∃ v, Own B w' (mAtoms p { s with mv := v, M := s.M ++ [⟨k, t, o, 0, 0, 0, 0, false⟩] } ++ L)) hM _ fun v w' h => ⟨rfl, v, h⟩
theorem k70 {s : Mc} (hw : Own B w (mAtoms p s ++ L)) (hM : s.M.length < 2 ^ 30) (t site k a : Int) (wr : Bool) :
    Cl Try.prog 70 [pp s.b, .int .i64 t, .int .i64 site, .int .i64 k, .int .i64 a, .bool wr] w fun r w' => r = .tuple #[] ∧ ∃ v, Own B w' (mAtoms p { s with mv := v, M := s.M ++ [⟨3, t, 0, site, k, a, 0, wr⟩] } ++ L) := by
  refine s70 ?_
  unfold c70
  (repeat with_reducible first | refine qq ?_ | refine qr ?_ | refine qs ?_ | refine hw.l 0 ?_)
  refine O.mk (fill63a _ _) ?_
  refine O.mk (fill65 _ _ _ _ _) ?_
  refine O.mk (fill67a _ ⟨site, k, a, 0, wr⟩) ?_
  exact hw.mark (K := fun r w' => r = .tuple #[] ∧ ∃ v, Own B w' (mAtoms p { s with mv := v, M := s.M ++ [⟨3, t, 0, site, k, a, 0, wr⟩] } ++ L)) hM _ fun v w' h => ⟨rfl, v, h⟩
/-- a task's cell is read -/
theorem Own.task {s : Mc} (hw : Own B w (mAtoms p s ++ L)) {id : Int} (h1 : 1 ≤ id) (h2 : id ≤ s.T.length) : ∃ b t, s.T[(id - 1).toNat]? = some t ∧ iS 15 s.tv (.int .i64 (id - 1)) = some (.pointer (some ⟨b, (id - 1).toNat * 15, none⟩)) ∧
    ∀ k y, (encTK t)[k]? = some y → rd1 (.pointer (some ⟨b, (id - 1).toNat * 15 + k, none⟩)) w = some y := by
  obtain ⟨t, ht⟩ := list_get (l := s.T) (j := (id - 1).toNat) (by omega)
  obtain ⟨b, hix, hrd, _⟩ := hw.el 6 rfl encTK_len ht
  exact ⟨b, t, ht, hix _ _ (by omega) rfl, hrd⟩
/-- a task is written -/
theorem Own.taskst {s : Mc} (hw : Own B w (mAtoms p s ++ L)) {id : Int} {t t' : TK} (ht : s.T[(id - 1).toNat]? = some t) {b k : Nat} (hix : iS 15 s.tv (.int .i64 (id - 1)) = some (.pointer (some ⟨b, (id - 1).toNat * 15, none⟩))) {ty : TypeId} {X : Value} (hty : tsz Try.prog ty = some X.cells.size)
    (hone : X.cells.toList.all one = true) (hl : k + X.cells.size ≤ 15) (hu : updL (encTK t) k X.cells.toList = encTK t') {K : Value → World → Prop} (hk : ∀ w', Own B w' (mAtoms p { s with T := s.T.set (id - 1).toNat t' } ++ L) → K undef w') :
    ST Try.prog ty (.pointer (some ⟨b, (id - 1).toNat * 15 + k, none⟩)) X w K :=
  hw.elst 6 rfl encTK_len ht (x' := t') hix rfl hty hone hl hu hk
theorem k91 {s : Mc} (hw : Own B w (mAtoms p s ++ L)) (hT : s.T.length ≤ 1000) (n k : Int) :
    Cl Try.prog 91 [pp s.b, .int .i64 n, .int .i64 k] w fun r w' => (∃ e : Int, r = .int .i64 e ∧ (e = 0 ∨ (e = n ∧ 1 ≤ n ∧ n ≤ s.T.length ∧ ∃ t, s.T[(n - 1).toNat]? = some t ∧ t.kind = k))) ∧ w' = w := by
  have J : ∀ c, (c = false → 1 ≤ n ∧ n ≤ s.T.length ∧ ∃ t, s.T[(n - 1).toNat]? = some t ∧ t.kind = k) →
      j91_0 (fun r w' => (∃ e : Int, r = .int .i64 e ∧ (e = 0 ∨ (e = n ∧ 1 ≤ n ∧ n ≤ s.T.length ∧ ∃ t, s.T[(n - 1).toNat]? = some t ∧ t.kind = k))) ∧ w' = w) (.int .i64 n) (.bool c) w := by
    intro c hc
    unfold j91_0
    exact Bc_b (fun _ => ⟨⟨0, rfl, .inl rfl⟩, rfl⟩) (fun h => ⟨⟨n, rfl, .inr ⟨rfl, hc h⟩⟩, rfl⟩)
  refine s91 ?_
  unfold c91
  (repeat with_reducible first | refine qq ?_ | refine qr ?_ | refine qs ?_)
  refine Bc_dec (fun _ => J true (fun h => by cases h)) (fun h1 => ?_)
  (repeat with_reducible first | refine qq ?_ | refine qr ?_ | refine qs ?_ | refine hw.l 0 ?_)
  refine O.mk (hw.slLen 6 rfl) ?_
  (repeat with_reducible first | refine qq ?_ | refine qr ?_ | refine qs ?_)
  refine Bc_dec (fun _ => J true (fun h => by cases h)) (fun h2 => ?_)
  obtain ⟨b, t, ht, hix, hrd⟩ := hw.task (id := n) (by omega) (by omega)
  (repeat with_reducible first | refine qq ?_ | refine qr ?_ | refine qs ?_ | refine hw.l 0 ?_)
  refine O.mk hix ?_
  (repeat with_reducible first | refine qq ?_ | refine qr ?_ | refine qs ?_)
  refine O.mk (hrd 0 _ rfl) ?_
  (repeat with_reducible first | refine qq ?_ | refine qr ?_ | refine qs ?_)
  exact J _ (fun h => ⟨by omega, by omega, t, ht, by simpa using h⟩)
end
end Go.Proofs.Ytedcfkigfcobaaa
end
/- Contracts: a task begins; a task is made. -/
section
namespace Go.Proofs.Ytedcfkigfcobaaa
open Go Go.Proofs
attribute [local irreducible] Bc O AL BS MS MM ST AP CV Cl
section
variable {B : Base} {w : World} {L : List Atom} {p : PP}
theorem tsz70 : tsz Try.prog 70 = some 1 := by kernel_rfl
theorem tsz40 : tsz Try.prog 40 = some 1 := by kernel_rfl
theorem tsz41 : tsz Try.prog 41 = some 1 := by kernel_rfl
def beginMarks (id : Int) (t : TK) : List MK := ⟨1, id, 0, 0, 0, 0, 0, false⟩ :: (if t.kind = 4 then [⟨3, id, 0, t.of_, 5, id, 0, true⟩] else [])
theorem k43 {s : Mc} (hw : Own B w (mAtoms p s ++ L)) (hT : s.T.length ≤ 1000) (hM : s.M.length < 2 ^ 20) {id : Int} (h1 : 1 ≤ id) {t : TK} (ht : s.T[(id - 1).toNat]? = some t) :
    Cl Try.prog 43 [pp s.b, .int .i64 id] w fun r w' => r = .tuple #[] ∧ ∃ v, Own B w' (mAtoms p { s with mv := v, T := s.T.set (id - 1).toNat { t with state := 2 }, M := s.M ++ beginMarks id t } ++ L) := by
  have hlt := list_lt ht
  refine s43 ?_
  unfold c43
  obtain ⟨b, t', ht', hix, hrd⟩ := hw.task (id := id) h1 (by omega)
  rw [ht] at ht'; cases ht'
  (repeat with_reducible first | refine qq ?_ | refine qr ?_ | refine qs ?_ | refine hw.l 0 ?_)
  refine O.mk hix ?_
  (repeat with_reducible first | refine qq ?_ | refine qr ?_ | refine qs ?_)
  refine hw.taskst ht (t' := { t with state := 2 }) (k := 11) (X := .int .i64 2) hix tsz70 rfl (by decide) rfl fun w2 hw2 => ?_
  clear hw hrd hix
  refine (k69 hw2 (by simp only; omega) 1 id 0).use ?_
  clear hw2
  rintro _ w3 ⟨rfl, v, hw3⟩
  obtain ⟨b, t', ht', hix, hrd⟩ := hw3.task (id := id) h1 (by simp only [List.length_set]; omega)
  simp only at ht'
  rw [List.getElem?_set_self hlt] at ht'; cases ht'
  (repeat with_reducible first | refine qq ?_ | refine qr ?_ | refine qs ?_ | refine hw3.l 0 ?_)
  refine O.mk hix ?_
  (repeat with_reducible first | refine qq ?_ | refine qr ?_ | refine qs ?_)
  refine O.mk (hrd 0 _ rfl) ?_
  (repeat with_reducible first | refine qq ?_ | refine qr ?_ | refine qs ?_)
  refine Bc_dec (fun hk => ?_) (fun hk => ?_)
  · (repeat with_reducible first | refine qq ?_ | refine qr ?_ | refine qs ?_ | refine hw3.l 0 ?_)
    refine O.mk hix ?_
    (repeat with_reducible first | refine qq ?_ | refine qr ?_ | refine qs ?_)
    refine O.mk (hrd 1 _ rfl) ?_
    refine (k70 hw3 (by simp only [List.length_append, List.length_singleton]; omega) id t.of_ 5 id true).use ?_
    rintro _ w4 ⟨rfl, v', hw4⟩
    refine ⟨rfl, v', ?_⟩
    have : beginMarks id t = [⟨1, id, 0, 0, 0, 0, 0, false⟩] ++ [⟨3, id, 0, t.of_, 5, id, 0, true⟩] := by unfold beginMarks; rw [if_pos hk]; rfl
    rw [this, ← List.append_assoc]
    exact hw4
  · refine ⟨rfl, v, ?_⟩
    have : beginMarks id t = [⟨1, id, 0, 0, 0, 0, 0, false⟩] := by unfold beginMarks; rw [if_neg hk]
    rw [this]
    exact hw3
def CellsOK (h : HS) (cv : Value) (cs : List Int) : Prop := (cv = .slice none 0 0 ∧ cs = []) ∨ ∃ (k : Nat) (o : HO), h.os[k]? = some o ∧ cv = o.vv ∧ cs = o.vals
theorem k37g (hP : ProgOK B p) (hM : MayP p) {f : Int} (hf : 0 ≤ f) {g : PF} (hg : p.funcs[f.toNat]? = some g) {h : HS} {cv : Value} {cs : List Int} (hc : CellsOK h cv cs) (hw : Own B w L) (j : Nat) (hj : L[j]? = some (heapA h)) (hcs : (cs.length : Int) = g.caps) :
    Cl Try.prog 37 [progV p, .int .i64 f, cv] w fun v w' => ∃ t : TH, v = .tuple #[pp t.b, .int .i64 0] ∧ t.fs.length = 1 ∧ TOK p t ∧ Own B w' (threadA p t :: L) := by
  rcases hc with ⟨rfl, rfl⟩ | ⟨k, o, ho, rfl, rfl⟩
  · refine (k37 hP hM hf hg (cs := []) (hw.nilSl 2 1) 0 rfl hcs).use ?_
    rintro _ w' ⟨t, h1, h2, h3, h4⟩
    exact ⟨t, h1, h2, h3, h4.drop 1⟩
  · refine (k37 hP hM hf hg (hw.hout j hj ho) 0 rfl hcs).use ?_
    rintro _ w' ⟨t, h1, h2, h3, h4⟩
    refine ⟨t, h1, h2, h3, ?_⟩
    refine Own.hin (L := threadA p t :: L) (i := j + 1) (by rw [List.getElem?_cons_succ]; exact hj) ho ?_
    rw [List.eraseIdx_cons_succ]
    refine h4.perm ?_
    exact (List.perm_append_comm (l₁ := [threadA p t]) (l₂ := [hoA o, sep ((h.os.eraseIdx k).map hoA), bk h.b 92 [h.v], sl 195 6 h.v h.os.length (h.os.flatMap encHO)])).append_right (L.eraseIdx j)
/-- what holds of a machine's parts, whatever it did -/
structure SOK (p : PP) (s : Mc) : Prop where
  h : HOK s.h
  ql : s.qs.length = p.nl
  rl : s.runs.length = p.nl
  tl : s.th.length = s.T.length
  gl : s.g.length = p.ng
  ol : s.on.length = p.events.length
  tok : ∀ (i : Nat) t, s.th[i]? = some t → TOK p t
  lo : ∀ (i : Nat) (t : TK), s.T[i]? = some t → t.looper < p.nl
  log : s.log.length ≤ 1024
  qb : ∀ (i : Nat) (q : QS), s.qs[i]? = some q → q.l.length ≤ s.T.length
def newT (s : Mc) (t : TK) : TK := { t with state := 1, due := s.now + t.delay }
/-- the queues behind a new task -/
def addQ (s : Mc) (t : TK) : List (List QI) := if 0 ≤ t.looper then (s.qs.map (·.l)).modify t.looper.toNat (· ++ [⟨s.T.length + 1, t.front, s.now + t.delay⟩]) else s.qs.map (·.l)
theorem Own.growAt {α : Type} {xs : List α} {f : α → Atom} {x : α} {i : Nat} (hi : L[i]? = some (sep (xs.map f))) (h : Own B w (f x :: L)) : Own B w (L.set i (sep ((xs ++ [x]).map f))) := by
  have h1 : Own B w (f x :: sep (xs.map f) :: L.eraseIdx i) := h.perm (List.Perm.cons _ (perm_pull hi))
  exact Own.put hi h1.grow
theorem Own.back' {α : Type} {xs : List α} {f : α → Atom} {k : Nat} {x' : α} (hk : k < xs.length) {i : Nat} {a : Atom} (hi : L[i]? = some a) (h : Own B w (f x' :: sep ((xs.eraseIdx k).map f) :: L.eraseIdx i)) : Own B w (L.set i (sep ((xs.set k x').map f))) :=
  Own.put hi (h.back hk)
theorem fill133a (a c : Int) (b : Bool) : (fillW Try.prog 133 [(0, .int .i64 a), (1, .bool b), (2, .int .i64 c)]).map Value.agg = some (.agg (encQI ⟨a, b, c⟩).toArray) := by kernel_rfl
theorem map_modify {α β : Type} (f : α → β) {xs : List α} {k : Nat} {x x' : α} (hx : xs[k]? = some x) {F : β → β} (hF : f x' = F (f x)) : (xs.set k x').map f = (xs.map f).modify k F := by
  apply List.ext_getElem?
  intro i
  rw [List.getElem?_modify, List.getElem?_map, List.getElem?_map, List.getElem?_set]
  by_cases h : k = i
  · subst h
    rw [if_pos rfl, if_pos (list_lt hx), hx]
    simp [hF]
  · rw [if_neg h]
    cases xs[i]? <;> simp [h]
set_option maxHeartbeats 2000000 in
theorem k20 (hP : ProgOK B p) (hM : MayP p) {s : Mc} (hw : Own B w (mAtoms p s ++ L)) (hS : SOK p s) (hT : s.T.length < 250) {t : TK} (hf : 0 ≤ t.func) {g : PF} (hg : p.funcs[t.func.toNat]? = some g) {cv : Value} {cs : List Int} (hc : CellsOK s.h cv cs) (hcs : (cs.length : Int) = g.caps)
    (hlo : t.looper < p.nl) (hnow : 0 ≤ s.now ∧ s.now ≤ 1000000000000) (hdel : 0 ≤ t.delay ∧ t.delay ≤ 1000000) (hfresh : ∀ (i j : Nat) q x, s.qs[i]? = some q → q.l[j]? = some x → x.task ≠ s.T.length + 1) :
    Cl Try.prog 20 [pp s.b, .agg (encTK t).toArray, cv] w fun r w' => r = .int .i64 (s.T.length + 1) ∧ ∃ qs' x tv hv, qs'.map (·.b) = s.qs.map (·.b) ∧ qs'.map (·.l) = addQ s t ∧ TOK p x ∧ x.fs.length = 1 ∧
      Own B w' (mAtoms p { s with qs := qs', tv := tv, T := s.T ++ [newT s t], hv := hv, th := s.th ++ [x] } ++ L) := by
  obtain ⟨R, hR⟩ : ∃ R : Value → World → Prop, R = fun r w' => r = .int .i64 (s.T.length + 1) ∧ ∃ qs' x tv hv, qs'.map (·.b) = s.qs.map (·.b) ∧ qs'.map (·.l) = addQ s t ∧ TOK p x ∧ x.fs.length = 1 ∧
      Own B w' (mAtoms p { s with qs := qs', tv := tv, T := s.T ++ [newT s t], hv := hv, th := s.th ++ [x] } ++ L) := ⟨_, rfl⟩
  rw [← hR]
  refine s20 ?_
  unfold c20
  refine hw.al fun b4 w1 hb4 hw1 => ?_
  clear hw
  replace hw1 : Own B w1 (bk b4 73 (encTK t) :: (mAtoms p s ++ L)) := hw1
  (repeat with_reducible first | refine qq ?_ | refine qr ?_ | refine qs ?_ | refine hw1.l 0 ?_ | refine hw1.l 1 ?_)
  refine O.mk (hw1.slLen 7 rfl) ?_
  (repeat with_reducible first | refine qq ?_ | refine qr ?_ | refine qs ?_)
  refine Bc_dec (fun h => by omega) (fun _ => ?_)
  (repeat with_reducible first | refine qq ?_ | refine qr ?_ | refine qs ?_)
  refine hw1.st1 0 rfl tsz70 rfl (by show 11 < 15; decide) fun w2 hw2 => ?_
  clear hw1
  replace hw2 : Own B w2 (bk b4 73 (encTK { t with state := 1 }) :: (mAtoms p s ++ L)) := hw2
  refine hw2.dr fun w3 hw3 => ?_
  clear hw2
  (repeat with_reducible first | refine qq ?_ | refine qr ?_ | refine qs ?_ | refine hw3.l 0 ?_ | refine hw3.l 1 ?_)
  refine O.add (a := s.now) (b := t.delay) (by omega) ?_
  (repeat with_reducible first | refine qq ?_ | refine qr ?_ | refine qs ?_)
  refine hw3.st1 0 rfl tsz2 rfl (by show 9 < 15; decide) fun w4 hw4 => ?_
  clear hw3
  replace hw4 : Own B w4 (bk b4 73 (encTK (newT s t)) :: (mAtoms p s ++ L)) := hw4
  refine hw4.dr fun w5 hw5 => ?_
  clear hw4
  (repeat with_reducible first | refine qq ?_ | refine qr ?_ | refine qs ?_ | refine hw5.l 0 ?_ | refine hw5.l 1 ?_)
  refine O.mk (v := .agg (encTK (newT s t)).toArray) (hw5.rdN_bk 0 rfl (Nat.le_refl 15)) ?_
  refine hw5.app (xs := encTK (newT s t)) T40 ⟨_, T40.under⟩ 7 rfl (by decide) rfl rfl rfl (by omega) fun tv w6 hw6 => ?_
  clear hw5
  rw [flat_app] at hw6
  (repeat with_reducible first | refine qq ?_ | refine qr ?_ | refine qs ?_ | refine hw6.l 0 ?_ | refine hw6.l 1 ?_)
  refine hw6.st1 1 rfl tsz40 (sl_one hw6 7 rfl) (by show 12 < 21; decide) fun w7 hw7 => ?_
  clear hw6
  have eT : s.T.length + 1 = (s.T ++ [newT s t]).length := by simp
  have hw8 : Own B w7 (bk b4 73 (encTK (newT s t)) :: (mAtoms p { s with tv := tv, T := s.T ++ [newT s t] } ++ L)) := by
    unfold mAtoms
    simp only
    rw [← eT]
    exact hw7
  clear hw7
  refine hw8.dr fun w9 hw9 => ?_
  clear hw8
  (repeat with_reducible first | refine qq ?_ | refine qr ?_ | refine qs ?_ | refine hw9.l 0 ?_ | refine hw9.l 1 ?_)
  refine O.mk (v := progV p) (hw9.rdN_bk 1 rfl (by show 0 + 8 ≤ 21; decide)) ?_
  (repeat with_reducible first | refine qq ?_ | refine qr ?_ | refine qs ?_ | refine hw9.l 0 ?_ | refine hw9.l 1 ?_)
  refine (k37g hP hM hf hg hc hw9 2 rfl hcs).use ?_
  clear hw9
  rintro _ w10 ⟨x, rfl, hx1, hx2, hw10⟩
  refine O.mk (v := pp x.b) rfl ?_
  refine O.mk (v := .int .i64 0) rfl ?_
  (repeat with_reducible first | refine qq ?_ | refine qr ?_ | refine qs ?_ | refine hw10.l 1 ?_ | refine hw10.l 2 ?_)
  refine hw10.app (xs := ptrC x.b) T41 ⟨_, T41.under⟩ 9 rfl (by decide) rfl rfl rfl (by have := hS.tl; simp only; omega) fun hv w11 hw11 => ?_
  clear hw10
  rw [flat_app] at hw11
  (repeat with_reducible first | refine qq ?_ | refine qr ?_ | refine qs ?_ | refine hw11.l 1 ?_ | refine hw11.l 2 ?_)
  refine hw11.st1 2 rfl tsz41 (sl_one hw11 9 rfl) (by show 13 < 21; decide) fun w12 hw12 => ?_
  clear hw11
  have hw13 := Own.growAt (i := 9) (xs := s.th) (f := threadA p) (x := x) rfl hw12
  clear hw12
  have eh : s.th.length + 1 = (s.th ++ [x]).length := by simp
  have em : s.th.map (·.b) ++ [x.b] = (s.th ++ [x]).map (·.b) := by simp
  have hw14 : Own B w12 (bk b4 73 (encTK (newT s t)) :: (mAtoms p { s with tv := tv, T := s.T ++ [newT s t], hv := hv, th := s.th ++ [x] } ++ L)) := by
    unfold mAtoms
    simp only
    rw [← eh, ← em]
    exact hw13
  clear hw13
  have J0 : ∀ qs' w', qs'.map (·.b) = s.qs.map (·.b) → qs'.map (·.l) = addQ s t → Own B w' (bk b4 73 (encTK (newT s t)) :: (mAtoms p { s with qs := qs', tv := tv, T := s.T ++ [newT s t], hv := hv, th := s.th ++ [x] } ++ L)) → j20_0 R (pp s.b) w' := by
    intro qs' w' h1 h2 hw'
    unfold j20_0
    (repeat with_reducible first | refine qq ?_ | refine qr ?_ | refine qs ?_ | refine hw'.l 1 ?_)
    refine O.mk (hw'.slLen 7 rfl) ?_
    rw [hR]
    refine ⟨by simp, qs', x, tv, hv, h1, h2, hx2, hx1, hw'.tail⟩
  (repeat with_reducible first | refine qq ?_ | refine qr ?_ | refine qs ?_ | refine hw14.l 0 ?_ | refine hw14.l 1 ?_)
  refine Bc_dec (fun hge => ?_) (fun hlt => ?_)
  · have hge : 0 ≤ t.looper := hge
    obtain ⟨q, hq⟩ := list_get (l := s.qs) (j := t.looper.toNat) (by have := hS.ql; omega)
    refine hw14.dr fun w15 hw15 => ?_
    clear hw14
    obtain ⟨bq, hixq, hrdq, _⟩ := hw15.el 4 (enc := ptrC) (xs := s.qs.map (·.b)) (by simp only [List.length_map]; rfl) ptrC_len (i := t.looper.toNat) (x := q.b) (by simp [hq])
    (repeat with_reducible first | refine qq ?_ | refine qr ?_ | refine qs ?_ | refine hw15.l 0 ?_ | refine hw15.l 1 ?_)
    refine O.mk (hixq _ _ hge rfl) ?_
    refine O.mk (hrdq 0 _ rfl) ?_
    (repeat with_reducible first | refine qq ?_ | refine qr ?_ | refine qs ?_ | refine hw15.l 0 ?_ | refine hw15.l 1 ?_)
    refine O.mk (hw15.slLen 7 rfl) ?_
    (repeat with_reducible first | refine qq ?_ | refine qr ?_ | refine qs ?_ | refine hw15.l 0 ?_ | refine hw15.l 1 ?_)
    refine O.mk (fill133a _ _ _) ?_
    have hw16 := hw15.out (i := 5) rfl hq
    have hql := hS.qb _ _ hq
    refine (k38 (x := ⟨(s.T ++ [newT s t]).length, t.front, s.now + t.delay⟩) hw16 0 rfl (by omega) (by simp only; omega) (by simp only; omega) (fun j y hy => ?_)).use ?_
    · have := hfresh _ j q y hq hy
      simp only [List.length_append, List.length_singleton]
      omega
    clear hw15 hw16
    rintro _ w17 ⟨⟨e, rfl⟩, q', hb', hl', hw17⟩
    have hw18 := Own.back' (L := bk b4 73 (encTK (newT s t)) :: (mAtoms p { s with tv := tv, T := s.T ++ [newT s t], hv := hv, th := s.th ++ [x] } ++ L)) (xs := s.qs) (f := queueA) (x' := q') (list_lt hq) (i := 5) rfl hw17
    have eb : (s.qs.set t.looper.toNat q').map (·.b) = s.qs.map (·.b) := map_set_same (f := (·.b)) hb' hq
    refine J0 (s.qs.set t.looper.toNat q') w17 eb ?_ ?_
    · unfold addQ
      rw [if_pos hge]
      refine map_modify (·.l) hq ?_
      rw [hl']; simp
    · unfold mAtoms
      simp only
      rw [eb, List.length_set]
      exact hw18
  · refine J0 s.qs w12 rfl ?_ hw14
    have hlt : ¬ 0 ≤ t.looper := hlt
    unfold addQ
    rw [if_neg hlt]
end
end Go.Proofs.Ytedcfkigfcobaaa
end
/- Contracts: whom a task waits for; a task that follows. -/
section
namespace Go.Proofs.Ytedcfkigfcobaaa
open Go Go.Proofs
attribute [local irreducible] Bc O AL BS MS MM ST AP CV Cl
section
variable {B : Base} {w : World} {L : List Atom} {p : PP}
/-- a thread is taken out of a machine, and laid back -/
theorem Own.thout {s : Mc} (hw : Own B w (mAtoms p s ++ L)) {k : Nat} {t : TH} (ht : s.th[k]? = some t) : Own B w (threadA p t :: sep ((s.th.eraseIdx k).map (threadA p)) :: (mAtoms p s ++ L).eraseIdx 8) := hw.out (i := 8) rfl ht
theorem Own.thin {s : Mc} {k : Nat} {t t' : TH} (ht : s.th[k]? = some t) (hb : t'.b = t.b) (hw : Own B w (threadA p t' :: sep ((s.th.eraseIdx k).map (threadA p)) :: (mAtoms p s ++ L).eraseIdx 8)) : Own B w (mAtoms p { s with th := s.th.set k t' } ++ L) := by
  have h := Own.back' (L := mAtoms p s ++ L) (list_lt ht) (i := 8) rfl hw
  unfold mAtoms
  simp only
  rw [map_set_same (f := (·.b)) hb ht, List.length_set]
  exact h
theorem set_id {α : Type} {xs : List α} {k : Nat} {x : α} (h : xs[k]? = some x) : xs.set k x = xs := by
  have hk := list_lt h
  rw [List.getElem?_eq_getElem hk] at h
  simp only [Option.some.injEq] at h
  rw [← h]; exact List.set_getElem_self hk
/-- a thread's address -/
theorem Own.thptr {s : Mc} (hw : Own B w (mAtoms p s ++ L)) {k : Nat} {t : TH} (ht : s.th[k]? = some t) {q : Int} (h0 : 0 ≤ q) (hq : q.toNat = k) : ∃ b, iS 1 s.hv (.int .i64 q) = some (.pointer (some ⟨b, q.toNat * 1, none⟩)) ∧ rd1 (.pointer (some ⟨b, q.toNat * 1, none⟩)) w = some (pp t.b) := by
  obtain ⟨b, hix, hrd, _⟩ := hw.el 7 (enc := ptrC) (xs := s.th.map (·.b)) (by simp only [List.length_map]; rfl) ptrC_len (i := k) (x := t.b) (by simp [ht])
  refine ⟨b, hix _ _ h0 hq, ?_⟩
  rw [hq]; exact hrd 0 _ rfl
def JoinFree (p : PP) (s : Mc) (id : Int) : Prop := ∀ th f g x y, s.th[(id - 1).toNat]? = some th → At p th f g x → x.op = 29 → f.regs[x.a.toNat]? = some y → ∀ t, 1 ≤ y → s.T[(y - 1).toNat]? = some t → t.kind = 5 → t.state = 3
set_option maxHeartbeats 2000000 in
theorem k40 (hP : ProgOK B p) (hM : MayP p) {s : Mc} (hw : Own B w (mAtoms p s ++ L)) (hS : SOK p s) (hT : s.T.length < 250) (id : Int) (hne : ∀ th t, s.th[(id - 1).toNat]? = some th → s.T[(id - 1).toNat]? = some t → t.state = 2 → th.fs ≠ []) :
    Cl Try.prog 40 [pp s.b, .int .i64 id] w fun v w' => (∃ n : Int, v = .int .i64 n ∧ (n ≤ 0 → ∀ t, 1 ≤ id → s.T[(id - 1).toNat]? = some t → t.state = 2 → JoinFree p s id)) ∧ Own B w' (mAtoms p s ++ L) := by
  obtain ⟨R, hR⟩ : ∃ R : Value → World → Prop, R = fun v w' => (∃ n : Int, v = .int .i64 n ∧ (n ≤ 0 → ∀ t, 1 ≤ id → s.T[(id - 1).toNat]? = some t → t.state = 2 → JoinFree p s id)) ∧ Own B w' (mAtoms p s ++ L) := ⟨_, rfl⟩
  rw [← hR]
  have J0 : ∀ c, (c = false → 1 ≤ id ∧ id ≤ s.T.length ∧ ∃ t, s.T[(id - 1).toNat]? = some t ∧ t.state = 2) → (c = true → ∀ t, 1 ≤ id → s.T[(id - 1).toNat]? = some t → t.state ≠ 2) → j40_0 R (pp s.b) (.int .i64 id) (.bool c) w := by
    intro c hc hc'
    unfold j40_0
    refine Bc_b (fun h => ?_) (fun h => ?_)
    · rw [hR]
      exact ⟨⟨0, rfl, fun _ t h1 h2 h3 => absurd h3 (hc' h t h1 h2)⟩, hw⟩
    obtain ⟨h1, h2, t, ht, hst⟩ := hc h
    clear hc hc' h
    obtain ⟨th, hth⟩ := list_get (l := s.th) (j := (id - 1).toNat) (by have := hS.tl; omega)
    have hfs := hne th t hth ht hst
    have htok := hS.tok _ _ hth
    obtain ⟨b1, hix1, hrd1⟩ := hw.thptr hth (q := id - 1) (by omega) rfl
    (repeat with_reducible first | refine qq ?_ | refine qr ?_ | refine qs ?_ | refine hw.l 0 ?_)
    refine O.mk hix1 ?_
    refine O.mk hrd1 ?_
    refine (k67 hP (hw.thout hth) 0 rfl htok hfs).use ?_
    rintro _ w2 ⟨⟨x, rfl, hx⟩, hw2⟩
    obtain ⟨f, g, hA⟩ := hx.at htok
    have hlen := htok.len
    have hlt := hA.lt
    have hli : one x.lv = true := (hP.li g (List.mem_of_getElem? hA.fok.fg) x (List.mem_of_getElem? hA.code)).one
    have huniq : ∀ f' g' x', At p th f' g' x' → f' = f ∧ x' = x := fun f' g' x' h' => by
      have e1 := hA.get.symm.trans h'.get; cases e1
      have e2 := hA.fok.fg.symm.trans h'.fok.fg; cases e2
      have e3 := hA.code.symm.trans h'.code; cases e3
      exact ⟨rfl, rfl⟩
    refine hw2.al fun b6 w3 hb6 hw3 => ?_
    clear hw2
    refine hw3.st_bk (x := .agg (encPI x).toArray) 0 rfl tsz79 (encPI_one hli) (Nat.le_refl 8) fun w4 hw4 => ?_
    clear hw3
    replace hw4 : Own B w4 (bk b6 79 (encPI x) :: threadA p th :: sep ((s.th.eraseIdx (id - 1).toNat).map (threadA p)) :: (mAtoms p s ++ L).eraseIdx 8) := hw4
    have hback : ∀ w', Own B w' (bk b6 79 (encPI x) :: threadA p th :: sep ((s.th.eraseIdx (id - 1).toNat).map (threadA p)) :: (mAtoms p s ++ L).eraseIdx 8) → Own B w' (mAtoms p s ++ L) := fun w' h' => by
      have := Own.thin (L := L) hth rfl h'.tail
      rw [set_id hth] at this
      exact this
    (repeat with_reducible first | refine qq ?_ | refine qr ?_ | refine qs ?_ | refine hw4.l 0 ?_)
    refine Bc_dec (fun hop => ?_) (fun hop => ?_)
    · rw [hR]
      refine ⟨⟨0, rfl, fun _ t' _ _ _ th' f' g' x' y h4 h5 h6 => ?_⟩, hback _ hw4⟩
      rw [hth] at h4; cases h4
      obtain ⟨rfl, rfl⟩ := huniq _ _ _ h5
      exact absurd h6 hop
    have hop : x.op = 29 := by omega
    refine hw4.dr fun w5 hw5 => ?_
    clear hw4
    have hwt := hw5.opn 1 rfl
    obtain ⟨bF, hixF, hrdF, _⟩ := hwt.el 1 rfl encFR_len hA.get
    (repeat with_reducible first | refine qq ?_ | refine qr ?_ | refine qs ?_ | refine hwt.l 0 ?_)
    refine O.mk (hwt.slLen 1 rfl) ?_
    (repeat with_reducible first | refine qq ?_ | refine qr ?_ | refine qs ?_)
    have e1 : ((th.fs.length : Int) - 1).toNat = th.fs.length - 1 := by omega
    refine O.mk (hixF _ _ (by omega) e1) ?_
    (repeat with_reducible first | refine qq ?_ | refine qr ?_ | refine qs ?_)
    rw [e1]
    refine O.mk (hrdF 2 _ rfl) ?_
    have hr := hA.reg hM 0 (by rw [hop]; decide)
    obtain ⟨b2, y, hy, hixr, hrdr⟩ := hw5.reg 1 rfl hA.get hr.1 hr.2
    (repeat with_reducible first | refine qq ?_ | refine qr ?_ | refine qs ?_ | refine hw5.l 0 ?_)
    refine O.mk hixr ?_
    refine O.mk hrdr ?_
    have hw6 := hback _ hw5
    clear hwt hw5 hrdF hrdr
    have J1 : ∀ c, (c = false → ∀ t, 1 ≤ y → s.T[(y - 1).toNat]? = some t → t.kind = 5 → t.state = 3) → (c = true → 1 ≤ y) → j40_1 R (.int .i64 y) (.bool c) w5 := by
      intro c hc hc'
      unfold j40_1
      refine Bc_b (fun h => ?_) (fun h => ?_)
      · rw [hR]
        exact ⟨⟨y, rfl, fun h' => by have := hc' h; omega⟩, hw6⟩
      · rw [hR]
        refine ⟨⟨0, rfl, fun _ t' _ _ _ th' f' g' x' y' h4 h5 h6 h7 => ?_⟩, hw6⟩
        rw [hth] at h4; cases h4
        obtain ⟨rfl, rfl⟩ := huniq _ _ _ h5
        have hyy : f'.regs[x'.a.toNat]? = some y := hy
        rw [hyy] at h7; cases h7
        exact hc h
    (repeat with_reducible first | refine qq ?_ | refine qr ?_ | refine qs ?_)
    refine Bc_dec (fun hy1 => ?_) (fun hy1 => J1 false (fun _ t h => absurd h hy1) (fun h => by cases h))
    (repeat with_reducible first | refine qq ?_ | refine qr ?_ | refine qs ?_ | refine hw6.l 0 ?_)
    refine O.mk (hw6.slLen 6 rfl) ?_
    (repeat with_reducible first | refine qq ?_ | refine qr ?_ | refine qs ?_)
    refine Bc_dec (fun hy2 => ?_) (fun hy2 => J1 false (fun _ t _ h => absurd (list_lt h) (by omega)) (fun h => by cases h))
    obtain ⟨b3, t3, ht3, hix3, hrd3⟩ := hw6.task (id := y) hy1 (by omega)
    (repeat with_reducible first | refine qq ?_ | refine qr ?_ | refine qs ?_ | refine hw6.l 0 ?_)
    refine O.mk hix3 ?_
    (repeat with_reducible first | refine qq ?_ | refine qr ?_ | refine qs ?_)
    refine O.mk (hrd3 0 _ rfl) ?_
    (repeat with_reducible first | refine qq ?_ | refine qr ?_ | refine qs ?_)
    refine Bc_dec (fun hk => ?_) (fun hk => J1 false (fun _ t _ h h' => by rw [ht3] at h; cases h; exact absurd h' hk) (fun h => by cases h))
    (repeat with_reducible first | refine qq ?_ | refine qr ?_ | refine qs ?_ | refine hw6.l 0 ?_)
    refine O.mk hix3 ?_
    (repeat with_reducible first | refine qq ?_ | refine qr ?_ | refine qs ?_)
    refine O.mk (hrd3 11 _ rfl) ?_
    (repeat with_reducible first | refine qq ?_ | refine qr ?_ | refine qs ?_)
    refine J1 _ (fun h t _ h' _ => ?_) (fun _ => hy1)
    rw [ht3] at h'; cases h'
    simpa using h
  refine s40 ?_
  unfold c40
  (repeat with_reducible first | refine qq ?_ | refine qr ?_ | refine qs ?_)
  refine Bc_dec (fun h => J0 true (fun h => by cases h) (fun _ t h' => by omega)) (fun h1 => ?_)
  (repeat with_reducible first | refine qq ?_ | refine qr ?_ | refine qs ?_ | refine hw.l 0 ?_)
  refine O.mk (hw.slLen 6 rfl) ?_
  (repeat with_reducible first | refine qq ?_ | refine qr ?_ | refine qs ?_)
  refine Bc_dec (fun h => J0 true (fun h => by cases h) (fun _ t _ h' => absurd (list_lt h') (by omega))) (fun h2 => ?_)
  obtain ⟨b, t, ht, hix, hrd⟩ := hw.task (id := id) (by omega) (by omega)
  (repeat with_reducible first | refine qq ?_ | refine qr ?_ | refine qs ?_ | refine hw.l 0 ?_)
  refine O.mk hix ?_
  (repeat with_reducible first | refine qq ?_ | refine qr ?_ | refine qs ?_)
  refine O.mk (hrd 11 _ rfl) ?_
  (repeat with_reducible first | refine qq ?_ | refine qr ?_ | refine qs ?_)
  refine J0 _ (fun h => ⟨by omega, by omega, t, ht, by simpa using h⟩) (fun h t' _ h' => ?_)
  rw [ht] at h'; cases h'
  simpa using h
end
end Go.Proofs.Ytedcfkigfcobaaa
end
/- Contracts: a task that follows. -/
section
namespace Go.Proofs.Ytedcfkigfcobaaa
open Go Go.Proofs
attribute [local irreducible] Bc O AL BS MS MM ST AP CV Cl
def PrevTo (T : List TK) (t : TK) (n : Nat) (pr : Int) : Prop := (pr = 0 ∧ ∀ (j : Nat) (u : TK), j < n → T[j]? = some u → ¬ (u.kind = t.kind ∧ u.of_ = t.of_)) ∨
  ∃ k : Nat, pr = k + 1 ∧ k < n ∧ (∃ u, T[k]? = some u ∧ u.kind = t.kind ∧ u.of_ = t.of_) ∧ ∀ (j : Nat) (u : TK), k < j → j < n → T[j]? = some u → ¬ (u.kind = t.kind ∧ u.of_ = t.of_)
section
variable {B : Base} {w : World} {L : List Atom} {p : PP}
theorem PrevTo.old {T : List TK} {t u : TK} {n : Nat} {pr : Int} (h : PrevTo T t n pr) (hu : T[n]? = some u) (hno : ¬ (u.kind = t.kind ∧ u.of_ = t.of_)) : PrevTo T t (n + 1) pr := by
  rcases h with ⟨h1, h2⟩ | ⟨k, h1, h2, h3, h4⟩
  · refine .inl ⟨h1, fun j v hj hv => ?_⟩
    by_cases hjn : j = n
    · subst hjn; rw [hu] at hv; cases hv; exact hno
    · exact h2 j v (by omega) hv
  · refine .inr ⟨k, h1, by omega, h3, fun j v hk hj hv => ?_⟩
    by_cases hjn : j = n
    · subst hjn; rw [hu] at hv; cases hv; exact hno
    · exact h4 j v hk (by omega) hv
theorem PrevTo.new {T : List TK} {t u : TK} {n : Nat} (hu : T[n]? = some u) (hy : u.kind = t.kind ∧ u.of_ = t.of_) : PrevTo T t (n + 1) (n + 1) := by
  exact .inr ⟨n, rfl, by omega, ⟨u, hu, hy⟩, fun j v hk hj hv => by omega⟩
set_option maxHeartbeats 2000000 in
theorem k46 (hP : ProgOK B p) (hM : MayP p) {s : Mc} (hw : Own B w (mAtoms p s ++ L)) (hS : SOK p s) (hT : s.T.length < 250) {t : TK} (hf : Root p t.func) (hpr : t.prev = 0) (hnth : t.nth = 0) (hlo : t.looper < p.nl) (hnow : 0 ≤ s.now ∧ s.now ≤ 1000000000000) (hdel : t.delay = 0)
    (hfresh : ∀ (i j : Nat) q x, s.qs[i]? = some q → q.l[j]? = some x → x.task ≠ s.T.length + 1) :
    Cl Try.prog 46 [pp s.b, .agg (encTK t).toArray] w fun r w' => r = .int .i64 0 ∧ ∃ qs' x tv hv pr nth, PrevTo s.T t s.T.length pr ∧ qs'.map (·.b) = s.qs.map (·.b) ∧ qs'.map (·.l) = addQ s t ∧ TOK p x ∧ x.fs.length = 1 ∧
      Own B w' (mAtoms p { s with qs := qs', tv := tv, T := s.T ++ [newT s { t with nth := nth, prev := pr }], hv := hv, th := s.th ++ [x] } ++ L) := by
  obtain ⟨R, hR⟩ : ∃ R : Value → World → Prop, R = fun r w' => r = .int .i64 0 ∧ ∃ qs' x tv hv pr nth, PrevTo s.T t s.T.length pr ∧ qs'.map (·.b) = s.qs.map (·.b) ∧ qs'.map (·.l) = addQ s t ∧ TOK p x ∧ x.fs.length = 1 ∧
      Own B w' (mAtoms p { s with qs := qs', tv := tv, T := s.T ++ [newT s { t with nth := nth, prev := pr }], hv := hv, th := s.th ++ [x] } ++ L) := ⟨_, rfl⟩
  rw [← hR]
  refine s46 ?_
  unfold c46
  refine hw.al fun b3 w1 hb3 hw1 => ?_
  clear hw
  have e0 : t = { t with nth := ((0 : Nat) : Int), prev := 0 } := by cases t; simp_all
  replace hw1 : Own B w1 (bk b3 73 (encTK { t with nth := ((0 : Nat) : Int), prev := 0 }) :: (mAtoms p s ++ L)) := by rw [← e0]; exact hw1
  obtain ⟨I0, hI⟩ : ∃ I : Value → World → Prop, I = fun v w' => ∃ (i nth : Nat) (pr : Int), v = .int .i64 i ∧ i ≤ s.T.length ∧ nth ≤ i ∧ PrevTo s.T t i pr ∧ Own B w' (bk b3 73 (encTK { t with nth := nth, prev := pr }) :: (mAtoms p s ++ L)) := ⟨_, rfl⟩
  obtain ⟨m0, hm⟩ : ∃ m : Value → World → Nat, m = fun v _ => match v with | .int _ i => (s.T.length - i).toNat | _ => 0 := ⟨_, rfl⟩
  refine ⟨I0, m0, by rw [hI]; exact ⟨0, 0, 0, rfl, by omega, by omega, .inl ⟨rfl, fun j u h => by omega⟩, hw1⟩, ?_⟩
  clear hw1
  intro t5 wh0 h0
  rw [hI] at h0
  obtain ⟨i, nth, pr, rfl, hi, hn, hpv, hw1⟩ := h0
  (repeat with_reducible first | refine qq ?_ | refine qr ?_ | refine qs ?_ | refine hw1.l 0 ?_ | refine hw1.l 1 ?_)
  refine O.mk (hw1.slLen 7 rfl) ?_
  (repeat with_reducible first | refine qq ?_ | refine qr ?_ | refine qs ?_)
  refine Bc_dec (fun hlt => ?_) (fun hge => ?_)
  · obtain ⟨u, hu⟩ := list_get (l := s.T) (j := i) (by omega)
    refine hw1.dr fun w2 hw2 => ?_
    clear hw1
    have J0 : ∀ (n' : Nat) pr' w', n' ≤ i + 1 → PrevTo s.T t (i + 1) pr' → Own B w' (bk b3 73 (encTK { t with nth := n', prev := pr' }) :: (mAtoms p s ++ L)) → j46_0 R (.int .i64 i) I0 m0 wh0 w' := by
      intro n' pr' w' h1 h2 h3
      unfold j46_0
      (repeat with_reducible first | refine qq ?_ | refine qr ?_ | refine qs ?_)
      rw [hI, hm]
      exact ⟨⟨i + 1, n', pr', rfl, by omega, h1, h2, h3⟩, by simp only; omega⟩
    have J1 : ∀ c, (c = true ↔ (u.kind = t.kind ∧ u.of_ = t.of_)) → j46_1 R (.int .i64 i) (pp b3) I0 m0 wh0 (.bool c) w2 := by
      intro c hc
      unfold j46_1
      refine Bc_b (fun h => ?_) (fun h => ?_)
      · (repeat with_reducible first | refine qq ?_ | refine qr ?_ | refine qs ?_)
        refine hw2.st1 0 rfl tsz3 rfl (by show 14 < 15; decide) fun w3 hw3 => ?_
        replace hw3 : Own B w3 (bk b3 73 (encTK { t with nth := nth, prev := (i : Int) + 1 }) :: (mAtoms p s ++ L)) := hw3
        (repeat with_reducible first | refine qq ?_ | refine qr ?_ | refine qs ?_ | refine hw3.l 0 ?_)
        refine O.mk (bi_addb (b := 1) (by omega)) ?_
        (repeat with_reducible first | refine qq ?_ | refine qr ?_ | refine qs ?_)
        refine hw3.st1 0 rfl tsz3 rfl (by show 6 < 15; decide) fun w4 hw4 => ?_
        exact J0 (nth + 1) ((i : Int) + 1) w4 (by omega) (PrevTo.new hu (hc.1 h)) hw4
      · refine J0 nth pr w2 (by omega) (hpv.old hu fun h' => ?_) hw2
        rw [hc.2 h'] at h; cases h
    obtain ⟨b, hix, hrd, _⟩ := hw2.el 7 rfl encTK_len hu
    (repeat with_reducible first | refine qq ?_ | refine qr ?_ | refine qs ?_ | refine hw2.l 0 ?_ | refine hw2.l 1 ?_)
    refine O.mk (hix _ _ (by omega) rfl) ?_
    (repeat with_reducible first | refine qq ?_ | refine qr ?_ | refine qs ?_)
    refine O.mk (hrd 0 _ rfl) ?_
    (repeat with_reducible first | refine qq ?_ | refine qr ?_ | refine qs ?_ | refine hw2.l 0 ?_ | refine hw2.l 1 ?_)
    refine Bc_dec (fun h => ?_) (fun h => J1 false (by simp; intro h'; exact absurd h' h))
    (repeat with_reducible first | refine qq ?_ | refine qr ?_ | refine qs ?_ | refine hw2.l 0 ?_ | refine hw2.l 1 ?_)
    refine O.mk (hix _ _ (by omega) rfl) ?_
    (repeat with_reducible first | refine qq ?_ | refine qr ?_ | refine qs ?_)
    refine O.mk (hrd 1 _ rfl) ?_
    (repeat with_reducible first | refine qq ?_ | refine qr ?_ | refine qs ?_ | refine hw2.l 0 ?_ | refine hw2.l 1 ?_)
    refine J1 _ ?_
    simp only [decide_eq_true_eq]
    exact ⟨fun h' => ⟨h, h'⟩, fun h' => h'.2⟩
  · have : i = s.T.length := by omega
    subst this
    refine O.mk (v := .agg (encTK { t with nth := (nth : Int), prev := pr }).toArray) (hw1.rdN_bk 0 rfl (Nat.le_refl 15)) ?_
    obtain ⟨g, hg⟩ := list_get (l := p.funcs) (j := t.func.toNat) (by have := hf.1; have := hf.2.1; omega)
    have hcap := hf.2.2 g hg
    refine (k20 hP hM (t := { t with nth := (nth : Int), prev := pr }) hw1.tail hS hT hf.1 hg (cs := []) (.inl ⟨rfl, rfl⟩) (by rw [hcap]; rfl) hlo hnow (by simp only; omega) hfresh).use ?_
    rintro _ w2 ⟨rfl, qs', x, tv, hv, h1, h2, h3, h4, hw2⟩
    (repeat with_reducible first | refine qq ?_ | refine qr ?_ | refine qs ?_)
    refine Bc_dec (fun h => by omega) (fun _ => ?_)
    rw [hR]
    exact ⟨rfl, qs', x, tv, hv, pr, nth, hpv, h1, h2, h3, h4, hw2⟩
end
end Go.Proofs.Ytedcfkigfcobaaa
end
/- Contracts: a task is cancelled; a task is made of a closure. -/
section
namespace Go.Proofs.Ytedcfkigfcobaaa
open Go Go.Proofs
attribute [local irreducible] Bc O AL BS MS MM ST AP CV Cl
section
variable {B : Base} {w : World} {L : List Atom} {p : PP}
/-- the queues behind a cancel -/
def CancelQ (Q Q' : List (List QI)) (t : TK) (of_ : Int) : Prop := ∃ (l l' : List QI), Q[t.looper.toNat]? = some l ∧ DropTo l of_ l' ∧ Q' = Q.set t.looper.toNat l'
set_option maxHeartbeats 2000000 in
theorem k92 {s : Mc} (hw : Own B w (mAtoms p s ++ L)) (hS : SOK p s) (hT : s.T.length ≤ 1000) (hM : s.M.length < 2 ^ 20) (id site : Int) {of_ : Int} (h1 : 1 ≤ of_) {t : TK} (ht : s.T[(of_ - 1).toNat]? = some t) (hlo : 0 ≤ t.looper) :
    Cl Try.prog 92 [pp s.b, .int .i64 id, .int .i64 site, .int .i64 of_] w fun r w' => r = .tuple #[] ∧ ∃ s' v, Own B w' (mAtoms p s' ++ L) ∧
      ((t.state ≠ 1 ∧ s' = { s with mv := v, M := s.M ++ [⟨3, id, 0, site, 5, of_, 0, true⟩] }) ∨
        (t.state = 1 ∧ ∃ qs', CancelQ (s.qs.map (·.l)) (qs'.map (·.l)) t of_ ∧ qs'.map (·.b) = s.qs.map (·.b) ∧ s' = { s with mv := v, M := s.M ++ [⟨3, id, 0, site, 5, of_, 0, true⟩], T := s.T.set (of_ - 1).toNat { t with state := 4 }, qs := qs' })) := by
  have hlt := list_lt ht
  have hll := hS.lo _ _ ht
  refine s92 ?_
  unfold c92
  refine (k70 hw (by omega) id site 5 of_ true).use ?_
  clear hw
  rintro _ w2 ⟨rfl, v, hw⟩
  obtain ⟨b, t', ht', hix, hrd⟩ := hw.task (id := of_) h1 (by simp only; omega)
  rw [ht] at ht'; cases ht'
  (repeat with_reducible first | refine qq ?_ | refine qr ?_ | refine qs ?_ | refine hw.l 0 ?_)
  refine O.mk hix ?_
  (repeat with_reducible first | refine qq ?_ | refine qr ?_ | refine qs ?_)
  refine O.mk (hrd 11 _ rfl) ?_
  (repeat with_reducible first | refine qq ?_ | refine qr ?_ | refine qs ?_)
  refine Bc_dec (fun hs => ?_) (fun hs => ⟨rfl, _, v, hw, .inl ⟨hs, rfl⟩⟩)
  (repeat with_reducible first | refine qq ?_ | refine qr ?_ | refine qs ?_ | refine hw.l 0 ?_)
  refine O.mk hix ?_
  (repeat with_reducible first | refine qq ?_ | refine qr ?_ | refine qs ?_)
  refine hw.taskst ht (t' := { t with state := 4 }) (k := 11) (X := .int .i64 4) hix tsz70 rfl (by decide) rfl fun w3 hw3 => ?_
  clear hw hrd hix
  refine hw3.dr fun w4 hw4 => ?_
  clear hw3
  obtain ⟨b, t', ht', hix, hrd⟩ := hw4.task (id := of_) h1 (by simp only [List.length_set]; omega)
  simp only at ht'
  rw [List.getElem?_set_self hlt] at ht'; cases ht'
  obtain ⟨q, hq⟩ := list_get (l := s.qs) (j := t.looper.toNat) (by have := hS.ql; omega)
  obtain ⟨bq, hixq, hrdq, _⟩ := hw4.el 3 (enc := ptrC) (xs := s.qs.map (·.b)) (by simp only [List.length_map]; rfl) ptrC_len (i := t.looper.toNat) (x := q.b) (by simp [hq])
  (repeat with_reducible first | refine qq ?_ | refine qr ?_ | refine qs ?_ | refine hw4.l 0 ?_)
  refine O.mk hix ?_
  (repeat with_reducible first | refine qq ?_ | refine qr ?_ | refine qs ?_)
  refine O.mk (hrd 4 _ rfl) ?_
  refine O.mk (hixq _ _ hlo rfl) ?_
  refine O.mk (hrdq 0 _ rfl) ?_
  have hw5 := hw4.out (i := 4) rfl hq
  have hql := hS.qb _ _ hq
  refine (k68 hw5 0 rfl (by omega) of_).use ?_
  clear hw4 hw5 hrd hrdq
  rintro _ w6 ⟨⟨c, rfl⟩, q', hb', hd, hw6⟩
  refine ⟨rfl, { s with mv := v, M := s.M ++ [⟨3, id, 0, site, 5, of_, 0, true⟩], T := s.T.set (of_ - 1).toNat { t with state := 4 }, qs := s.qs.set t.looper.toNat q' }, v, ?_, .inr ⟨hs, s.qs.set t.looper.toNat q', ⟨q.l, q'.l, by simp [hq], hd, by rw [List.map_set]⟩, map_set_same (f := (·.b)) hb' hq, rfl⟩⟩
  have hw7 := Own.back' (L := mAtoms p { s with mv := v, M := s.M ++ [⟨3, id, 0, site, 5, of_, 0, true⟩], T := s.T.set (of_ - 1).toNat { t with state := 4 } } ++ L) (xs := s.qs) (f := queueA) (x' := q') (list_lt hq) (i := 4) rfl hw6
  unfold mAtoms
  simp only
  rw [map_set_same (f := (·.b)) hb' hq, List.length_set]
  exact hw7
end
end Go.Proofs.Ytedcfkigfcobaaa
end
/- Contracts: a task is made of a closure. -/
section
namespace Go.Proofs.Ytedcfkigfcobaaa
open Go Go.Proofs
attribute [local irreducible] Bc O AL BS MS MM ST AP CV Cl
def madeT (a : AS) (of_ id mark nth : Int) : TK := ⟨if a.op = 28 then 5 else 4, a.site, 0, of_, if a.op = 28 then -1 else a.looper, id, nth, decide (a.op = 24), if a.op = 28 ∨ a.op = 24 then 0 else a.n, 0, 0, 0, 0, mark, 0⟩
theorem fill73 (k s f l i m : Int) : (fillW Try.prog 73 [(0, .int .i64 k), (1, .int .i64 s), (3, .int .i64 f), (4, .int .i64 l), (5, .int .i64 i), (13, .int .i64 m)]).map Value.agg = some (.agg (encTK ⟨k, s, 0, f, l, i, 0, false, 0, 0, 0, 0, 0, m, 0⟩).toArray) := by kernel_rfl
theorem tsz73 : tsz Try.prog 73 = some 15 := by kernel_rfl
theorem tsz69 : tsz Try.prog 69 = some 1 := by kernel_rfl
theorem tsz195 : tsz Try.prog 195 = some 6 := by kernel_rfl
section
variable {B : Base} {w : World} {L : List Atom} {p : PP}
set_option maxHeartbeats 4000000 in
theorem k90 (hP : ProgOK B p) (hMy : MayP p) {s : Mc} (hw : Own B w (mAtoms p s ++ L)) (hS : SOK p s) (hT : s.T.length < 240) (hM : s.M.length < 2 ^ 20) (hnow : 0 ≤ s.now ∧ s.now ≤ 1000000000000)
    (hfresh : ∀ (i j : Nat) q x, s.qs[i]? = some q → q.l[j]? = some x → x.task ≠ s.T.length + 1) {id : Int} (h1 : 1 ≤ id ∧ id ≤ s.T.length) {a : AS} (haone : one a.acc = true) (hlo : a.op ≠ 28 → 0 ≤ a.looper ∧ a.looper < p.nl) (hn : a.op ≠ 28 → a.op ≠ 24 → 0 ≤ a.n ∧ a.n ≤ 1000000) :
    Cl Try.prog 90 [pp s.b, .int .i64 id, .agg (encAS a).toArray] w fun r w' => (r = .tuple #[.bool true, .int .i64 0] ∧ Own B w' (mAtoms p s ++ L)) ∨
      (r = .tuple #[.bool false, .int .i64 0] ∧ ∃ of_ nth qs' x th' tv hv mv, qs'.map (·.b) = s.qs.map (·.b) ∧ qs'.map (·.l) = addQ s (madeT a of_ id s.M.length nth) ∧ TOK p x ∧ x.fs.length = 1 ∧ TOK p th' ∧ (∀ t0, s.th[(id - 1).toNat]? = some t0 → th'.b = t0.b) ∧
        Own B w' (mAtoms p { s with qs := qs', tv := tv, T := s.T ++ [newT s (madeT a of_ id s.M.length nth)], hv := hv, th := (s.th ++ [x]).set (id - 1).toNat th', mv := mv, M := s.M ++ [⟨if a.op = 28 then 5 else 4, id, s.T.length + 1, 0, 0, 0, 0, false⟩] } ++ L)) := by
  obtain ⟨R, hR⟩ : ∃ R : Value → World → Prop, R = fun r w' => (r = .tuple #[.bool true, .int .i64 0] ∧ Own B w' (mAtoms p s ++ L)) ∨
      (r = .tuple #[.bool false, .int .i64 0] ∧ ∃ of_ nth qs' x th' tv hv mv, qs'.map (·.b) = s.qs.map (·.b) ∧ qs'.map (·.l) = addQ s (madeT a of_ id s.M.length nth) ∧ TOK p x ∧ x.fs.length = 1 ∧ TOK p th' ∧ (∀ t0, s.th[(id - 1).toNat]? = some t0 → th'.b = t0.b) ∧
        Own B w' (mAtoms p { s with qs := qs', tv := tv, T := s.T ++ [newT s (madeT a of_ id s.M.length nth)], hv := hv, th := (s.th ++ [x]).set (id - 1).toNat th', mv := mv, M := s.M ++ [⟨if a.op = 28 then 5 else 4, id, s.T.length + 1, 0, 0, 0, 0, false⟩] } ++ L)) := ⟨_, rfl⟩
  rw [← hR]
  have hol := hS.h.len
  refine s90 ?_
  unfold c90
  refine hw.al fun b5 w1 hb5 hw1 => ?_
  clear hw
  replace hw1 : Own B w1 (bk b5 162 (encAS a) :: (mAtoms p s ++ L)) := hw1
  refine hw1.dr fun w2 hw2 => ?_
  clear hw1
  have hno : ∀ (L' : List Atom) w', Own B w' (L' ++ (mAtoms p s ++ L)) → R (.tuple #[.bool true, .int .i64 0]) w' := fun L' w' h => by
    rw [hR]; exact .inl ⟨rfl, h.dropL⟩
  (repeat with_reducible first | refine qq ?_ | refine qr ?_ | refine qs ?_ | refine hw2.l 0 ?_ | refine hw2.l 1 ?_)
  refine (k86' hw2 2 rfl hS.h a.v 4).use ?_
  rintro _ _ ⟨rfl, rfl⟩
  (repeat with_reducible first | refine qq ?_ | refine qr ?_ | refine qs ?_)
  refine Bc_b (fun _ => hno [_] _ hw2) (fun his => ?_)
  have hid : 1 ≤ a.v ∧ a.v ≤ s.h.os.length := Classical.byContradiction fun hn => by rw [isB_no hn] at his; cases his
  obtain ⟨o, ho⟩ := list_get (l := s.h.os) (j := (a.v - 1).toNat) (by omega)
  refine hw2.dr fun w3 hw3 => ?_
  clear hw2
  have hwh := hw3.opn 2 rfl
  obtain ⟨bo, hixo, hrdo, hrdoN⟩ := hwh.el 1 rfl encHO_len ho
  have hoone : one o.vv = true := sl_one (hw3.hout 2 rfl ho) 0 rfl
  (repeat with_reducible first | refine qq ?_ | refine qr ?_ | refine qs ?_ | refine hw3.l 0 ?_ | refine hw3.l 1 ?_)
  (repeat with_reducible first | refine qq ?_ | refine qr ?_ | refine qs ?_ | refine hwh.l 0 ?_)
  (repeat with_reducible first | refine qq ?_ | refine qr ?_ | refine qs ?_ | refine hw3.l 0 ?_ | refine hw3.l 1 ?_)
  refine O.mk (hixo _ _ (by omega) rfl) ?_
  refine O.mk hrdoN ?_
  refine hw3.al fun b8 w4 hb8 hw4 => ?_
  clear hw3 hwh hrdo hrdoN
  refine hw4.st_bk (x := .agg (encHO o).toArray) 0 rfl tsz195 (encHO_one hoone) (Nat.le_refl 6) fun w5 hw5 => ?_
  clear hw4
  replace hw5 : Own B w5 (bk b8 195 (encHO o) :: bk b5 162 (encAS a) :: (mAtoms p s ++ L)) := hw5
  refine hw5.dr fun w6 hw6 => ?_
  clear hw5
  have J0 : ∀ c, (c = false → 0 ≤ o.of ∧ ∃ g, p.funcs[o.of.toNat]? = some g ∧ (o.vals.length : Int) = g.caps) → j90_0 R (pp b5) (pp b8) (pp s.b) (.int .i64 id) (.bool c) w6 := by
    intro c hc
    unfold j90_0
    refine Bc_b (fun _ => hno [_, _] _ hw6) (fun hh => ?_)
    obtain ⟨hof, g, hg, hcaps⟩ := hc hh
    refine hw6.dr fun w7 hw7 => ?_
    clear hw6
    (repeat with_reducible first | refine qq ?_ | refine qr ?_ | refine qs ?_ | refine hw7.l 0 ?_ | refine hw7.l 1 ?_ | refine hw7.l 2 ?_)
    refine O.mk (hw7.slLen 13 rfl) ?_
    refine O.mk (fill73 _ _ _ _ _ _) ?_
    refine hw7.al fun b9 w8 hb9 hw8 => ?_
    clear hw7
    refine hw8.st_bk (x := .agg (encTK ⟨4, a.site, 0, o.of, a.looper, id, 0, false, 0, 0, 0, 0, 0, s.M.length, 0⟩).toArray) 0 rfl tsz73 rfl (Nat.le_refl 15) fun w9 hw9 => ?_
    clear hw8
    replace hw9 : Own B w9 (bk b9 73 (encTK ⟨4, a.site, 0, o.of, a.looper, id, 0, false, 0, 0, 0, 0, 0, s.M.length, 0⟩) :: bk b8 195 (encHO o) :: bk b5 162 (encAS a) :: (mAtoms p s ++ L)) := hw9
    have J1 : ∀ w', Own B w' (bk b9 73 (encTK (madeT a o.of id s.M.length 0)) :: bk b8 195 (encHO o) :: bk b5 162 (encAS a) :: (mAtoms p s ++ L)) → j90_1 R (pp s.b) (.int .i64 id) (pp b9) (pp b8) (.int .i64 (if a.op = 28 then 5 else 4)) w' := by
      intro w' hw1
      unfold j90_1
      obtain ⟨I0, hI⟩ : ∃ I : Value → World → Prop, I = fun v w' => ∃ (i nth : Nat), v = .int .i64 i ∧ i ≤ s.T.length ∧ nth ≤ i ∧ Own B w' (bk b9 73 (encTK (madeT a o.of id s.M.length nth)) :: bk b8 195 (encHO o) :: bk b5 162 (encAS a) :: (mAtoms p s ++ L)) := ⟨_, rfl⟩
      obtain ⟨m0, hm⟩ : ∃ m : Value → World → Nat, m = fun v _ => match v with | .int _ i => (s.T.length - i).toNat | _ => 0 := ⟨_, rfl⟩
      refine ⟨I0, m0, by rw [hI]; exact ⟨0, 0, rfl, by omega, by omega, hw1⟩, ?_⟩
      clear hw1
      intro t11 wh0 h0
      rw [hI] at h0
      obtain ⟨i, nth, rfl, hi, hnn, hw1⟩ := h0
      (repeat with_reducible first | refine qq ?_ | refine qr ?_ | refine qs ?_ | refine hw1.l 0 ?_ | refine hw1.l 1 ?_ | refine hw1.l 2 ?_ | refine hw1.l 3 ?_)
      refine O.mk (hw1.slLen 9 rfl) ?_
      (repeat with_reducible first | refine qq ?_ | refine qr ?_ | refine qs ?_)
      refine Bc_dec (fun hlt => ?_) (fun hge => ?_)
      · have J2 : ∀ (n' : Nat) w', n' ≤ i + 1 → Own B w' (bk b9 73 (encTK (madeT a o.of id s.M.length n')) :: bk b8 195 (encHO o) :: bk b5 162 (encAS a) :: (mAtoms p s ++ L)) → j90_2 R (.int .i64 i) I0 m0 wh0 w' := by
          intro n' w' h1 h3
          unfold j90_2
          (repeat with_reducible first | refine qq ?_ | refine qr ?_ | refine qs ?_)
          rw [hI, hm]
          exact ⟨⟨i + 1, n', rfl, by omega, h1, h3⟩, by simp only; omega⟩
        obtain ⟨u, hu⟩ := list_get (l := s.T) (j := i) (by omega)
        obtain ⟨b, hix, hrd, _⟩ := hw1.el 9 rfl encTK_len hu
        (repeat with_reducible first | refine qq ?_ | refine qr ?_ | refine qs ?_ | refine hw1.l 0 ?_ | refine hw1.l 1 ?_ | refine hw1.l 2 ?_ | refine hw1.l 3 ?_)
        refine O.mk (hix _ _ (by omega) rfl) ?_
        (repeat with_reducible first | refine qq ?_ | refine qr ?_ | refine qs ?_)
        refine O.mk (hrd 5 _ rfl) ?_
        (repeat with_reducible first | refine qq ?_ | refine qr ?_ | refine qs ?_)
        refine Bc_dec (fun h => ?_) (fun h => J2 nth wh0 (by omega) hw1)
        (repeat with_reducible first | refine qq ?_ | refine qr ?_ | refine qs ?_ | refine hw1.l 0 ?_)
        refine O.mk (bi_addb (a := nth) (b := 1) (by omega)) ?_
        (repeat with_reducible first | refine qq ?_ | refine qr ?_ | refine qs ?_)
        refine hw1.st1 0 rfl tsz3 rfl (by show 6 < 15; decide) fun w2 hw2 => ?_
        exact J2 (nth + 1) w2 (by omega) hw2
      · refine O.mk (v := .agg (encTK (madeT a o.of id s.M.length nth)).toArray) (hw1.rdN_bk 0 rfl (Nat.le_refl 15)) ?_
        (repeat with_reducible first | refine qq ?_ | refine qr ?_ | refine qs ?_ | refine hw1.l 1 ?_)
        refine (k20 hP hMy (t := madeT a o.of id s.M.length nth) hw1.tail.tail.tail hS (by omega) hof hg (cv := o.vv) (cs := o.vals) (.inr ⟨_, o, ho, rfl, rfl⟩) hcaps ?_ hnow ?_ hfresh).use ?_
        · show (if a.op = 28 then (-1 : Int) else a.looper) < p.nl
          by_cases h : a.op = 28
          · rw [if_pos h]; omega
          · rw [if_neg h]; exact (hlo h).2
        · show 0 ≤ (if a.op = 28 ∨ a.op = 24 then (0 : Int) else a.n) ∧ (if a.op = 28 ∨ a.op = 24 then (0 : Int) else a.n) ≤ 1000000
          by_cases h : a.op = 28 ∨ a.op = 24
          · rw [if_pos h]; omega
          · rw [if_neg h]; exact hn (fun h' => h (.inl h')) (fun h' => h (.inr h'))
        clear hw1
        rintro _ w2 ⟨rfl, qs', x, tv, hv, e1, e2, e3, e4, hw2⟩
        (repeat with_reducible first | refine qq ?_ | refine qr ?_ | refine qs ?_)
        refine Bc_dec (fun h => by omega) (fun _ => ?_)
        refine (k69 hw2 (by simp only; omega) (if a.op = 28 then 5 else 4) id (s.T.length + 1)).use ?_
        clear hw2
        rintro _ w3 ⟨rfl, mv, hw3⟩
        obtain ⟨th, hth⟩ := list_get (l := s.th ++ [x]) (j := (id - 1).toNat) (by simp; have := hS.tl; omega)
        have hthok : TOK p th := by
          rw [List.getElem?_append_left (by have := hS.tl; omega)] at hth
          exact hS.tok _ _ hth
        obtain ⟨bt, hixt, hrdt⟩ := hw3.thptr hth (q := id - 1) (by omega) rfl
        (repeat with_reducible first | refine qq ?_ | refine qr ?_ | refine qs ?_ | refine hw3.l 0 ?_)
        refine O.mk hixt ?_
        refine O.mk hrdt ?_
        refine (k94 hP hMy hthok (hw3.thout hth) 0 rfl (s.T.length + 1)).use ?_
        rintro _ w4 ⟨⟨e, rfl⟩, th', hb', ht', hw4⟩
        have hw5 := Own.thin (L := L) hth hb' hw4
        rw [hR]
        exact .inr ⟨rfl, o.of, nth, qs', x, th', tv, hv, mv, e1, e2, e3, e4, ht', fun t0 h0 => by rw [List.getElem?_append_left (by have := hS.tl; omega), h0] at hth; cases hth; exact hb', hw5⟩
    (repeat with_reducible first | refine qq ?_ | refine qr ?_ | refine qs ?_ | refine hw9.l 0 ?_ | refine hw9.l 1 ?_ | refine hw9.l 2 ?_)
    refine Bc_dec (fun h28 => ?_) (fun h28 => ?_)
    · (repeat with_reducible first | refine qq ?_ | refine qr ?_ | refine qs ?_)
      refine hw9.st1 0 rfl tsz69 rfl (by show 0 < 15; decide) fun w10 hw10 => ?_
      clear hw9
      (repeat with_reducible first | refine qq ?_ | refine qr ?_ | refine qs ?_)
      refine hw10.st1 0 rfl tsz3 rfl (by show 4 < 15; decide) fun w11 hw11 => ?_
      have e1 : madeT a o.of id s.M.length 0 = ⟨5, a.site, 0, o.of, -1, id, 0, false, 0, 0, 0, 0, 0, s.M.length, 0⟩ := by unfold madeT; simp [h28]
      have hJ := J1 w11 (by rw [e1]; exact hw11)
      rw [if_pos h28] at hJ
      exact hJ
    · (repeat with_reducible first | refine qq ?_ | refine qr ?_ | refine qs ?_)
      refine Bc_dec (fun h24 => ?_) (fun h24 => ?_)
      · (repeat with_reducible first | refine qq ?_ | refine qr ?_ | refine qs ?_)
        refine hw9.st1 0 rfl tsz4 rfl (by show 7 < 15; decide) fun w10 hw10 => ?_
        have e1 : madeT a o.of id s.M.length 0 = ⟨4, a.site, 0, o.of, a.looper, id, 0, true, 0, 0, 0, 0, 0, s.M.length, 0⟩ := by unfold madeT; simp [h24]
        have hJ := J1 w10 (by rw [e1]; exact hw10)
        rw [if_neg h28] at hJ
        exact hJ
      · (repeat with_reducible first | refine qq ?_ | refine qr ?_ | refine qs ?_ | refine hw9.l 0 ?_ | refine hw9.l 1 ?_ | refine hw9.l 2 ?_)
        refine hw9.st1 0 rfl tsz2 rfl (by show 8 < 15; decide) fun w10 hw10 => ?_
        have e1 : madeT a o.of id s.M.length 0 = ⟨4, a.site, 0, o.of, a.looper, id, 0, false, a.n, 0, 0, 0, 0, s.M.length, 0⟩ := by unfold madeT; simp [h24, h28]
        have hJ := J1 w10 (by rw [e1]; exact hw10)
        rw [if_neg h28] at hJ
        exact hJ
  (repeat with_reducible first | refine qq ?_ | refine qr ?_ | refine qs ?_ | refine hw6.l 0 ?_ | refine hw6.l 1 ?_ | refine hw6.l 2 ?_)
  refine Bc_dec (fun _ => J0 true (fun h => by cases h)) (fun hof => ?_)
  (repeat with_reducible first | refine qq ?_ | refine qr ?_ | refine qs ?_ | refine hw6.l 0 ?_ | refine hw6.l 1 ?_ | refine hw6.l 2 ?_)
  refine O.mk hP.fn.len ?_
  (repeat with_reducible first | refine qq ?_ | refine qr ?_ | refine qs ?_)
  refine Bc_dec (fun _ => J0 true (fun h => by cases h)) (fun hof2 => ?_)
  obtain ⟨g, hg⟩ := list_get (l := p.funcs) (j := o.of.toNat) (by omega)
  obtain ⟨bg, og, hixg, hrdg, _⟩ := hP.fn.at_ (by omega) encPF_len hg
  (repeat with_reducible first | refine qq ?_ | refine qr ?_ | refine qs ?_ | refine hw6.l 0 ?_ | refine hw6.l 1 ?_ | refine hw6.l 2 ?_)
  refine O.mk ((hw6.hout 3 rfl ho).slLen 0 rfl) ?_
  (repeat with_reducible first | refine qq ?_ | refine qr ?_ | refine qs ?_ | refine hw6.l 0 ?_ | refine hw6.l 1 ?_ | refine hw6.l 2 ?_)
  refine O.mk (hixg _ _ (by omega) rfl) ?_
  (repeat with_reducible first | refine qq ?_ | refine qr ?_ | refine qs ?_)
  refine O.mk (hrdg _ _ hw6 1 _ rfl) ?_
  (repeat with_reducible first | refine qq ?_ | refine qr ?_ | refine qs ?_)
  exact J0 _ (fun h => ⟨by omega, g, hg, by simpa using h⟩)
end
end Go.Proofs.Ytedcfkigfcobaaa
end
/- Contracts: a deed. -/
section
namespace Go.Proofs.Ytedcfkigfcobaaa
open Go Go.Proofs
attribute [local irreducible] Bc O AL BS MS MM ST AP CV Cl
section
variable {B : Base} {w : World} {L : List Atom} {p : PP}
theorem k94m (hP : ProgOK B p) (hMy : MayP p) {s : Mc} (hw : Own B w (mAtoms p s ++ L)) {k : Nat} {th : TH} (hth : s.th[k]? = some th) (hok : TOK p th) (n : Int) :
    Cl Try.prog 94 [pp th.b, .int .i64 n] w fun v w' => (∃ e : Int, v = .int .i64 e) ∧ ∃ th', th'.b = th.b ∧ TOK p th' ∧ Own B w' (mAtoms p { s with th := s.th.set k th' } ++ L) := by
  refine (k94 hP hMy hok (hw.thout hth) 0 rfl n).use ?_
  rintro v w4 ⟨he, th', hb', ht', hw4⟩
  exact ⟨he, th', hb', ht', Own.thin (L := L) hth hb' hw4⟩
end
/-- what the pure laws look at -/
structure CS where
  T : List TK
  M : List MK
  Q : List (List QI)
  runs : List Int
  on : List Int
  now : Int
def Mc.core (s : Mc) : CS := ⟨s.T, s.M, s.qs.map (·.l), s.runs, s.on, s.now⟩
/-- a deed, as the pure laws see it -/
def DeedC (p : PP) (c : CS) (id : Int) (c' : CS) : Prop :=
  c' = c ∨ (∃ m : MK, m.kind = 3 ∧ m.task = id ∧ c' = { c with M := c.M ++ [m] }) ∨
  (∃ (m : MK) (of_ : Int) (t : TK) (Q' : List (List QI)), m.kind = 3 ∧ m.task = id ∧ 1 ≤ of_ ∧ c.T[(of_ - 1).toNat]? = some t ∧ t.kind = 4 ∧ t.state = 1 ∧ CancelQ c.Q Q' t of_ ∧ c' = { c with M := c.M ++ [m], T := c.T.set (of_ - 1).toNat { t with state := 4 }, Q := Q' }) ∨
  (∃ (m : MK) (e : Int), m.kind = 3 ∧ m.task = id ∧ 0 ≤ e ∧ e < p.events.length ∧ c' = { c with M := c.M ++ [m] ++ [⟨7, id, e, 0, 0, 0, 0, false⟩], on := c.on.set e.toNat (c.M.length + 1) }) ∨
  (∃ (of_ : Int) (t : TK), 1 ≤ of_ ∧ c.T[(of_ - 1).toNat]? = some t ∧ t.kind = 5 ∧ t.state = 3 ∧ c' = { c with M := c.M ++ [⟨6, id, of_, 0, 0, 0, 0, false⟩] }) ∨
  (∃ (a : AS) (of_ nth : Int) (Q' : List (List QI)), (a.op ≠ 28 → 0 ≤ a.looper ∧ a.looper < p.nl) ∧ (a.op ≠ 28 → a.op ≠ 24 → 0 ≤ a.n ∧ a.n ≤ 1000000) ∧
    Q' = (if 0 ≤ (madeT a of_ id c.M.length nth).looper then c.Q.modify (madeT a of_ id c.M.length nth).looper.toNat (· ++ [⟨c.T.length + 1, (madeT a of_ id c.M.length nth).front, c.now + (madeT a of_ id c.M.length nth).delay⟩]) else c.Q) ∧
    c' = { c with T := c.T ++ [{ madeT a of_ id c.M.length nth with state := 1, due := c.now + (madeT a of_ id c.M.length nth).delay }], Q := Q', M := c.M ++ [⟨if a.op = 28 then 5 else 4, id, c.T.length + 1, 0, 0, 0, 0, false⟩] })
end Go.Proofs.Ytedcfkigfcobaaa
end
/- A machine's parts stay as they should. -/
section
namespace Go.Proofs.Ytedcfkigfcobaaa
open Go Go.Proofs
attribute [local irreducible] Bc O AL BS MS MM ST AP CV Cl
section
variable {p : PP}
theorem SOK.marks {s : Mc} (h : SOK p s) {v : Value} {M : List MK} : SOK p { s with mv := v, M := M } := ⟨h.h, h.ql, h.rl, h.tl, h.gl, h.ol, h.tok, h.lo, h.log, h.qb⟩
theorem SOK.thset {s : Mc} (h : SOK p s) {k : Nat} {t : TH} (ht : TOK p t) : SOK p { s with th := s.th.set k t } := by
  refine ⟨h.h, h.ql, h.rl, by simpa using h.tl, h.gl, h.ol, fun i u hu => ?_, h.lo, h.log, h.qb⟩
  simp only at hu
  rw [List.getElem?_set] at hu
  by_cases hki : k = i
  · rw [if_pos hki] at hu
    split at hu
    · cases hu; exact ht
    · cases hu
  · rw [if_neg hki] at hu
    exact h.tok i u hu
theorem SOK.globals {s : Mc} (h : SOK p s) {g : List Int} (hg : g.length = s.g.length) : SOK p { s with g := g } := ⟨h.h, h.ql, h.rl, h.tl, by rw [← h.gl]; exact hg, h.ol, h.tok, h.lo, h.log, h.qb⟩
theorem SOK.ons {s : Mc} (h : SOK p s) {o : List Int} (ho : o.length = s.on.length) : SOK p { s with on := o } := ⟨h.h, h.ql, h.rl, h.tl, h.gl, by rw [← h.ol]; exact ho, h.tok, h.lo, h.log, h.qb⟩
theorem SOK.lives {s : Mc} (h : SOK p s) {v : VS} : SOK p { s with v := v } := ⟨h.h, h.ql, h.rl, h.tl, h.gl, h.ol, h.tok, h.lo, h.log, h.qb⟩
theorem SOK.heap {s : Mc} (h : SOK p s) {v : HS} (hv : HOK v) : SOK p { s with h := v } := ⟨hv, h.ql, h.rl, h.tl, h.gl, h.ol, h.tok, h.lo, h.log, h.qb⟩
theorem SOK.flags {s : Mc} (h : SOK p s) {n st : Int} {f : Bool} : SOK p { s with now := n, steps := st, full := f } := ⟨h.h, h.ql, h.rl, h.tl, h.gl, h.ol, h.tok, h.lo, h.log, h.qb⟩
theorem SOK.logged {s : Mc} (h : SOK p s) {v : Value} {l : List Int} (hl : l.length ≤ 1024) : SOK p { s with lv := v, log := l } := ⟨h.h, h.ql, h.rl, h.tl, h.gl, h.ol, h.tok, h.lo, hl, h.qb⟩
theorem SOK.taskset {s : Mc} (h : SOK p s) {k : Nat} {t t' : TK} (ht : s.T[k]? = some t) (hl : t'.looper = t.looper) : SOK p { s with T := s.T.set k t' } := by
  refine ⟨h.h, h.ql, h.rl, by simpa using h.tl, h.gl, h.ol, h.tok, fun i u hu => ?_, h.log, fun i q hq => by simpa using h.qb i q hq⟩
  simp only at hu
  rw [List.getElem?_set] at hu
  by_cases hki : k = i
  · rw [if_pos hki] at hu
    split at hu
    · cases hu; rw [hl]; exact h.lo k t ht
    · cases hu
  · rw [if_neg hki] at hu
    exact h.lo i u hu
end
end Go.Proofs.Ytedcfkigfcobaaa
end
/- Contracts: a deed. -/
section
namespace Go.Proofs.Ytedcfkigfcobaaa
open Go Go.Proofs
attribute [local irreducible] Bc O AL BS MS MM ST AP CV Cl
def ThKeep (s s' : Mc) (id : Int) : Prop := (∀ (k : Nat) (t : TH), k ≠ (id - 1).toNat → s.th[k]? = some t → s'.th[k]? = some t) ∧ ∀ (k : Nat) (t : TH), s.th.length ≤ k → s'.th[k]? = some t → t.fs ≠ []
theorem ThKeep.set {s : Mc} {id : Int} {t : TH} (s' : Mc) (hs : s'.th = s.th.set (id - 1).toNat t) : ThKeep s s' id := by
  refine ⟨fun k u hk hu => ?_, fun k u hk hu => ?_⟩
  · rw [hs, List.getElem?_set_ne (Ne.symm hk)]; exact hu
  · have := list_lt hu
    rw [hs, List.length_set] at this
    omega
theorem ThKeep.same {s : Mc} {id : Int} (s' : Mc) (hs : s'.th = s.th) : ThKeep s s' id := by
  refine ⟨fun k u hk hu => by rw [hs]; exact hu, fun k u hk hu => ?_⟩
  have := list_lt hu
  rw [hs] at this
  omega
theorem newMk (s : Mc) (t : TK) : (newT s t).looper = t.looper := rfl
theorem SOK.add {p : PP} {s : Mc} (h : SOK p s) {t : TK} {qs' : List QS} {x : TH} {tv hv : Value} (e1 : qs'.map (·.b) = s.qs.map (·.b)) (e2 : qs'.map (·.l) = addQ s t) (hx : TOK p x) (hlo : t.looper < p.nl) :
    SOK p { s with qs := qs', tv := tv, T := s.T ++ [newT s t], hv := hv, th := s.th ++ [x] } := by
  refine ⟨h.h, ?_, h.rl, ?_, h.gl, h.ol, fun i u hu => ?_, fun i u hu => ?_, h.log, fun i q hq => ?_⟩
  · have := congrArg List.length e1
    simp only [List.length_map] at this
    show qs'.length = p.nl
    rw [this, h.ql]
  · show (s.th ++ [x]).length = (s.T ++ [newT s t]).length
    rw [List.length_append, List.length_append, h.tl]; rfl
  · simp only at hu
    by_cases hi : i < s.th.length
    · rw [List.getElem?_append_left hi] at hu; exact h.tok i u hu
    · rw [List.getElem?_append_right (by omega)] at hu
      rcases hk : i - s.th.length with _ | k
      · rw [hk] at hu; cases hu; exact hx
      · rw [hk] at hu; cases hu
  · simp only at hu
    by_cases hi : i < s.T.length
    · rw [List.getElem?_append_left hi] at hu; exact h.lo i u hu
    · rw [List.getElem?_append_right (by omega)] at hu
      rcases hk : i - s.T.length with _ | k
      · rw [hk] at hu; cases hu; exact hlo
      · rw [hk] at hu; cases hu
  · simp only at hq
    have e3 : (qs'.map (·.l))[i]? = some q.l := by rw [List.getElem?_map, hq]; rfl
    rw [e2] at e3
    unfold addQ at e3
    show q.l.length ≤ (s.T ++ [newT s t]).length
    rw [List.length_append]
    have hb : ∀ l, (s.qs.map (·.l))[i]? = some l → l.length ≤ s.T.length := fun l hl => by
      rw [List.getElem?_map] at hl
      rcases hq' : s.qs[i]? with _ | q'
      · rw [hq'] at hl; cases hl
      · rw [hq'] at hl; cases hl; exact h.qb i q' hq'
    split at e3
    · rw [List.getElem?_modify] at e3
      rcases hl : (s.qs.map (·.l))[i]? with _ | l
      · rw [hl] at e3; cases e3
      · rw [hl] at e3
        have := hb l hl
        have e4 := Option.some.inj e3
        rw [← e4]
        split <;> simp <;> omega
    · have := hb _ e3
      omega
theorem DropTo.len {l l' : List QI} {t : Int} (h : DropTo l t l') : l'.length ≤ l.length := by
  rcases h with ⟨rfl, _⟩ | ⟨n, _, _, rfl⟩
  · exact Nat.le_refl _
  · rw [List.length_eraseIdx]; split <;> omega
theorem SOK.queues {p : PP} {s : Mc} (h : SOK p s) {qs' : List QS} (hl : qs'.length = s.qs.length) (hq : ∀ (i : Nat) (q : QS), qs'[i]? = some q → q.l.length ≤ s.T.length) : SOK p { s with qs := qs' } := ⟨h.h, hl.trans h.ql, h.rl, h.tl, h.gl, h.ol, h.tok, h.lo, h.log, hq⟩
theorem SOK.cancel {p : PP} {s : Mc} (h : SOK p s) {qs' : List QS} {t : TK} {of_ : Int} (hc : CancelQ (s.qs.map (·.l)) (qs'.map (·.l)) t of_) (hb : qs'.map (·.b) = s.qs.map (·.b)) : SOK p { s with qs := qs' } := by
  refine h.queues ?_ fun i q hq => ?_
  · have := congrArg List.length hb
    simpa using this
  · obtain ⟨l, l', h1, h2, h3⟩ := hc
    have e3 : (qs'.map (·.l))[i]? = some q.l := by rw [List.getElem?_map, hq]; rfl
    rw [h3, List.getElem?_set] at e3
    have hb : ∀ (i : Nat) l, (s.qs.map (·.l))[i]? = some l → l.length ≤ s.T.length := fun i l hl => by
      rw [List.getElem?_map] at hl
      rcases hq' : s.qs[i]? with _ | q'
      · rw [hq'] at hl; cases hl
      · rw [hq'] at hl; cases hl; exact h.qb i q' hq'
    split at e3
    · split at e3
      · cases e3
        have := hb _ _ h1
        have := h2.len
        omega
      · cases e3
    · exact hb _ _ e3
theorem ThKeep.made {s : Mc} {id : Int} {x t : TH} (s' : Mc) (h1 : 1 ≤ id ∧ id ≤ s.th.length) (hx : x.fs.length = 1) (hs : s'.th = (s.th ++ [x]).set (id - 1).toNat t) : ThKeep s s' id := by
  refine ⟨fun k u hk hu => ?_, fun k u hk hu => ?_⟩
  · rw [hs, List.getElem?_set_ne (Ne.symm hk), List.getElem?_append_left (list_lt hu)]; exact hu
  · rw [hs, List.getElem?_set_ne (by omega), List.getElem?_append_right hk] at hu
    rcases hj : k - s.th.length with _ | j
    · rw [hj] at hu; cases hu
      intro h0
      rw [h0] at hx
      cases hx
    · rw [hj] at hu; cases hu
section
variable {B : Base} {w : World} {L : List Atom} {p : PP}
/-- what a deed leaves -/
structure Deed (p : PP) (s : Mc) (id : Int) (tb : Nat) (s' : Mc) : Prop where
  b : s'.b = s.b
  h : s'.h = s.h
  steps : s'.steps = s.steps
  ok : SOK p s'
  core : DeedC p s.core id s'.core
  keep : ThKeep s s' id
  own : ∃ t', s'.th[(id - 1).toNat]? = some t' ∧ t'.b = tb
set_option maxHeartbeats 4000000 in
theorem k72 (hP : ProgOK B p) (hMy : MayP p) {s : Mc} (hw : Own B w (mAtoms p s ++ L)) (hS : SOK p s) (hT : s.T.length < 240) (hM : s.M.length < 2 ^ 19) (hnow : 0 ≤ s.now ∧ s.now ≤ 1000000000000)
    (hfresh : ∀ (i j : Nat) q x, s.qs[i]? = some q → q.l[j]? = some x → x.task ≠ s.T.length + 1) (hpost : ∀ (i : Nat) (t : TK), s.T[i]? = some t → t.kind = 4 → 0 ≤ t.looper) {id : Int} (h1 : 1 ≤ id ∧ id ≤ s.T.length) {th : TH} (hth : s.th[(id - 1).toNat]? = some th)
    {f : FR} {g : PF} {x : PI} (hA : At p th f g x) (hop : sharedB x.op = true) {a : AS} (ha : AskOK x f.regs a) (hj : JoinFree p s id) :
    Cl Try.prog 72 [pp s.b, .int .i64 id, .agg (encAS a).toArray] w fun r w' => ∃ (c : Bool) (e : Int) (s' : Mc), r = .tuple #[.bool c, .int .i64 e] ∧ (e = 0 ∧ s'.full = s.full ∨ e ≠ 0 ∧ s'.full = true) ∧ Deed p s id th.b s' ∧ Own B w' (mAtoms p s' ++ L) := by
  obtain ⟨R, hR⟩ : ∃ R : Value → World → Prop, R = fun r w' => ∃ (c : Bool) (e : Int) (s' : Mc), r = .tuple #[.bool c, .int .i64 e] ∧ (e = 0 ∧ s'.full = s.full ∨ e ≠ 0 ∧ s'.full = true) ∧ Deed p s id th.b s' ∧ Own B w' (mAtoms p s' ++ L) := ⟨_, rfl⟩
  rw [← hR]
  have hval := hA.valid hMy
  have hacc : one a.acc = true := by rw [ha.acc]; rfl
  have hn := ha.n
  have hao := ha.op
  have hopv : x.op = 9 ∨ x.op = 10 ∨ (23 ≤ x.op ∧ x.op ≤ 30) := by simpa [sharedB] using hop
  have htlen := hS.tl
  have hthok : TOK p th := hA.ok
  refine s72 ?_
  unfold c72
  refine hw.al fun b5 w1 hb5 hw1' => ?_
  clear hw
  obtain ⟨L5, hL5⟩ : ∃ L5, L5 = bk b5 162 (encAS a) :: L := ⟨_, rfl⟩
  have hw1 : Own B w1 (mAtoms p s ++ L5) := by rw [hL5]; exact hw1'.perm List.perm_middle.symm
  clear hw1'
  have hback : ∀ {s' : Mc} {w'}, Own B w' (mAtoms p s' ++ L5) → Own B w' (mAtoms p s' ++ L) := fun {s' w'} h => by
    rw [hL5] at h
    exact (h.perm List.perm_middle).tail
  have h13 : ∀ s' : Mc, (mAtoms p s' ++ L5)[13]? = some (bk b5 162 (encAS a)) := fun s' => by rw [hL5]; rfl
  have ask : ∀ {s' : Mc} {w'}, Own B w' (mAtoms p s' ++ L5) → ∀ k y, (encAS a)[k]? = some y → rd1 (.pointer (some ⟨b5, k, none⟩)) w' = some y := fun {s' w'} h k y hy => h.rd1_bk 13 (h13 s') hy
  clear hL5
  obtain ⟨bt, hixt, hrdt⟩ := hw1.thptr hth (q := id - 1) (by omega) rfl
  (repeat with_reducible first | refine qq ?_ | refine qr ?_ | refine qs ?_ | refine hw1.l 0 ?_)
  refine O.mk hixt ?_
  refine O.mk hrdt ?_
  (repeat with_reducible first | refine qq ?_ | refine qr ?_ | refine qs ?_)
  refine O.mk (ask hw1 0 _ rfl) ?_
  clear hixt hrdt
  have hno : ∀ w', Own B w' (mAtoms p s ++ L5) → R (.tuple #[.bool true, .int .i64 0]) w' := fun w' hw' => by
    rw [hR]
    exact ⟨true, 0, s, rfl, .inl ⟨rfl, rfl⟩, ⟨rfl, rfl, rfl, hS, .inl rfl, ThKeep.same s rfl, th, hth, rfl⟩, hback hw'⟩
  have JD : ∀ (s1 : Mc) (v : Int) w2, s1.b = s.b → s1.h = s.h → s1.steps = s.steps → s1.full = s.full → s1.th = s.th → SOK p s1 → DeedC p s.core id s1.core → Own B w2 (mAtoms p s1 ++ L5) → j72_0 R (pp th.b) (.int .i64 v) w2 := by
    intro s1 v w2 e1 e2 e3 e4 e5 e6 e7 hw2
    unfold j72_0
    have hth1 : s1.th[(id - 1).toNat]? = some th := by rw [e5]; exact hth
    refine (k94m hP hMy hw2 hth1 hthok v).use ?_
    rintro _ w3 ⟨_, th', hb', ht', hw3⟩
    rw [hR]
    refine ⟨false, 0, { s1 with th := s1.th.set (id - 1).toNat th' }, rfl, .inl ⟨rfl, e4⟩, ⟨e1, e2, e3, e6.thset ht', e7, ThKeep.set (t := th') _ (by simp only [e5]), th', ?_, hb'⟩, hback hw3⟩
    simp only
    rw [List.getElem?_set_self (list_lt hth1)]
  have J2 : (x.op = 26 ∨ x.op = 27) → j72_2 R (pp b5) (pp s.b) (.int .i64 id) (pp th.b) (.int .i64 a.op) (.bool true) w1 := by
    intro hx
    have hev := hval.evt hx
    unfold j72_2
    refine Bc_t ?_
    (repeat with_reducible first | refine qq ?_ | refine qr ?_ | refine qs ?_)
    refine O.mk (ask hw1 1 _ rfl) ?_
    (repeat with_reducible first | refine qq ?_ | refine qr ?_ | refine qs ?_)
    refine O.mk (ask hw1 2 _ rfl) ?_
    refine (k70 hw1 (by omega) id a.site 6 a.n true).use ?_
    rintro _ w2 ⟨rfl, mv, hw2⟩
    refine hw2.dr fun w3 hw3 => ?_
    clear hw2
    (repeat with_reducible first | refine qq ?_ | refine qr ?_ | refine qs ?_ | refine hw3.l 0 ?_)
    refine O.mk (ask hw3 2 _ rfl) ?_
    (repeat with_reducible first | refine qq ?_ | refine qr ?_ | refine qs ?_)
    refine O.mk (ask hw3 0 _ rfl) ?_
    (repeat with_reducible first | refine qq ?_ | refine qr ?_ | refine qs ?_)
    refine (k93 hw3 2 rfl a.n (decide (a.op = 26))).use ?_
    rintro _ w4 ⟨⟨n, rfl⟩, v', e1, e2, e3, hw4⟩
    clear hw3
    replace hw4 : Own B w4 (mAtoms p { s with mv := mv, M := s.M ++ [⟨3, id, 0, a.site, 6, a.n, 0, true⟩], v := v' } ++ L5) := by
      have : mAtoms p { s with mv := mv, M := s.M ++ [⟨3, id, 0, a.site, 6, a.n, 0, true⟩], v := v' } ++ L5 = (mAtoms p { s with mv := mv, M := s.M ++ [⟨3, id, 0, a.site, 6, a.n, 0, true⟩] } ++ L5).set 2 (livesA v') := by
        unfold mAtoms mcells
        simp only
        rw [e1]
        rfl
      rw [this]; exact hw4
    refine Bc_b (fun _ => ?_) (fun _ => ?_)
    · refine hw4.dr fun w5 hw5 => ?_
      clear hw4
      (repeat with_reducible first | refine qq ?_ | refine qr ?_ | refine qs ?_ | refine hw5.l 0 ?_)
      refine O.mk (ask hw5 2 _ rfl) ?_
      (repeat with_reducible first | refine qq ?_ | refine qr ?_ | refine qs ?_ | refine hw5.l 0 ?_)
      refine O.mk (hw5.slLen 11 rfl) ?_
      obtain ⟨on0, hon0⟩ := list_get (l := s.on) (j := a.n.toNat) (by have := hS.ol; omega)
      obtain ⟨bo, hixo, hrdo⟩ := hw5.eli 12 rfl hon0
      refine O.mk (hixo _ _ (by omega) rfl) ?_
      refine hw5.elsti 12 rfl (list_lt hon0) ((s.M ++ [(⟨3, id, 0, a.site, 6, a.n, 0, true⟩ : MK)]).length : Nat) (hixo .i64 _ (by omega) rfl) rfl tsz3 fun w6 hw6 => ?_
      clear hw5
      replace hw6 : Own B w6 (mAtoms p { s with mv := mv, M := s.M ++ [⟨3, id, 0, a.site, 6, a.n, 0, true⟩], v := v', on := s.on.set a.n.toNat ((s.M ++ [(⟨3, id, 0, a.site, 6, a.n, 0, true⟩ : MK)]).length : Nat) } ++ L5) := hw6
      (repeat with_reducible first | refine qq ?_ | refine qr ?_ | refine qs ?_)
      refine O.mk (ask hw6 2 _ rfl) ?_
      refine (k69 hw6 (by simp; omega) 7 id a.n).use ?_
      rintro _ w7 ⟨rfl, mv2, hw7⟩
      refine JD { s with mv := mv2, M := s.M ++ [⟨3, id, 0, a.site, 6, a.n, 0, true⟩] ++ [⟨7, id, a.n, 0, 0, 0, 0, false⟩], v := v', on := s.on.set a.n.toNat ((s.M ++ [(⟨3, id, 0, a.site, 6, a.n, 0, true⟩ : MK)]).length : Nat) } _ _ rfl rfl rfl rfl rfl (SOK.marks (SOK.ons (SOK.lives (v := v') hS) (by simp))) (.inr (.inr (.inr (.inl ⟨⟨3, id, 0, a.site, 6, a.n, 0, true⟩, a.n, rfl, rfl, by omega, by omega, ?_⟩)))) hw7
      simp [Mc.core]
    · exact JD { s with mv := mv, M := s.M ++ [⟨3, id, 0, a.site, 6, a.n, 0, true⟩], v := v' } _ _ rfl rfl rfl rfl rfl (SOK.marks (SOK.lives (v := v') hS)) (.inr (.inl ⟨_, rfl, rfl, rfl⟩)) hw4
  have J3 : x.op ≠ 26 → x.op ≠ 27 → x.op ≠ 9 → x.op ≠ 10 → x.op ≠ 25 → x.op ≠ 23 → x.op ≠ 24 → x.op ≠ 28 → j72_2 R (pp b5) (pp s.b) (.int .i64 id) (pp th.b) (.int .i64 a.op) (.bool false) w1 := by
    intros
    unfold j72_2
    refine Bc_f ?_
    (repeat with_reducible first | refine qq ?_ | refine qr ?_ | refine qs ?_)
    refine Bc_dec (fun h29 => ?_) (fun h29 => ?_)
    · (repeat with_reducible first | refine qq ?_ | refine qr ?_ | refine qs ?_)
      refine O.mk (ask hw1 3 _ rfl) ?_
      refine (k91 hw1 (by omega) a.v 5).use ?_
      rintro _ _ ⟨⟨e, rfl, he⟩, rfl⟩
      (repeat with_reducible first | refine qq ?_ | refine qr ?_ | refine qs ?_)
      refine Bc_dec (fun he0 => hno _ hw1) (fun he0 => ?_)
      rcases he with he | ⟨rfl, h3, h4, t, ht, hk⟩
      · exact absurd he he0
      refine (k69 hw1 (by omega) 6 id a.v).use ?_
      rintro _ w2 ⟨rfl, mv, hw2⟩
      refine JD { s with mv := mv, M := s.M ++ [⟨6, id, a.v, 0, 0, 0, 0, false⟩] } _ _ rfl rfl rfl rfl rfl (SOK.marks hS) (.inr (.inr (.inr (.inr (.inl ⟨a.v, t, h3, ht, hk, ?_, rfl⟩))))) hw2
      exact hj th f g x a.v hth hA (by omega) (ha.va (.inr (.inr (.inl (by omega))))) t h3 ht hk
    · (repeat with_reducible first | refine qq ?_ | refine qr ?_ | refine qs ?_)
      refine Bc_dec (fun h30 => ?_) (fun h30 => by omega)
      (repeat with_reducible first | refine qq ?_ | refine qr ?_ | refine qs ?_ | refine hw1.l 0 ?_)
      refine O.mk (hw1.slLen 10 rfl) ?_
      (repeat with_reducible first | refine qq ?_ | refine qr ?_ | refine qs ?_)
      refine Bc_dec (fun hl => ?_) (fun hl => ?_)
      · refine (k41 hw1).use ?_
        rintro _ w2 ⟨rfl, hw2⟩
        rw [hR]
        exact ⟨false, 11, { s with full := true }, rfl, .inr ⟨by decide, rfl⟩, ⟨rfl, rfl, rfl, SOK.flags (n := s.now) (st := s.steps) hS, .inl rfl, ThKeep.same _ rfl, th, hth, rfl⟩, hback hw2⟩
      · (repeat with_reducible first | refine qq ?_ | refine qr ?_ | refine qs ?_)
        refine O.mk (ask hw1 1 _ rfl) ?_
        refine (k70 hw1 (by omega) id a.site 7 0 true).use ?_
        rintro _ w2 ⟨rfl, mv, hw2⟩
        refine hw2.dr fun w3 hw3 => ?_
        clear hw2
        (repeat with_reducible first | refine qq ?_ | refine qr ?_ | refine qs ?_ | refine hw3.l 0 ?_)
        refine O.mk (ask hw3 3 _ rfl) ?_
        refine hw3.app (xs := [.int .i64 a.v]) T42 ⟨_, T42.under⟩ 10 rfl (by decide) rfl rfl rfl (by simp only; have := hS.log; omega) fun lv w4 hw4 => ?_
        clear hw3
        have hone := sl_one hw4 10 rfl
        (repeat with_reducible first | refine qq ?_ | refine qr ?_ | refine qs ?_ | refine hw4.l 0 ?_)
        refine hw4.st1 0 rfl (by kernel_rfl) hone (by show 15 < 21; decide) fun w5 hw5 => ?_
        clear hw4
        refine JD { s with mv := mv, M := s.M ++ [⟨3, id, 0, a.site, 7, 0, 0, true⟩], lv := lv, log := s.log ++ [a.v] } _ _ rfl rfl rfl rfl rfl (SOK.marks (SOK.logged (l := s.log ++ [a.v]) (v := lv) hS (by rw [List.length_append, List.length_singleton]; omega))) (.inr (.inl ⟨_, rfl, rfl, rfl⟩)) ?_
        unfold mAtoms
        simp only
        have e1 : ints (s.log ++ [a.v]) = ints s.log ++ [.int .i64 a.v] := by simp [ints]
        rw [e1, List.length_append]
        exact hw5
  have J1 : ∀ c, (c = true ↔ (x.op = 23 ∨ x.op = 24 ∨ x.op = 28)) → j72_1 R (pp b5) (pp s.b) (.int .i64 id) (.int .i64 a.op) (pp th.b) (.bool c) w1 := by
    intro c hc
    unfold j72_1
    refine Bc_b (fun h => ?_) (fun h => ?_)
    · have hx := hc.1 h
      refine O.mk (v := .agg (encAS a).toArray) (hw1.rdN_bk 13 (h13 s) (Nat.le_refl 6)) ?_
      refine (k90 hP hMy hw1 hS hT (by omega) hnow hfresh h1 hacc ?_ ?_).use ?_
      · intro h28
        rcases hx with h' | h' | h'
        · have := hval.post h'; rw [ha.lo (.inl h')]; omega
        · have := hval.front h'; rw [ha.lo (.inr h')]; omega
        · omega
      · intro h28 h24
        rcases hx with h' | h' | h'
        · have := hval.post h'; omega
        · omega
        · omega
      rintro _ w2 (⟨rfl, hw2⟩ | ⟨rfl, of_, nth, qs', x', th', tv, hv, mv, e1, e2, e3, e4, e5, e6, hw2⟩)
      · refine O.mk (v := .bool true) rfl ?_
        refine O.mk (v := .int .i64 0) rfl ?_
        exact hno _ hw2
      · refine O.mk (v := .bool false) rfl ?_
        refine O.mk (v := .int .i64 0) rfl ?_
        rw [hR]
        have hlo : (madeT a of_ id s.M.length nth).looper < p.nl := by
          show (if a.op = 28 then (-1 : Int) else a.looper) < p.nl
          by_cases h28 : a.op = 28
          · rw [if_pos h28]; omega
          · rw [if_neg h28]
            rcases hx with h' | h' | h'
            · have := hval.post h'; rw [ha.lo (.inl h')]; omega
            · have := hval.front h'; rw [ha.lo (.inr h')]; omega
            · omega
        refine ⟨false, 0, { s with qs := qs', tv := tv, T := s.T ++ [newT s (madeT a of_ id s.M.length nth)], hv := hv, th := (s.th ++ [x']).set (id - 1).toNat th', mv := mv, M := s.M ++ [⟨if a.op = 28 then 5 else 4, id, s.T.length + 1, 0, 0, 0, 0, false⟩] }, rfl, .inl ⟨rfl, rfl⟩, ⟨rfl, rfl, rfl, ?_, ?_, ?_, th', ?_, ?_⟩, hback hw2⟩
        · exact SOK.marks (SOK.thset (hS.add (tv := tv) (hv := hv) e1 e2 e3 hlo) e5)
        · refine .inr (.inr (.inr (.inr (.inr ⟨a, of_, nth, _, ?_, ?_, e2, rfl⟩))))
          · intro h28
            rcases hx with h' | h' | h'
            · have := hval.post h'; rw [ha.lo (.inl h')]; omega
            · have := hval.front h'; rw [ha.lo (.inr h')]; omega
            · omega
          · intro h28 h24
            rcases hx with h' | h' | h'
            · have := hval.post h'; omega
            · omega
            · omega
        · exact ThKeep.made _ (by omega) e4 rfl
        · simp only
          rw [List.getElem?_set_self (by rw [List.length_append, List.length_singleton]; omega)]
        · exact e6 _ hth
    · have hx : ¬ (x.op = 23 ∨ x.op = 24 ∨ x.op = 28) := fun h' => by rw [hc.2 h'] at h; cases h
      (repeat with_reducible first | refine qq ?_ | refine qr ?_ | refine qs ?_)
      refine Bc_dec (fun h9 => ?_) (fun h9 => ?_)
      · (repeat with_reducible first | refine qq ?_ | refine qr ?_ | refine qs ?_)
        refine O.mk (ask hw1 1 _ rfl) ?_
        (repeat with_reducible first | refine qq ?_ | refine qr ?_ | refine qs ?_)
        refine O.mk (ask hw1 2 _ rfl) ?_
        refine (k70 hw1 (by omega) id a.site 1 a.n false).use ?_
        rintro _ w2 ⟨rfl, mv, hw2⟩
        refine hw2.dr fun w3 hw3 => ?_
        clear hw2
        have hgl := hval.glob (.inl (by omega))
        obtain ⟨gx, hgx⟩ := list_get (l := s.g) (j := a.n.toNat) (by have := hS.gl; omega)
        (repeat with_reducible first | refine qq ?_ | refine qr ?_ | refine qs ?_ | refine hw3.l 0 ?_)
        refine O.mk (ask hw3 2 _ rfl) ?_
        obtain ⟨bg, hixg, hrdg⟩ := hw3.eli 9 rfl hgx
        refine O.mk (hixg _ _ (by omega) rfl) ?_
        refine O.mk hrdg ?_
        exact JD { s with mv := mv, M := s.M ++ [⟨3, id, 0, a.site, 1, a.n, 0, false⟩] } _ _ rfl rfl rfl rfl rfl (SOK.marks hS) (.inr (.inl ⟨_, rfl, rfl, rfl⟩)) hw3
      (repeat with_reducible first | refine qq ?_ | refine qr ?_ | refine qs ?_)
      refine Bc_dec (fun h10 => ?_) (fun h10 => ?_)
      · (repeat with_reducible first | refine qq ?_ | refine qr ?_ | refine qs ?_)
        refine O.mk (ask hw1 1 _ rfl) ?_
        (repeat with_reducible first | refine qq ?_ | refine qr ?_ | refine qs ?_)
        refine O.mk (ask hw1 2 _ rfl) ?_
        refine (k70 hw1 (by omega) id a.site 1 a.n true).use ?_
        rintro _ w2 ⟨rfl, mv, hw2⟩
        refine hw2.dr fun w3 hw3 => ?_
        clear hw2
        have hgl := hval.glob (.inr (by omega))
        obtain ⟨gx, hgx⟩ := list_get (l := s.g) (j := a.n.toNat) (by have := hS.gl; omega)
        (repeat with_reducible first | refine qq ?_ | refine qr ?_ | refine qs ?_ | refine hw3.l 0 ?_)
        refine O.mk (ask hw3 2 _ rfl) ?_
        (repeat with_reducible first | refine qq ?_ | refine qr ?_ | refine qs ?_)
        refine O.mk (ask hw3 3 _ rfl) ?_
        obtain ⟨bg, hixg, hrdg⟩ := hw3.eli 9 rfl hgx
        refine O.mk (hixg _ _ (by omega) rfl) ?_
        refine hw3.elsti 9 rfl (list_lt hgx) a.v (hixg .i64 _ (by omega) rfl) rfl tsz2 fun w4 hw4 => ?_
        exact JD { s with mv := mv, M := s.M ++ [⟨3, id, 0, a.site, 1, a.n, 0, true⟩], g := s.g.set a.n.toNat a.v } _ _ rfl rfl rfl rfl rfl (SOK.marks (SOK.globals (g := s.g.set a.n.toNat a.v) hS (by simp))) (.inr (.inl ⟨_, rfl, rfl, rfl⟩)) hw4
      (repeat with_reducible first | refine qq ?_ | refine qr ?_ | refine qs ?_)
      refine Bc_dec (fun h25 => ?_) (fun h25 => ?_)
      · (repeat with_reducible first | refine qq ?_ | refine qr ?_ | refine qs ?_)
        refine O.mk (ask hw1 3 _ rfl) ?_
        refine (k91 hw1 (by omega) a.v 4).use ?_
        rintro _ _ ⟨⟨e, rfl, he⟩, rfl⟩
        (repeat with_reducible first | refine qq ?_ | refine qr ?_ | refine qs ?_)
        refine Bc_dec (fun he0 => hno _ hw1) (fun he0 => ?_)
        rcases he with he | ⟨rfl, h3, h4, t, ht, hk⟩
        · exact absurd he he0
        (repeat with_reducible first | refine qq ?_ | refine qr ?_ | refine qs ?_)
        refine O.mk (ask hw1 1 _ rfl) ?_
        have hlo := hpost _ _ ht hk
        refine (k92 hw1 hS (by omega) (by omega) id a.site h3 ht hlo).use ?_
        rintro _ w2 ⟨rfl, s', mv, hw2, ⟨hst, rfl⟩ | ⟨hst, qs', hc1, hb1, rfl⟩⟩
        · exact JD { s with mv := mv, M := s.M ++ [⟨3, id, 0, a.site, 5, a.v, 0, true⟩] } _ _ rfl rfl rfl rfl rfl (SOK.marks hS) (.inr (.inl ⟨_, rfl, rfl, rfl⟩)) hw2
        · exact JD { s with mv := mv, M := s.M ++ [⟨3, id, 0, a.site, 5, a.v, 0, true⟩], T := s.T.set (a.v - 1).toNat { t with state := 4 }, qs := qs' } _ _ rfl rfl rfl rfl rfl (SOK.marks (v := mv) (SOK.taskset (SOK.cancel hS hc1 hb1) ht (t' := { t with state := 4 }) rfl)) (.inr (.inr (.inl ⟨_, a.v, t, _, rfl, rfl, h3, ht, hk, hst, hc1, rfl⟩))) hw2
      (repeat with_reducible first | refine qq ?_ | refine qr ?_ | refine qs ?_)
      refine Bc_dec (fun h26 => J2 (by omega)) (fun h26 => ?_)
      (repeat with_reducible first | refine qq ?_ | refine qr ?_ | refine qs ?_)
      by_cases h27 : a.op = 27
      · rw [decide_eq_true h27]
        exact J2 (by omega)
      · rw [decide_eq_false h27]
        exact J3 (by omega) (by omega) (by omega) (by omega) (by omega) (by omega) (by omega) (by omega)
  (repeat with_reducible first | refine qq ?_ | refine qr ?_ | refine qs ?_)
  refine Bc_dec (fun h => J1 true ⟨fun _ => by omega, fun _ => rfl⟩) (fun h => ?_)
  (repeat with_reducible first | refine qq ?_ | refine qr ?_ | refine qs ?_)
  refine Bc_dec (fun h => J1 true ⟨fun _ => by omega, fun _ => rfl⟩) (fun h' => ?_)
  (repeat with_reducible first | refine qq ?_ | refine qr ?_ | refine qs ?_)
  refine J1 _ ?_
  simp only [decide_eq_true_eq]
  omega
end
end Go.Proofs.Ytedcfkigfcobaaa
end
