/-
  A part of the proof that the statement on the tasks of a machine returns true for every input: no condition is asked beyond those of the theorems below.
-/
import Derived.Test.YtedcfkigfcobaaaB4
import Derived.Deep.Slices
import Derived.SizedLaws
import Derived.OpenShut
set_option linter.unusedVariables false
set_option linter.unusedSimpArgs false
set_option linter.unusedSectionVars false
/- Contracts: small functions; the heap of objects. -/
section
namespace Go.Proofs.Ytedcfkigfcobaaa
open Go Go.Proofs
attribute [local irreducible] Bc O AL BS MS MM ST AP CV Cl

theorem k34 (n m : Int) (w : World) : Cl Try.prog 34 [.int .i64 n, .int .i64 m] w fun v w' => v = .bool (decide (0 ≤ n ∧ n < m)) ∧ w' = w := by
  refine s34 ?_
  unfold c34
  (repeat with_reducible first | refine qq ?_ | refine qr ?_ | refine qs ?_)
  refine Bc_dec (fun h => ?_) (fun h => ?_)
  · (repeat with_reducible first | refine qq ?_ | refine qr ?_ | refine qs ?_)
    exact ⟨by simp [h], rfl⟩
  · exact ⟨by simp [h], rfl⟩

/-- an object of the heap: its numbers, its values' slice and these -/
structure HO where
  kind : Int
  of : Int
  vv : Value
  site : Int
  by_ : Int
  nth : Int
  vals : List Int
def encHO (o : HO) : List Value := [.int .i64 o.kind, .int .i64 o.of, o.vv, .int .i64 o.site, .int .i64 o.by_, .int .i64 o.nth]
theorem encHO_len (o : HO) : (encHO o).length = 6 := rfl
def hoA (o : HO) : Atom := sl 2 1 o.vv o.vals.length (ints o.vals)
/-- the heap's two parts but for the values -/
def hpA (bh : Nat) (hv : Value) (os : List HO) : List Atom := [bk bh 92 [hv], sl 195 6 hv os.length (os.flatMap encHO)]

theorem k100 {B : Base} {w : World} {L : List Atom} {bh : Nat} {hv : Value} {os : List HO} (hw : Own B w L) (i j : Nat) (hi : L[i]? = some (bk bh 92 [hv])) (hj : L[j]? = some (sl 195 6 hv os.length (os.flatMap encHO)))
    (id : Int) : Cl Try.prog 100 [.pointer (some ⟨bh, 0, none⟩), .int .i64 id] w fun v w' => v = .bool (decide (1 ≤ id ∧ id ≤ os.length)) ∧ w' = w := by
  refine s100 ?_
  unfold c100
  (repeat with_reducible first | refine qq ?_ | refine qr ?_ | refine qs ?_)
  refine Bc_dec (fun h => ?_) (fun h => ?_)
  · (repeat with_reducible first | refine qq ?_ | refine qr ?_ | refine qs ?_)
    refine O.mk (hw.rd1_bk i hi rfl) ?_
    refine O.mk (hw.slLen j hj) ?_
    (repeat with_reducible first | refine qq ?_ | refine qr ?_ | refine qs ?_)
    exact ⟨by simp [h], rfl⟩
  · exact ⟨by simp [h], rfl⟩
def isB (os : List HO) (id kind : Int) : Bool := decide (1 ≤ id) && (match os[(id - 1).toNat]? with | some o => decide (o.kind = kind) | none => false)
theorem isB_at {os : List HO} {id kind : Int} {o : HO} (h1 : 1 ≤ id) (ho : os[(id - 1).toNat]? = some o) : isB os id kind = decide (o.kind = kind) := by
  unfold isB; rw [ho]; simp [h1]
theorem isB_no {os : List HO} {id kind : Int} (h : ¬ (1 ≤ id ∧ id ≤ os.length)) : isB os id kind = false := by
  unfold isB
  by_cases h1 : 1 ≤ id
  · rw [List.getElem?_eq_none (by omega)]; simp
  · simp [h1]
theorem k86 {B : Base} {w : World} {L : List Atom} {bh : Nat} {hv : Value} {os : List HO} (hw : Own B w L) (i j : Nat) (hi : L[i]? = some (bk bh 92 [hv])) (hj : L[j]? = some (sl 195 6 hv os.length (os.flatMap encHO)))
    (hos : os.length < 2000) (id kind : Int) : Cl Try.prog 86 [.pointer (some ⟨bh, 0, none⟩), .int .i64 id, .int .i64 kind] w fun v w' => v = .bool (isB os id kind) ∧ w' = w := by
  refine s86 ?_
  unfold c86
  refine (k100 hw i j hi hj id).use ?_
  rintro _ _ ⟨rfl, rfl⟩
  refine Bc_dec (fun h => ?_) (fun h => ?_)
  · obtain ⟨o, ho⟩ := list_get (l := os) (j := (id - 1).toNat) (by omega)
    obtain ⟨b, cap, rfl, hix⟩ := hw.slIdx j hj (k := .i64) (j := id - 1) (by omega) (by omega)
    (repeat with_reducible first | refine qq ?_ | refine qr ?_ | refine qs ?_)
    refine O.mk (hw.rd1_bk i hi rfl) ?_
    (repeat with_reducible first | refine qq ?_ | refine qr ?_ | refine qs ?_)
    refine O.mk hix ?_
    (repeat with_reducible first | refine qq ?_ | refine qr ?_ | refine qs ?_)
    refine O.mk (hw.rd1_sl j hj (flat_get encHO_len ho rfl)) ?_
    (repeat with_reducible first | refine qq ?_ | refine qr ?_ | refine qs ?_)
    exact ⟨by rw [isB_at h.1 ho], rfl⟩
  · exact ⟨by rw [isB_no h], rfl⟩
end Go.Proofs.Ytedcfkigfcobaaa
end
/- The program that came in, as it is read (nobody writes it); contracts of the functions that look at it. -/
section
namespace Go.Proofs.Ytedcfkigfcobaaa
open Go Go.Proofs
attribute [local irreducible] Bc O AL BS MS MM ST AP CV Cl

/-- a slice of the memory that came in: its elements' cells -/
def osl (B : Base) (sz : Nat) (v : Value) (n : Nat) (cs : List Value) : Prop :=
  ∃ a cap, v = .slice a n cap ∧ cs.length = n * sz ∧ (n = 0 ∨ ∃ b o c e f, a = some ⟨b, o, none⟩ ∧ b < B.N ∧ B.w0.heap[b]? = some (.cells c e f) ∧ ∀ k x, cs[k]? = some x → c[o + k]? = some x)
theorem osl.len {B : Base} {sz n : Nat} {v : Value} {cs : List Value} (h : osl B sz v n cs) : lenS v = some (.int .i64 n) := by
  obtain ⟨a, cap, rfl, _⟩ := h; rfl
theorem osl.one {B : Base} {sz n : Nat} {v : Value} {cs : List Value} (h : osl B sz v n cs) : one v = true := by
  obtain ⟨a, cap, rfl, _⟩ := h; rfl
/-- an element of it: its address, its cells, in whatever world of ours -/
theorem osl.at_ {B : Base} {sz : Nat} {v : Value} {α : Type} {enc : α → List Value} {xs : List α} (hpos : 0 < sz) (hsz : ∀ x, (enc x).length = sz) (h : osl B sz v xs.length (xs.flatMap enc)) {i : Nat} {x : α} (hx : xs[i]? = some x) :
    ∃ b o, (∀ (k : IntKind) (j : Int), 0 ≤ j → j.toNat = i → iS sz v (.int k j) = some (.pointer (some ⟨b, o + j.toNat * sz, none⟩))) ∧
      (∀ w L, Own B w L → ∀ k y, (enc x)[k]? = some y → rd1 (.pointer (some ⟨b, o + i * sz + k, none⟩)) w = some y) ∧
      (∀ w L, Own B w L → rdN sz (.pointer (some ⟨b, o + i * sz, none⟩)) w = some (.agg (enc x).toArray)) := by
  obtain ⟨a, cap, rfl, hl, h⟩ := h
  have hi := list_lt hx
  rcases h with h | ⟨b, o, c, e, f, rfl, hb, hh, hc⟩
  · omega
  · refine ⟨b, o, fun k j h0 hj => ?_, fun w L hw k y hy => ?_, fun w L hw => ?_⟩
    · simp only [iS]; rw [if_pos ⟨h0, by omega⟩]
    · have := hc _ _ (flat_get hsz hx hy)
      simp only [rd1, hw.old b hb, hh]
      rw [← this]; congr 1; omega
    · have hlen : (i * sz) + sz ≤ (xs.flatMap enc).length := by
        rw [flat_len hsz]
        have : i * sz + sz = (i + 1) * sz := by rw [Nat.add_mul]; omega
        rw [this]; exact Nat.mul_le_mul_right _ hi
      have hcs : ∀ k, k < sz → c[o + i * sz + k]? = (enc x)[k]? := by
        intro k hk
        obtain ⟨y, hy⟩ := list_get (l := enc x) (j := k) (by rw [hsz]; exact hk)
        have := hc _ _ (flat_get hsz hx hy)
        rw [hy, ← this]; congr 1; omega
      simp only [rdN, hw.old b hb, hh]
      have hsize : o + i * sz + sz ≤ c.size := by
        have := hcs (sz - 1) (by omega)
        rw [List.getElem?_eq_getElem (by rw [hsz]; omega)] at this
        rcases Nat.lt_or_ge (o + i * sz + (sz - 1)) c.size with h' | h'
        · omega
        · simp [Array.getElem?_eq_none h'] at this
      rw [if_pos hsize]
      simp only [Option.some.injEq, Value.agg.injEq]
      apply Array.ext_getElem?
      intro k
      by_cases hk : k < sz
      · rw [Array.getElem?_extract, if_pos (by omega)]
        rw [hcs k hk]; simp
      · rw [Array.getElem?_eq_none (by simp; omega), Array.getElem?_eq_none (by simp [hsz]; omega)]
/-- an instruction -/
structure PI where
  op : Int
  a : Int
  b : Int
  c : Int
  n : Int
  lv : Value
  site : Int
  line : Int
  l : List Int
def encPI (i : PI) : List Value := [.int .i64 i.op, .int .i64 i.a, .int .i64 i.b, .int .i64 i.c, .int .i64 i.n, i.lv, .int .i64 i.site, .int .i64 i.line]
theorem encPI_len (i : PI) : (encPI i).length = 8 := rfl
structure PF where
  name : ByteArray
  caps : Int
  regs : Int
  cv : Value
  code : List PI
def encPF (f : PF) : List Value := [.string f.name, .int .i64 f.caps, .int .i64 f.regs, f.cv]
theorem encPF_len (f : PF) : (encPF f).length = 4 := rfl
structure PC where
  name : ByteArray
  nv : Value
  fv : Value
  nn : Nat
  nf : Nat
def encPC (c : PC) : List Value := [.string c.name, c.nv, c.fv]
theorem encPC_len (c : PC) : (encPC c).length = 3 := rfl
structure PK where
  name : ByteArray
  looper : Int
  f0 : Int
  f1 : Int
  f2 : Int
  f3 : Int
def encPK (c : PK) : List Value := [.string c.name, .int .i64 c.looper, .int .i64 c.f0, .int .i64 c.f1, .int .i64 c.f2, .int .i64 c.f3]
theorem encPK_len (c : PK) : (encPK c).length = 6 := rfl
structure PE where
  name : ByteArray
  looper : Int
  on : Bool
  func : Int
def encPE (e : PE) : List Value := [.string e.name, .int .i64 e.looper, .bool e.on, .int .i64 e.func]
theorem encPE_len (e : PE) : (encPE e).length = 4 := rfl
def encPS (s : Int × Int) : List Value := [.int .i64 s.1, .int .i64 s.2]
theorem encPS_len (s : Int × Int) : (encPS s).length = 2 := rfl
structure PP where
  lv : Value
  nl : Nat
  gv : Value
  ng : Nat
  clv : Value
  classes : List PC
  fv : Value
  funcs : List PF
  cv : Value
  comps : List PK
  ev : Value
  events : List PE
  main : Int
  sv : Value
  sites : List (Int × Int)
def pcells (p : PP) : List Value := [p.lv, p.clv, p.gv, p.fv, p.cv, p.ev, .int .i64 p.main, p.sv]
def progV (p : PP) : Value := .agg (pcells p).toArray
structure ProgOK (B : Base) (p : PP) : Prop where
  lo : lenS p.lv = some (.int .i64 p.nl)
  gl : lenS p.gv = some (.int .i64 p.ng)
  cl : osl B 3 p.clv p.classes.length (p.classes.flatMap encPC)
  clf : ∀ c ∈ p.classes, lenS c.fv = some (.int .i64 c.nf) ∧ lenS c.nv = some (.int .i64 c.nn)
  fn : osl B 4 p.fv p.funcs.length (p.funcs.flatMap encPF)
  code : ∀ f ∈ p.funcs, osl B 8 f.cv f.code.length (f.code.flatMap encPI)
  li : ∀ f ∈ p.funcs, ∀ i ∈ f.code, osl B 1 i.lv i.l.length (i.l.flatMap fun n => [.int .i64 n])
  co : osl B 6 p.cv p.comps.length (p.comps.flatMap encPK)
  evs : osl B 4 p.ev p.events.length (p.events.flatMap encPE)
  si : osl B 2 p.sv p.sites.length (p.sites.flatMap encPS)
  bf : p.funcs.length < 2 ^ 48
  bc : ∀ f ∈ p.funcs, f.code.length < 2 ^ 48 ∧ ∀ i ∈ f.code, i.l.length < 2 ^ 48
  bk : p.comps.length < 2 ^ 48 ∧ p.events.length < 2 ^ 48 ∧ p.classes.length < 2 ^ 48 ∧ p.sites.length < 2 ^ 48

def namedN (o : Int) : Int :=
  if o = 26 ∨ o = 27 ∨ o = 31 ∨ o = 33 then 0 else if o = 1 ∨ o = 8 ∨ o = 9 ∨ o = 10 ∨ o = 11 ∨ o = 14 ∨ o = 21 ∨ o = 22 ∨ o = 25 ∨ o = 29 ∨ o = 30 ∨ o = 32 then 1
  else if o = 3 ∨ o = 4 ∨ o = 5 ∨ o = 6 ∨ o = 7 ∨ o = 18 ∨ o = 19 then 3 else 2
theorem k35 (o : Int) (w : World) : Cl Try.prog 35 [.int .i64 o] w fun v w' => v = .int .i64 (namedN o) ∧ w' = w := by
  refine s35 ?_
  unfold c35 j35_0 j35_1 j35_2
  repeat' (first | refine O.mk bi_eql ?_ | refine Bc_t ?_ | refine Bc_dec (fun _ => ?_) (fun _ => ?_))
  all_goals (refine ⟨?_, rfl⟩; simp_all [namedN])
def isSiteB (o : Int) : Bool := decide (9 ≤ o ∧ o ≤ 30 ∧ o ≠ 20)
theorem k16 (o : Int) (w : World) : Cl Try.prog 16 [.int .i64 o] w fun v w' => v = .bool (isSiteB o) ∧ w' = w := by
  refine s16 ?_
  unfold c16
  (repeat with_reducible first | refine qq ?_ | refine qr ?_ | refine qs ?_)
  repeat' (first | (with_reducible first | refine qq ?_ | refine qr ?_ | refine qs ?_) | refine Bc_dec (fun _ => ?_) (fun _ => ?_))
  all_goals (refine ⟨?_, rfl⟩; unfold isSiteB; congr 1; first | exact (decide_eq_decide.2 (by omega)) | exact (decide_eq_false (by omega)).symm | exact (decide_eq_true (by omega)).symm)
def sharedB (o : Int) : Bool := decide (o = 9 ∨ o = 10 ∨ (23 ≤ o ∧ o ≤ 30))
theorem k81 (o : Int) (w : World) : Cl Try.prog 81 [.int .i64 o] w fun v w' => v = .bool (sharedB o) ∧ w' = w := by
  refine s81 ?_
  unfold c81
  repeat' (first | (with_reducible first | refine qq ?_ | refine qr ?_ | refine qs ?_) | refine Bc_dec (fun _ => ?_) (fun _ => ?_))
  all_goals (refine ⟨?_, rfl⟩; unfold sharedB; congr 1; first | exact (decide_eq_decide.2 (by omega)) | exact (decide_eq_false (by omega)).symm | exact (decide_eq_true (by omega)).symm)
end Go.Proofs.Ytedcfkigfcobaaa
end
/- What comes in: an argument that can be read is a program, or a list of entries, in memory that was there. -/
section
namespace Go.Proofs.Ytedcfkigfcobaaa
open Go Go.Proofs
attribute [local irreducible] Bc O AL BS MS MM ST AP CV Cl
section
variable {H : Type} (enc : TypeId × Value → H) (W : World)
/-- cells that are read at a type, each part within reach -/
def Rds (t : TypeId) (cs : List Value) : Prop :=
  ∃ (fuel : Nat) (d : DataW H) (pl : List MemPlace), DataW.trod enc Try.prog W 0 (fun _ => true) true fuel t cs = some (d, pl) ∧ ∀ n ∈ d.weights Try.prog t, n ≤ reachBytes
variable {enc W}
theorem Rds.int {t : TypeId} {cs : List Value} {k : IntKind} (ht : Try.prog.underlying t = some (.int k)) (h : Rds enc W t cs) : ∃ n, cs = [.int k n] := by
  obtain ⟨f, d, pl, h, _⟩ := h
  obtain ⟨n, rfl, _⟩ := DataW.trod_int ht h
  exact ⟨n, rfl⟩
theorem Rds.bool {t : TypeId} {cs : List Value} (ht : Try.prog.underlying t = some .bool) (h : Rds enc W t cs) : ∃ b, cs = [.bool b] := by
  obtain ⟨f, d, pl, h, _⟩ := h
  obtain ⟨n, rfl, _⟩ := DataW.trod_bool ht h
  exact ⟨n, rfl⟩
theorem Rds.str {t : TypeId} {cs : List Value} (ht : Try.prog.underlying t = some .string) (h : Rds enc W t cs) : ∃ s, cs = [.string s] := by
  obtain ⟨f, d, pl, h, _⟩ := h
  obtain ⟨n, rfl, _⟩ := DataW.trod_string ht h
  exact ⟨n, rfl⟩
theorem Rds.field {t : TypeId} {cs : List Value} {fs : Array Field} (ht : Try.prog.underlying t = some (.struct fs)) (h : Rds enc W t cs) :
    cs.length = Try.prog.cellsOf t ∧ ∀ (i : Nat) (f : Field), fs[i]? = some f → Rds enc W f.type ((cs.drop f.offset).take (Try.prog.cellsOf f.type)) := by
  obtain ⟨fu, d, pl, h, hw⟩ := h
  obtain ⟨xs, n, rfl, hx, hl, hxl, hf⟩ := DataW.trod_struct ht h
  simp only [Prod.mk.injEq] at hx
  obtain ⟨rfl, rfl⟩ := hx
  refine ⟨hl, fun i f hi => ?_⟩
  have hlt : i < xs.length := by rw [hxl]; exact (Array.getElem?_eq_some_iff.1 hi).1
  have := hf i f hi
  rw [List.getElem?_eq_getElem hlt] at this
  refine ⟨n, xs[i].1, xs[i].2, this, fun m hm => hw m ?_⟩
  simp only [DataW.weights, ht]
  exact DataW.weights_mem_each (j := i) (t := f.type) (d := xs[i].1) (by simp [hi]) (by simp [hlt]) m hm
theorem Rds.arr {t e : TypeId} {n : Nat} {cs : List Value} (ht : Try.prog.underlying t = some (.array n e)) (h : Rds enc W t cs) :
    cs.length = Try.prog.cellsOf t ∧ ∀ i, i < n → ∃ cs', cs' = (cs.drop (i * Try.prog.cellsOf e)).take (Try.prog.cellsOf e) ∧ ∃ (fuel : Nat) (x : DataW H × List MemPlace), DataW.trod enc Try.prog W 0 (fun _ => true) true fuel e cs' = some x := by
  obtain ⟨fu, d, pl, h, hw⟩ := h
  obtain ⟨xs, m, rfl, hx, hl, hxl, hf⟩ := DataW.trod_array ht h
  refine ⟨hl, fun i hi => ⟨_, rfl, m, xs[i], ?_⟩⟩
  rw [hf i hi, List.getElem?_eq_getElem]
theorem weightsAll_mem {P : Program} {e : TypeId} {l : List (DataW H)} {d : DataW H} (h : d ∈ l) : ∀ n ∈ d.weights P e, n ∈ DataW.weightsAll P e l := by
  induction l with
  | nil => cases h
  | cons y l ih =>
    intro n hn
    simp only [DataW.weightsAll, List.mem_append]
    rcases List.mem_cons.1 h with rfl | h
    · exact Or.inl hn
    · exact Or.inr (ih h n hn)
theorem Rds.slice {t e : TypeId} {cs : List Value} (ht : Try.prog.underlying t = some (.slice e)) (h : Rds enc W t cs) :
    ∃ (a : Option Addr) (len cap : Nat), cs = [.slice a len cap] ∧ len * Try.prog.bytesOf e ≤ reachBytes ∧
      (len = 0 ∨ ∃ a', a = some a' ∧ ∀ i, i < len → ∃ cs', W.cells? 0 (a'.add (i * Try.prog.cellsOf e)) (Try.prog.cellsOf e) = some cs' ∧ Rds enc W e cs') := by
  obtain ⟨fu, d, pl, h, hw⟩ := h
  rcases Deep.open_slice ht h with ⟨rfl, _⟩ | ⟨a, len, cap, m, n, D, Pl, rfl, _, hlc, _, hm, hx, hi⟩
  · exact ⟨none, 0, 0, rfl, by omega, Or.inl rfl⟩
  · simp only [Prod.mk.injEq] at hx
    obtain ⟨rfl, _⟩ := hx
    simp only [DataW.weights, ht, List.mem_cons, List.mem_append, List.length_map, List.length_range] at hw
    refine ⟨some a, len, cap, rfl, Nat.le_trans (Nat.mul_le_mul_right _ (Nat.le_add_right _ _)) (hw _ (Or.inl rfl)), Or.inr ⟨a, rfl, fun i hlt => ?_⟩⟩
    have hlm : i < m := by rw [hm]; split <;> omega
    obtain ⟨cs', h1, h2⟩ := hi i hlm
    exact ⟨cs', h1, n, D i, Pl i, h2, fun q hq => hw q (Or.inr (Or.inl (weightsAll_mem (List.mem_map.2 ⟨i, List.mem_range.2 hlt, rfl⟩) q hq)))⟩
theorem list_pick {α : Type} {R : Nat → α → Prop} : ∀ n, (∀ i, i < n → ∃ a, R i a) → ∃ xs : List α, xs.length = n ∧ ∀ i a, xs[i]? = some a → R i a
  | 0, _ => ⟨[], rfl, fun i a h => by simp at h⟩
  | n + 1, h => by
    obtain ⟨xs, hl, hx⟩ := list_pick n fun i hi => h i (by omega)
    obtain ⟨a, ha⟩ := h n (by omega)
    refine ⟨xs ++ [a], by simp [hl], fun i b hb => ?_⟩
    rcases Nat.lt_or_ge i n with hi | hi
    · rw [List.getElem?_append_left (by omega)] at hb; exact hx i b hb
    · rw [List.getElem?_append_right (by omega)] at hb
      have : i - xs.length = 0 := by
        rcases Nat.eq_zero_or_pos (i - xs.length) with h0 | h0
        · exact h0
        · rw [List.getElem?_eq_none (by simp; omega)] at hb; cases hb
      rw [this] at hb
      simp only [List.getElem?_cons_zero, Option.some.injEq] at hb
      subst hb
      have : i = n := by omega
      subst this; exact ha
theorem flat_inv {α : Type} {enc : α → List Value} {sz : Nat} (hpos : 0 < sz) (hsz : ∀ x, (enc x).length = sz) : ∀ {xs : List α} {k : Nat} {y : Value}, (xs.flatMap enc)[k]? = some y → ∃ i j x, xs[i]? = some x ∧ (enc x)[j]? = some y ∧ k = i * sz + j ∧ j < sz
  | [], k, y, h => by simp at h
  | x :: xs, k, y, h => by
    rw [List.flatMap_cons] at h
    rcases Nat.lt_or_ge k sz with hk | hk
    · rw [List.getElem?_append_left (by rw [hsz]; exact hk)] at h
      exact ⟨0, k, x, rfl, h, by omega, hk⟩
    · rw [List.getElem?_append_right (by rw [hsz]; exact hk), hsz] at h
      obtain ⟨i, j, z, h1, h2, h3, h4⟩ := flat_inv hpos hsz h
      exact ⟨i + 1, j, z, h1, h2, by rw [Nat.add_mul]; omega, h4⟩
theorem add_bo (a : Addr) (i : Nat) : (a.add i).block = a.block ∧ (a.add i).off = a.off + i := by
  unfold Addr.add
  split
  · rename_i hi; exact ⟨rfl, by omega⟩
  · exact ⟨rfl, rfl⟩
/-- a slice whose elements are read is a slice of old memory, its elements' cells known -/
theorem Rds.osl_ {t e : TypeId} {cs : List Value} {sz : Nat} {α : Type} {en : α → List Value} {Q : α → Prop} (ht : Try.prog.underlying t = some (.slice e)) (hc : Try.prog.cellsOf e = sz) (hpos : 0 < sz) (hb : 1 ≤ Try.prog.bytesOf e) (hsz : ∀ x, (en x).length = sz)
    (hE : ∀ cs', Rds enc W e cs' → ∃ a : α, cs' = en a ∧ Q a) (h : Rds enc W t cs) :
    ∃ (v : Value) (xs : List α), cs = [v] ∧ osl ⟨W, W.heap.size⟩ sz v xs.length (xs.flatMap en) ∧ (∀ a ∈ xs, Q a) ∧ xs.length < 281474976710656 := by
  obtain ⟨a, len, cap, hcs, hlen, hin⟩ := h.slice ht
  subst hcs
  clear h
  have hr : reachBytes < 140737488355328 := Nat.lt_of_lt_of_le reachBytes_lt (by decide)
  generalize reachBytes = rb at *
  have hlb : len ≤ len * Try.prog.bytesOf e := Nat.le_mul_of_pos_right _ hb
  rcases hin with rfl | ⟨a', rfl, hin⟩
  · exact ⟨_, [], rfl, ⟨a, cap, rfl, by simp, Or.inl rfl⟩, by simp, by simp⟩
  · have h' : ∀ i, i < len → ∃ x : α, W.cells? 0 (a'.add (i * sz)) sz = some (en x) ∧ Q x := by
      intro i hi
      obtain ⟨cs', h1, h2⟩ := hin i hi
      obtain ⟨x, rfl, hq⟩ := hE cs' h2
      rw [hc] at h1
      exact ⟨x, h1, hq⟩
    obtain ⟨xs, hl, hx⟩ := list_pick len h'
    subst hl
    refine ⟨_, xs, rfl, ⟨some a', cap, rfl, flat_len hsz xs, ?_⟩, ?_, by omega⟩
    · rcases Nat.eq_zero_or_pos xs.length with h0 | h0
      · exact Or.inl h0
      · right
        have key : ∀ k y, (xs.flatMap en)[k]? = some y → ∃ c f g, W.heap[a'.block]? = some (.cells c f g) ∧ c[a'.off + k]? = some y ∧ (k = 0 → a'.spot = none) := by
          intro k y hy
          obtain ⟨i, j, x, h1, h2, rfl, h4⟩ := flat_inv hpos hsz hy
          obtain ⟨_, _, h5⟩ := World.cells?_some (hx i x h1).1
          have h6 := h5 j h4
          rw [h2, Deep.add_add] at h6
          have h7 := World.cell?_spot h6
          obtain ⟨s2, s3⟩ := add_bo a' (i * sz + j)
          have s1 : i * sz + j = 0 → a'.spot = none := fun h0 => by rw [h0] at h7; exact h7
          unfold World.cell? at h6
          rw [s2, s3, h7] at h6
          cases hh : W.heap[a'.block]? with
          | none => rw [hh] at h6; cases h6
          | some o =>
            rw [hh] at h6
            cases o with
            | cells c f g => exact ⟨c, f, g, rfl, by simpa using h6, s1⟩
            | map _ _ => cases h6
            | _ => cases h6
        obtain ⟨y, hy⟩ : ∃ y, (xs.flatMap en)[0]? = some y := list_get (by rw [flat_len hsz]; exact Nat.mul_pos h0 hpos)
        obtain ⟨c, f, g, h1, _, h3⟩ := key 0 y hy
        obtain ⟨ab, ao, asp⟩ := a'
        have h3 := h3 rfl
        simp only at h1 h3
        subst h3
        refine ⟨ab, ao, c, f, g, rfl, ?_, h1, fun k y hy => ?_⟩
        · exact (Array.getElem?_eq_some_iff.1 h1).1
        · obtain ⟨c', f', g', h4, h5, _⟩ := key k y hy
          have h6 : c = c' := (Obj.cells.inj (Option.some.inj (h1.symm.trans h4))).1
          rw [h6]; exact h5
    · intro x hm
      obtain ⟨i, hi, rfl⟩ := List.mem_iff_getElem.1 hm
      exact (hx i _ (List.getElem?_eq_getElem hi)).2
/-- a slice of which the length alone is asked -/
theorem Rds.len {t e : TypeId} {cs : List Value} (ht : Try.prog.underlying t = some (.slice e)) (hb : 1 ≤ Try.prog.bytesOf e) (h : Rds enc W t cs) : ∃ (v : Value) (n : Nat), cs = [v] ∧ lenS v = some (.int .i64 n) ∧ n < 281474976710656 := by
  obtain ⟨a, len, cap, hcs, hlen, _⟩ := h.slice ht
  subst hcs
  have hr : reachBytes < 140737488355328 := Nat.lt_of_lt_of_le reachBytes_lt (by decide)
  generalize reachBytes = rb at *
  have hlb : len ≤ len * Try.prog.bytesOf e := Nat.le_mul_of_pos_right _ hb
  exact ⟨_, len, rfl, rfl, by omega⟩
end
end Go.Proofs.Ytedcfkigfcobaaa
end
/- Contracts: may an instruction be, a program's parts, a program. -/
section
namespace Go.Proofs.Ytedcfkigfcobaaa
open Go Go.Proofs
attribute [local irreducible] Bc O AL BS MS MM ST AP CV Cl
section
variable {B : Base} {w : World} {L : List Atom}
theorem Own.bs (h : Own B w L) {e size len t : Nat} {z : Value} {parts : List (Nat × Value)} {vs : Array Value} (hb : bsx e size len z parts = some (.cells vs t, fun n => .slice (some ⟨n, 0, none⟩) len len)) {k : Value → World → Prop}
    (hk : ∀ b w', B.N ≤ b → Own B w' (bk b t vs.toList :: L) → k (.slice (some ⟨b, 0, none⟩) len len) w') : BS e size len z parts w k := by
  unfold BS
  rw [hb]
  rintro v w' rfl rfl
  exact hk w.heap.size _ h.size (h.new _ fun g hg => hg)
theorem Own.dropL : ∀ {L' : List Atom}, Own B w (L' ++ L) → Own B w L := by
  intro L'
  induction L' with
  | nil => exact id
  | cons A L' ih => exact fun h => ih h.tail
theorem Own.nilSl (h : Own B w L) (t sz : Nat) : Own B w (sl t sz (.slice none 0 0) 0 [] :: L) :=
  ⟨h.old, h.size, h.tape, h.os, h.output, ⟨fun _ => false, .inl ⟨rfl, rfl, rfl⟩, by
    have : (Hp.off (fun b => bif Nat.blt b B.N then none else w.heap[b]?) fun _ => false) = B.hp w := by funext b; rfl
    rw [this]; exact h.sat⟩⟩
end
theorem bs3 (a b c : Int) : bsx 3 1 3 (.int .i64 0) [(0, .int .i64 a), (1, .int .i64 b), (2, .int .i64 c)] = some (.cells #[.int .i64 a, .int .i64 b, .int .i64 c] 3, fun n => .slice (some ⟨n, 0, none⟩) 3 3) := by kernel_rfl

def regN (x : PI) (i : Nat) : Int := match i with | 0 => x.a | 1 => x.b | _ => x.c
structure ValidI (p : PP) (f : PF) (x : PI) : Prop where
  op : 1 ≤ x.op ∧ x.op ≤ 33
  regs : ∀ i : Nat, (i : Int) < namedN x.op → 0 ≤ regN x i ∧ regN x i < f.regs
  list : ∀ (i : Nat) (y : Int), x.l[i]? = some y → x.op = 21 ∧ 0 ≤ y ∧ y < f.regs
  glob : x.op = 9 ∨ x.op = 10 → 0 ≤ x.n ∧ x.n < p.ng
  cls : x.op = 14 → 0 ≤ x.n ∧ x.n < p.classes.length
  clo : x.op = 21 → 0 ≤ x.n ∧ x.n < p.funcs.length ∧ ∀ g, p.funcs[x.n.toNat]? = some g → g.caps = x.l.length
  post : x.op = 23 → 0 ≤ x.c ∧ x.c < p.nl ∧ 0 ≤ x.n ∧ x.n < 1000001
  front : x.op = 24 → 0 ≤ x.c ∧ x.c < p.nl
  evt : x.op = 26 ∨ x.op = 27 → 0 ≤ x.n ∧ x.n < p.events.length
  jump : x.op = 31 ∨ x.op = 32 → 0 ≤ x.n ∧ x.n < f.code.length
theorem named_le (o : Int) : 0 ≤ namedN o ∧ namedN o ≤ 3 := by unfold namedN; (repeat' split) <;> omega
theorem enc1_len (n : Int) : ([Value.int .i64 n] : List Value).length = 1 := rfl

set_option maxHeartbeats 1000000 in
theorem k15 {B : Base} {w : World} {L : List Atom} {p : PP} (hp : ProgOK B p) {f : PF} (hf : lenS f.cv = some (.int .i64 f.code.length)) {x : PI} (hx : osl B 1 x.lv x.l.length (x.l.flatMap fun n => [.int .i64 n])) (hxl : x.l.length < 2 ^ 48) (hw : Own B w L) :
    Cl Try.prog 15 [progV p, .agg (encPF f).toArray, .agg (encPI x).toArray] w fun v w' => ∃ b, v = .bool b ∧ (b = true → ValidI p f x) ∧ Own B w' L := by
  have hno : ∀ w' (L' : List Atom), Own B w' (L' ++ L) → ∃ b, Value.bool false = .bool b ∧ (b = true → ValidI p f x) ∧ Own B w' L := by
    intro w' L' h
    exact ⟨false, rfl, (fun h => by cases h), h.dropL⟩
  refine s15 ?_
  unfold c15
  refine hw.al fun b1 w1 hb1 hw1 => ?_
  refine hw1.al fun b2 w2 hb2 hw2 => ?_
  refine hw2.al fun b3 w3 hb3 hw3 => ?_
  clear hw1 hw2
  have J0 : ∀ c, (c = false → 1 ≤ x.op ∧ x.op ≤ 33) → j15_0 (fun v w' => ∃ b, v = .bool b ∧ (b = true → ValidI p f x) ∧ Own B w' L) (.pointer (some ⟨b3, 0, none⟩)) (.pointer (some ⟨b2, 0, none⟩)) (.pointer (some ⟨b1, 0, none⟩)) (.bool c) w3 := by
    intro c hc
    unfold j15_0
    refine Bc_b (fun _ => hno w3 [_, _, _] hw3) (fun h => ?_)
    have hop := hc h
    clear hc h
    (repeat with_reducible first | refine qq ?_ | refine qr ?_ | refine qs ?_ | refine hw3.l 0 ?_ | refine hw3.l 1 ?_ | refine hw3.l 2 ?_)
    refine hw3.bs (bs3 x.a x.b x.c) fun b4 w4 hb4 hw4 => ?_
    clear hw3
    refine ⟨fun t8 w' => ∃ i : Nat, t8 = .int .i64 i ∧ (i : Int) ≤ namedN x.op ∧ (∀ j : Nat, j < i → 0 ≤ regN x j ∧ regN x j < f.regs) ∧ Own B w' (bk b4 3 [.int .i64 x.a, .int .i64 x.b, .int .i64 x.c] :: bk b3 79 (encPI x) :: bk b2 76 (encPF f) :: bk b1 30 (pcells p) :: L),
      fun t8 _ => match t8 with | .int _ i => (namedN x.op - i).toNat | _ => 0, ⟨0, rfl, (named_le _).1, fun j h => by omega, hw4⟩, ?_⟩
    rintro t8 wh ⟨i, rfl, hi, hregs, hw5⟩
    clear hw4
    (repeat with_reducible first | refine qq ?_ | refine qr ?_ | refine qs ?_ | refine hw5.l 0 ?_ | refine hw5.l 1 ?_ | refine hw5.l 2 ?_ | refine hw5.l 3 ?_)
    refine (k35 _ _).use ?_
    rintro _ _ ⟨rfl, rfl⟩
    (repeat with_reducible first | refine qq ?_ | refine qr ?_ | refine qs ?_)
    have hn3 := named_le x.op
    refine Bc_dec (fun hlt => ?_) (fun hge => ?_)
    · refine hw5.dr fun w6 hw6 => ?_
      refine O.mk (iS_0 (by omega) (by omega)) ?_
      have hreg : rd1 (.pointer (some ⟨b4, (i : Int).toNat * 1, none⟩)) w6 = some (.int .i64 (regN x i)) := by
        refine hw6.rd1_bk 0 rfl ?_
        have : i = 0 ∨ i = 1 ∨ i = 2 := by omega
        rcases this with rfl | rfl | rfl <;> rfl
      refine O.mk hreg ?_
      (repeat with_reducible first | refine qq ?_ | refine qr ?_ | refine qs ?_ | refine hw6.l 0 ?_ | refine hw6.l 1 ?_ | refine hw6.l 2 ?_ | refine hw6.l 3 ?_)
      refine (k34 _ _ _).use ?_
      rintro _ _ ⟨rfl, rfl⟩
      (repeat with_reducible first | refine qq ?_ | refine qr ?_ | refine qs ?_)
      refine Bc_dec (fun h => ?_) (fun h => ?_)
      · exact hno _ [_, _, _, _] hw6
      · (repeat with_reducible first | refine qq ?_ | refine qr ?_ | refine qs ?_)
        refine ⟨⟨i + 1, rfl, by omega, fun j hj => ?_, hw6⟩, by simp only; omega⟩
        by_cases hji : j = i
        · subst hji; omega
        · exact hregs j (by omega)
    · have hregs' : ∀ i : Nat, (i : Int) < namedN x.op → 0 ≤ regN x i ∧ regN x i < f.regs := fun j hj => hregs j (by omega)
      clear hregs
      refine ⟨fun t9 w' => ∃ i : Nat, t9 = .int .i64 i ∧ i ≤ x.l.length ∧ (∀ (j : Nat) (y : Int), j < i → x.l[j]? = some y → x.op = 21 ∧ 0 ≤ y ∧ y < f.regs) ∧ Own B w' (bk b4 3 [.int .i64 x.a, .int .i64 x.b, .int .i64 x.c] :: bk b3 79 (encPI x) :: bk b2 76 (encPF f) :: bk b1 30 (pcells p) :: L),
        fun t9 _ => match t9 with | .int _ i => (x.l.length - i).toNat | _ => 0, ⟨0, rfl, by omega, fun j y h => by omega, hw5⟩, ?_⟩
      clear hw5
      rintro t9 wh ⟨k, rfl, hk, hlist, hw5⟩
      (repeat with_reducible first | refine qq ?_ | refine qr ?_ | refine qs ?_ | refine hw5.l 0 ?_ | refine hw5.l 1 ?_ | refine hw5.l 2 ?_ | refine hw5.l 3 ?_)
      refine O.mk hx.len ?_
      (repeat with_reducible first | refine qq ?_ | refine qr ?_ | refine qs ?_)
      refine Bc_dec (fun hlt => ?_) (fun hge2 => ?_)
      · obtain ⟨y, hy⟩ := list_get (l := x.l) (j := k) (by omega)
        refine hw5.dr fun w6 hw6 => ?_
        clear hw5
        have J1 : ∀ c, (c = false → x.op = 21 ∧ 0 ≤ y ∧ y < f.regs) → ∀ w7, Own B w7 (bk b4 3 [.int .i64 x.a, .int .i64 x.b, .int .i64 x.c] :: bk b3 79 (encPI x) :: bk b2 76 (encPF f) :: bk b1 30 (pcells p) :: L) → j15_1 (fun v w' => ∃ b, v = .bool b ∧ (b = true → ValidI p f x) ∧ Own B w' L) (.int .i64 k) (fun t9 w' => ∃ i : Nat, t9 = .int .i64 i ∧ i ≤ x.l.length ∧ (∀ (j : Nat) (y : Int), j < i → x.l[j]? = some y → x.op = 21 ∧ 0 ≤ y ∧ y < f.regs) ∧ Own B w' (bk b4 3 [.int .i64 x.a, .int .i64 x.b, .int .i64 x.c] :: bk b3 79 (encPI x) :: bk b2 76 (encPF f) :: bk b1 30 (pcells p) :: L))
            (fun t9 _ => match t9 with | .int _ i => (x.l.length - i).toNat | _ => 0) wh (.bool c) w7 := by
          intro c hc w7 hw7
          unfold j15_1
          refine Bc_b (fun _ => hno _ [_, _, _, _] hw7) (fun h => ?_)
          have hc := hc h
          (repeat with_reducible first | refine qq ?_ | refine qr ?_ | refine qs ?_)
          refine ⟨⟨k + 1, rfl, by omega, fun j z hj hz => ?_, hw7⟩, by simp only; omega⟩
          by_cases hjk : j = k
          · subst hjk; rw [hy] at hz; cases hz; exact hc
          · exact hlist j z (by omega) hz
        (repeat with_reducible first | refine qq ?_ | refine qr ?_ | refine qs ?_ | refine hw6.l 0 ?_ | refine hw6.l 1 ?_ | refine hw6.l 2 ?_ | refine hw6.l 3 ?_)
        refine Bc_dec (fun h => ?_) (fun h => ?_)
        · exact J1 true (fun h => by cases h) _ hw6
        · (repeat with_reducible first | refine qq ?_ | refine qr ?_ | refine qs ?_ | refine hw6.l 0 ?_ | refine hw6.l 1 ?_ | refine hw6.l 2 ?_ | refine hw6.l 3 ?_)
          obtain ⟨b, o, hix, hrd, _⟩ := hx.at_ (by omega) enc1_len hy
          refine O.mk (hix _ _ (by omega) (by omega)) ?_
          refine O.mk (by have := hrd w6 _ hw6 0 _ rfl; simpa using this) ?_
          (repeat with_reducible first | refine qq ?_ | refine qr ?_ | refine qs ?_ | refine hw6.l 0 ?_ | refine hw6.l 1 ?_ | refine hw6.l 2 ?_ | refine hw6.l 3 ?_)
          refine (k34 _ _ _).use ?_
          rintro _ _ ⟨rfl, rfl⟩
          (repeat with_reducible first | refine qq ?_ | refine qr ?_ | refine qs ?_)
          refine J1 _ (fun h2 => ?_) _ hw6
          simp only [decide_eq_false_iff_not] at h2
          omega
      · have hlist' : ∀ (j : Nat) (y : Int), x.l[j]? = some y → x.op = 21 ∧ 0 ≤ y ∧ y < f.regs := fun j y hy => hlist j y (by have := list_lt hy; omega) hy
        clear hlist
        have fin : ∀ (c : Bool) w', Own B w' (bk b4 3 [.int .i64 x.a, .int .i64 x.b, .int .i64 x.c] :: bk b3 79 (encPI x) :: bk b2 76 (encPF f) :: bk b1 30 (pcells p) :: L) → (c = true → ValidI p f x) →
            ∃ b, Value.bool c = .bool b ∧ (b = true → ValidI p f x) ∧ Own B w' L := fun c w' h hv => ⟨c, rfl, hv, h.tail.tail.tail.tail⟩
        have mk : ∀ (c : Bool) w', Own B w' (bk b4 3 [.int .i64 x.a, .int .i64 x.b, .int .i64 x.c] :: bk b3 79 (encPI x) :: bk b2 76 (encPF f) :: bk b1 30 (pcells p) :: L) →
            (c = true → (x.op = 9 ∨ x.op = 10 → 0 ≤ x.n ∧ x.n < p.ng) ∧ (x.op = 14 → 0 ≤ x.n ∧ x.n < p.classes.length) ∧ (x.op = 21 → 0 ≤ x.n ∧ x.n < p.funcs.length ∧ ∀ g, p.funcs[x.n.toNat]? = some g → g.caps = x.l.length) ∧
              (x.op = 23 → 0 ≤ x.c ∧ x.c < p.nl ∧ 0 ≤ x.n ∧ x.n < 1000001) ∧ (x.op = 24 → 0 ≤ x.c ∧ x.c < p.nl) ∧ (x.op = 26 ∨ x.op = 27 → 0 ≤ x.n ∧ x.n < p.events.length) ∧ (x.op = 31 ∨ x.op = 32 → 0 ≤ x.n ∧ x.n < f.code.length)) →
            ∃ b, Value.bool c = .bool b ∧ (b = true → ValidI p f x) ∧ Own B w' L := fun c w' h hv => fin c w' h fun hc => by
          obtain ⟨h1, h2, h3, h4, h5, h6, h7⟩ := hv hc
          exact ⟨hop, hregs', hlist', h1, h2, h3, h4, h5, h6, h7⟩
        have J4 : ∀ c, c = decide (x.op = 31 ∨ x.op = 32) → x.op ≠ 9 → x.op ≠ 10 → x.op ≠ 14 → x.op ≠ 21 → x.op ≠ 23 → x.op ≠ 24 → x.op ≠ 26 → x.op ≠ 27 → j15_4 (fun v w' => ∃ b, v = .bool b ∧ (b = true → ValidI p f x) ∧ Own B w' L) (.pointer (some ⟨b3, 0, none⟩)) (.pointer (some ⟨b2, 0, none⟩)) (.bool c) wh := by
          rintro c rfl n1 n2 n3 n4 n5 n6 n7 n8
          unfold j15_4
          refine Bc_dec (fun h => ?_) (fun h => ?_)
          · (repeat with_reducible first | refine qq ?_ | refine qr ?_ | refine qs ?_ | refine hw5.l 0 ?_ | refine hw5.l 1 ?_ | refine hw5.l 2 ?_ | refine hw5.l 3 ?_)
            refine O.mk hf ?_
            refine (k34 _ _ _).use ?_
            rintro _ _ ⟨rfl, rfl⟩
            refine mk _ _ hw5 (fun hc => ?_)
            simp only [decide_eq_true_eq] at hc
            refine ⟨?_, ?_, ?_, ?_, ?_, ?_, ?_⟩ <;> intros <;> omega
          · refine mk _ _ hw5 (fun _ => ?_)
            refine ⟨?_, ?_, ?_, ?_, ?_, ?_, ?_⟩ <;> intros <;> omega
        have J3 : ∀ c, c = decide (x.op = 26 ∨ x.op = 27) → x.op ≠ 9 → x.op ≠ 10 → x.op ≠ 14 → x.op ≠ 21 → x.op ≠ 23 → x.op ≠ 24 → j15_3 (fun v w' => ∃ b, v = .bool b ∧ (b = true → ValidI p f x) ∧ Own B w' L) (.pointer (some ⟨b3, 0, none⟩)) (.pointer (some ⟨b1, 0, none⟩)) (.int .i64 x.op) (.pointer (some ⟨b2, 0, none⟩)) (.bool c) wh := by
          rintro c rfl n1 n2 n3 n4 n5 n6
          unfold j15_3
          refine Bc_dec (fun h => ?_) (fun h => ?_)
          · (repeat with_reducible first | refine qq ?_ | refine qr ?_ | refine qs ?_ | refine hw5.l 0 ?_ | refine hw5.l 1 ?_ | refine hw5.l 2 ?_ | refine hw5.l 3 ?_)
            refine O.mk hp.evs.len ?_
            refine (k34 _ _ _).use ?_
            rintro _ _ ⟨rfl, rfl⟩
            refine mk _ _ hw5 (fun hc => ?_)
            simp only [decide_eq_true_eq] at hc
            refine ⟨?_, ?_, ?_, ?_, ?_, ?_, ?_⟩ <;> intros <;> omega
          · (repeat with_reducible first | refine qq ?_ | refine qr ?_ | refine qs ?_)
            refine Bc_dec (fun h1 => ?_) (fun h1 => ?_)
            · exact J4 _ (by simp [h1]) n1 n2 n3 n4 n5 n6 (by omega) (by omega)
            · (repeat with_reducible first | refine qq ?_ | refine qr ?_ | refine qs ?_)
              exact J4 _ (by simp [h1]) n1 n2 n3 n4 n5 n6 (by omega) (by omega)
        have J2 : ∀ c, c = decide (x.op = 9 ∨ x.op = 10) → j15_2 (fun v w' => ∃ b, v = .bool b ∧ (b = true → ValidI p f x) ∧ Own B w' L) (.pointer (some ⟨b3, 0, none⟩)) (.pointer (some ⟨b1, 0, none⟩)) (.int .i64 x.op) (.pointer (some ⟨b2, 0, none⟩)) (.bool c) wh := by
          rintro c rfl
          unfold j15_2
          refine Bc_dec (fun h => ?_) (fun h => ?_)
          · (repeat with_reducible first | refine qq ?_ | refine qr ?_ | refine qs ?_ | refine hw5.l 0 ?_ | refine hw5.l 1 ?_ | refine hw5.l 2 ?_ | refine hw5.l 3 ?_)
            refine O.mk hp.gl ?_
            refine (k34 _ _ _).use ?_
            rintro _ _ ⟨rfl, rfl⟩
            refine mk _ _ hw5 (fun hc => ?_)
            simp only [decide_eq_true_eq] at hc
            refine ⟨?_, ?_, ?_, ?_, ?_, ?_, ?_⟩ <;> intros <;> omega
          · (repeat with_reducible first | refine qq ?_ | refine qr ?_ | refine qs ?_)
            refine Bc_dec (fun h1 => ?_) (fun h1 => ?_)
            · (repeat with_reducible first | refine qq ?_ | refine qr ?_ | refine qs ?_ | refine hw5.l 0 ?_ | refine hw5.l 1 ?_ | refine hw5.l 2 ?_ | refine hw5.l 3 ?_)
              refine O.mk hp.cl.len ?_
              refine (k34 _ _ _).use ?_
              rintro _ _ ⟨rfl, rfl⟩
              refine mk _ _ hw5 (fun hc => ?_)
              simp only [decide_eq_true_eq] at hc
              refine ⟨?_, ?_, ?_, ?_, ?_, ?_, ?_⟩ <;> intros <;> omega
            · (repeat with_reducible first | refine qq ?_ | refine qr ?_ | refine qs ?_)
              refine Bc_dec (fun h2 => ?_) (fun h2 => ?_)
              · refine hw5.dr fun w6 hw6 => ?_
                (repeat with_reducible first | refine qq ?_ | refine qr ?_ | refine qs ?_ | refine hw6.l 0 ?_ | refine hw6.l 1 ?_ | refine hw6.l 2 ?_ | refine hw6.l 3 ?_)
                refine O.mk hp.fn.len ?_
                refine (k34 _ _ _).use ?_
                rintro _ _ ⟨rfl, rfl⟩
                refine Bc_dec (fun h3 => ?_) (fun h3 => ?_)
                · obtain ⟨g, hg⟩ := list_get (l := p.funcs) (j := x.n.toNat) (by omega)
                  obtain ⟨b, o, hix, hrd, _⟩ := hp.fn.at_ (by omega) encPF_len hg
                  (repeat with_reducible first | refine qq ?_ | refine qr ?_ | refine qs ?_ | refine hw6.l 0 ?_ | refine hw6.l 1 ?_ | refine hw6.l 2 ?_ | refine hw6.l 3 ?_)
                  refine O.mk (hix _ _ (by omega) rfl) ?_
                  (repeat with_reducible first | refine qq ?_ | refine qr ?_ | refine qs ?_)
                  refine O.mk (hrd _ _ hw6 1 _ rfl) ?_
                  (repeat with_reducible first | refine qq ?_ | refine qr ?_ | refine qs ?_ | refine hw6.l 0 ?_ | refine hw6.l 1 ?_ | refine hw6.l 2 ?_ | refine hw6.l 3 ?_)
                  refine O.mk hx.len ?_
                  (repeat with_reducible first | refine qq ?_ | refine qr ?_ | refine qs ?_)
                  refine mk _ _ hw6 (fun hc => ?_)
                  simp only [decide_eq_true_eq] at hc
                  refine ⟨?_, ?_, fun _ => ⟨h3.1, h3.2, fun g' hg' => ?_⟩, ?_, ?_, ?_, ?_⟩
                  · intros; omega
                  · intros; omega
                  · rw [hg] at hg'; cases hg'; exact hc
                  all_goals (intros; omega)
                · exact hno _ [_, _, _, _] hw6
              · (repeat with_reducible first | refine qq ?_ | refine qr ?_ | refine qs ?_)
                refine Bc_dec (fun h3 => ?_) (fun h3 => ?_)
                · (repeat with_reducible first | refine qq ?_ | refine qr ?_ | refine qs ?_ | refine hw5.l 0 ?_ | refine hw5.l 1 ?_ | refine hw5.l 2 ?_ | refine hw5.l 3 ?_)
                  refine O.mk hp.lo ?_
                  refine (k34 _ _ _).use ?_
                  rintro _ _ ⟨rfl, rfl⟩
                  refine Bc_dec (fun h4 => ?_) (fun h4 => ?_)
                  · (repeat with_reducible first | refine qq ?_ | refine qr ?_ | refine qs ?_ | refine hw5.l 0 ?_ | refine hw5.l 1 ?_ | refine hw5.l 2 ?_ | refine hw5.l 3 ?_)
                    refine (k34 _ _ _).use ?_
                    rintro _ _ ⟨rfl, rfl⟩
                    refine mk _ _ hw5 (fun hc => ?_)
                    simp only [decide_eq_true_eq] at hc
                    refine ⟨?_, ?_, ?_, ?_, ?_, ?_, ?_⟩ <;> intros <;> omega
                  · exact hno _ [_, _, _, _] hw5
                · (repeat with_reducible first | refine qq ?_ | refine qr ?_ | refine qs ?_)
                  refine Bc_dec (fun h4 => ?_) (fun h4 => ?_)
                  · (repeat with_reducible first | refine qq ?_ | refine qr ?_ | refine qs ?_ | refine hw5.l 0 ?_ | refine hw5.l 1 ?_ | refine hw5.l 2 ?_ | refine hw5.l 3 ?_)
                    refine O.mk hp.lo ?_
                    refine (k34 _ _ _).use ?_
                    rintro _ _ ⟨rfl, rfl⟩
                    refine mk _ _ hw5 (fun hc => ?_)
                    simp only [decide_eq_true_eq] at hc
                    refine ⟨?_, ?_, ?_, ?_, ?_, ?_, ?_⟩ <;> intros <;> omega
                  · (repeat with_reducible first | refine qq ?_ | refine qr ?_ | refine qs ?_)
                    refine Bc_dec (fun h5 => ?_) (fun h5 => ?_)
                    · exact J3 _ (by simp [h5]) (by omega) (by omega) (by omega) (by omega) (by omega) (by omega)
                    · (repeat with_reducible first | refine qq ?_ | refine qr ?_ | refine qs ?_)
                      exact J3 _ (by simp [h5]) (by omega) (by omega) (by omega) (by omega) (by omega) (by omega)
        (repeat with_reducible first | refine qq ?_ | refine qr ?_ | refine qs ?_ | refine hw5.l 0 ?_ | refine hw5.l 1 ?_ | refine hw5.l 2 ?_ | refine hw5.l 3 ?_)
        refine Bc_dec (fun h => ?_) (fun h => ?_)
        · exact J2 _ (by simp [h])
        · (repeat with_reducible first | refine qq ?_ | refine qr ?_ | refine qs ?_)
          exact J2 _ (by simp [h])
  (repeat with_reducible first | refine qq ?_ | refine qr ?_ | refine qs ?_ | refine hw3.l 0 ?_ | refine hw3.l 1 ?_ | refine hw3.l 2 ?_)
  refine Bc_dec (fun h => ?_) (fun h => ?_)
  · exact J0 true (fun h => by cases h)
  · (repeat with_reducible first | refine qq ?_ | refine qr ?_ | refine qs ?_ | refine hw3.l 0 ?_ | refine hw3.l 1 ?_ | refine hw3.l 2 ?_)
    refine J0 _ (fun h2 => ?_)
    simp only [decide_eq_false_iff_not] at h2
    omega
end Go.Proofs.Ytedcfkigfcobaaa
end
/- Contracts: a program's parts, may a program be, is it much. -/
section
namespace Go.Proofs.Ytedcfkigfcobaaa
open Go Go.Proofs
attribute [local irreducible] Bc O AL BS MS MM ST AP CV Cl
theorem tsz76 : tsz Try.prog 76 = some 4 := by kernel_rfl
theorem tsz79 : tsz Try.prog 79 = some 8 := by kernel_rfl
theorem iA_p {len sz b o : Nat} {k : IntKind} {j : Int} (h0 : 0 ≤ j) (h1 : j < len) : iA len sz (.pointer (some ⟨b, o, none⟩)) (.int k j) = some (.pointer (some ⟨b, o + j.toNat * sz, none⟩)) := by
  simp only [iA]; rw [if_pos ⟨h0, h1⟩]
def Root (p : PP) (f : Int) : Prop := 0 ≤ f ∧ f < p.funcs.length ∧ ∀ g, p.funcs[f.toNat]? = some g → g.caps = 0
theorem k33 {B : Base} {w : World} {L : List Atom} {p : PP} (hp : ProgOK B p) (f : Int) (hw : Own B w L) :
    Cl Try.prog 33 [progV p, .int .i64 f] w fun v w' => ∃ b, v = .bool b ∧ (b = true → Root p f) ∧ Own B w' L := by
  refine s33 ?_
  unfold c33
  refine hw.al fun b1 w1 hb1 hw1 => ?_
  (repeat with_reducible first | refine qq ?_ | refine qr ?_ | refine qs ?_ | refine hw1.l 0 ?_)
  refine O.mk hp.fn.len ?_
  refine (k34 _ _ _).use ?_
  rintro _ _ ⟨rfl, rfl⟩
  refine Bc_dec (fun h => ?_) (fun h => ?_)
  · obtain ⟨g, hg⟩ := list_get (l := p.funcs) (j := f.toNat) (by omega)
    obtain ⟨b, o, hix, hrd, _⟩ := hp.fn.at_ (by omega) encPF_len hg
    (repeat with_reducible first | refine qq ?_ | refine qr ?_ | refine qs ?_ | refine hw1.l 0 ?_)
    refine O.mk (hix _ _ (by omega) rfl) ?_
    (repeat with_reducible first | refine qq ?_ | refine qr ?_ | refine qs ?_)
    refine O.mk (hrd _ _ hw1 1 _ rfl) ?_
    (repeat with_reducible first | refine qq ?_ | refine qr ?_ | refine qs ?_)
    refine ⟨_, rfl, fun hc => ⟨h.1, h.2, fun g' hg' => ?_⟩, hw1.tail⟩
    rw [hg] at hg'; cases hg'; simpa using hc
  · exact ⟨false, rfl, (fun h => by cases h), hw1.tail⟩
def fK (k : PK) (i : Nat) : Int := match i with | 0 => k.f0 | 1 => k.f1 | 2 => k.f2 | _ => k.f3
structure ValidP (p : PP) : Prop where
  nl : 1 ≤ p.nl ∧ p.nl ≤ 8
  lens : p.classes.length ≤ 16 ∧ p.ng ≤ 32 ∧ p.comps.length ≤ 8 ∧ p.events.length ≤ 8 ∧ 1 ≤ p.funcs.length ∧ p.funcs.length ≤ 64
  main : Root p p.main
  comps : ∀ (i : Nat) (k : PK), p.comps[i]? = some k → (0 ≤ k.looper ∧ k.looper < p.nl) ∧ ∀ j : Nat, j < 4 → 0 ≤ fK k j → Root p (fK k j)
  events : ∀ (i : Nat) (e : PE), p.events[i]? = some e → (0 ≤ e.looper ∧ e.looper < p.nl) ∧ Root p e.func
theorem lens_eq {c : PC} {p : PP} {B : Base} (hp : ProgOK B p) {i : Nat} (h : p.classes[i]? = some c) : lenS c.fv = some (.int .i64 c.nf) ∧ lenS c.nv = some (.int .i64 c.nn) := hp.clf c (List.mem_of_getElem? h)
set_option maxHeartbeats 1000000 in
theorem k14 {B : Base} {w : World} {L : List Atom} {p : PP} (hp : ProgOK B p) (hw : Own B w L) :
    Cl Try.prog 14 [progV p] w fun v w' => ∃ b, v = .bool b ∧ (b = true → ValidP p) ∧ Own B w' L := by
  have hno : ∀ w' (L' : List Atom), Own B w' (L' ++ L) → ∃ b, Value.bool false = .bool b ∧ (b = true → ValidP p) ∧ Own B w' L := fun w' L' h => ⟨false, rfl, (fun h => by cases h), h.dropL⟩
  have hbk := hp.bk
  refine s14 ?_
  unfold c14
  refine hw.al fun b1 w1 hb1 hw1 => ?_
  clear hw
  have J0 : ∀ c w1, Own B w1 (bk b1 30 (pcells p) :: L) → (c = false → (1 ≤ p.nl ∧ p.nl ≤ 8) ∧ (p.classes.length ≤ 16 ∧ p.ng ≤ 32 ∧ p.comps.length ≤ 8 ∧ p.events.length ≤ 8 ∧ 1 ≤ p.funcs.length ∧ p.funcs.length ≤ 64) ∧ Root p p.main) →
      j14_0 (fun v w' => ∃ b, v = .bool b ∧ (b = true → ValidP p) ∧ Own B w' L) (.pointer (some ⟨b1, 0, none⟩)) (.bool c) w1 := by
    intro c w1 hw1 hc
    unfold j14_0
    refine Bc_b (fun _ => hno _ [_] hw1) (fun h => ?_)
    obtain ⟨v1, v2, v3⟩ := hc h
    clear hc h
    refine ⟨fun t w' => ∃ i : Nat, t = .int .i64 i ∧ i ≤ p.classes.length ∧ Own B w' (bk b1 30 (pcells p) :: L), fun t _ => match t with | .int _ i => (p.classes.length - i).toNat | _ => 0, ⟨0, rfl, by omega, hw1⟩, ?_⟩
    clear hw1
    rintro t3 wh0 ⟨i, rfl, hi, hw1⟩
    (repeat with_reducible first | refine qq ?_ | refine qr ?_ | refine qs ?_ | refine hw1.l 0 ?_)
    refine O.mk hp.cl.len ?_
    (repeat with_reducible first | refine qq ?_ | refine qr ?_ | refine qs ?_)
    refine Bc_dec (fun hlt => ?_) (fun hge => ?_)
    · obtain ⟨c, hcl⟩ := list_get (l := p.classes) (j := i) (by omega)
      obtain ⟨b, o, hix, hrd, _⟩ := hp.cl.at_ (by omega) encPC_len hcl
      obtain ⟨hl1, hl2⟩ := lens_eq hp hcl
      have hix := hix .i64 i (by omega) (by omega)
      refine hw1.dr fun w2 hw2 => ?_
      clear hw1
      have J1 : ∀ c, j14_1 (fun v w' => ∃ b, v = .bool b ∧ (b = true → ValidP p) ∧ Own B w' L) (.int .i64 i) (fun t w' => ∃ i : Nat, t = .int .i64 i ∧ i ≤ p.classes.length ∧ Own B w' (bk b1 30 (pcells p) :: L))
          (fun t _ => match t with | .int _ i => (p.classes.length - i).toNat | _ => 0) wh0 (.bool c) w2 := by
        intro c
        unfold j14_1
        refine Bc_b (fun _ => hno _ [_] hw2) (fun h => ?_)
        (repeat with_reducible first | refine qq ?_ | refine qr ?_ | refine qs ?_)
        exact ⟨⟨i + 1, rfl, by omega, hw2⟩, by simp only; omega⟩
      (repeat with_reducible first | refine qq ?_ | refine qr ?_ | refine qs ?_ | refine hw2.l 0 ?_)
      refine O.mk hix ?_
      (repeat with_reducible first | refine qq ?_ | refine qr ?_ | refine qs ?_)
      refine O.mk (hrd _ _ hw2 2 _ rfl) ?_
      refine O.mk hl1 ?_
      (repeat with_reducible first | refine qq ?_ | refine qr ?_ | refine qs ?_)
      refine Bc_dec (fun h => J1 true) (fun h => ?_)
      (repeat with_reducible first | refine qq ?_ | refine qr ?_ | refine qs ?_ | refine hw2.l 0 ?_)
      refine O.mk hix ?_
      (repeat with_reducible first | refine qq ?_ | refine qr ?_ | refine qs ?_)
      refine O.mk (hrd _ _ hw2 1 _ rfl) ?_
      refine O.mk hl2 ?_
      (repeat with_reducible first | refine qq ?_ | refine qr ?_ | refine qs ?_ | refine hw2.l 0 ?_)
      refine O.mk hix ?_
      (repeat with_reducible first | refine qq ?_ | refine qr ?_ | refine qs ?_)
      refine O.mk (hrd _ _ hw2 2 _ rfl) ?_
      refine O.mk hl1 ?_
      (repeat with_reducible first | refine qq ?_ | refine qr ?_ | refine qs ?_)
      exact J1 _
    · refine ⟨fun t w' => ∃ i : Nat, t = .int .i64 i ∧ i ≤ p.comps.length ∧ (∀ (j : Nat) (k : PK), j < i → p.comps[j]? = some k → (0 ≤ k.looper ∧ k.looper < p.nl) ∧ ∀ j : Nat, j < 4 → 0 ≤ fK k j → Root p (fK k j)) ∧ Own B w' (bk b1 30 (pcells p) :: L),
        fun t _ => match t with | .int _ i => (p.comps.length - i).toNat | _ => 0, ⟨0, rfl, by omega, fun j k h => by omega, hw1⟩, ?_⟩
      clear hw1 hge hi
      rintro t4 wh1 ⟨i, rfl, hi, hcomp, hw1⟩
      (repeat with_reducible first | refine qq ?_ | refine qr ?_ | refine qs ?_ | refine hw1.l 0 ?_)
      refine O.mk hp.co.len ?_
      (repeat with_reducible first | refine qq ?_ | refine qr ?_ | refine qs ?_)
      refine Bc_dec (fun hlt => ?_) (fun hge => ?_)
      · obtain ⟨c, hcl⟩ := list_get (l := p.comps) (j := i) (by omega)
        obtain ⟨b, o, hix, hrd, _⟩ := hp.co.at_ (by omega) encPK_len hcl
        have hix := hix .i64 i (by omega) (by omega)
        refine ⟨fun t w' => ∃ j : Nat, t = .int .i64 j ∧ j ≤ 4 ∧ (∀ k : Nat, k < j → 0 ≤ fK c k → Root p (fK c k)) ∧ Own B w' (bk b1 30 (pcells p) :: L),
          fun t _ => match t with | .int _ i => (4 - i).toNat | _ => 0, ⟨0, rfl, by omega, fun j h => by omega, hw1⟩, ?_⟩
        clear hw1
        rintro t5 wh2 ⟨j, rfl, hj, hroots, hw1⟩
        (repeat with_reducible first | refine qq ?_ | refine qr ?_ | refine qs ?_)
        refine Bc_dec (fun hj4 => ?_) (fun hj4 => ?_)
        · refine hw1.dr fun w2 hw2 => ?_
          clear hw1
          have hrdj : ∀ w' L', Own B w' L' → rd1 (.pointer (some ⟨b, o + (i : Int).toNat * 6 + 2 + (j : Int).toNat * 1, none⟩)) w' = some (.int .i64 (fK c j)) := by
            intro w' L' h'
            have : j = 0 ∨ j = 1 ∨ j = 2 ∨ j = 3 := by omega
            rcases this with rfl | rfl | rfl | rfl
            · exact hrd _ _ h' 2 _ rfl
            · exact hrd _ _ h' 3 _ rfl
            · exact hrd _ _ h' 4 _ rfl
            · exact hrd _ _ h' 5 _ rfl
          have J2 : ∀ c0 w3, Own B w3 (bk b1 30 (pcells p) :: L) → (c0 = false → 0 ≤ fK c j → Root p (fK c j)) → j14_2 (fun v w' => ∃ b, v = .bool b ∧ (b = true → ValidP p) ∧ Own B w' L) (.int .i64 j) (fun t w' => ∃ j : Nat, t = .int .i64 j ∧ j ≤ 4 ∧ (∀ k : Nat, k < j → 0 ≤ fK c k → Root p (fK c k)) ∧ Own B w' (bk b1 30 (pcells p) :: L))
              (fun t _ => match t with | .int _ i => (4 - i).toNat | _ => 0) wh2 (.bool c0) w3 := by
            intro c0 w3 hw3 hc0
            unfold j14_2
            refine Bc_b (fun _ => hno _ [_] hw3) (fun h => ?_)
            have hc0 := hc0 h
            (repeat with_reducible first | refine qq ?_ | refine qr ?_ | refine qs ?_)
            refine ⟨⟨j + 1, rfl, by omega, fun k hk hk0 => ?_, hw3⟩, by simp only; omega⟩
            by_cases hkj : k = j
            · subst hkj; exact hc0 hk0
            · exact hroots k (by omega) hk0
          (repeat with_reducible first | refine qq ?_ | refine qr ?_ | refine qs ?_ | refine hw2.l 0 ?_)
          refine O.mk hix ?_
          (repeat with_reducible first | refine qq ?_ | refine qr ?_ | refine qs ?_)
          refine O.mk (iA_p (by omega) (by omega)) ?_
          refine O.mk (hrdj _ _ hw2) ?_
          (repeat with_reducible first | refine qq ?_ | refine qr ?_ | refine qs ?_)
          refine Bc_dec (fun h => ?_) (fun h => J2 false _ hw2 (fun _ h0 => absurd h0 (by omega)))
          refine O.mk (v := progV p) (hw2.rdN_bk 0 rfl (Nat.le_refl 8)) ?_
          (repeat with_reducible first | refine qq ?_ | refine qr ?_ | refine qs ?_ | refine hw2.l 0 ?_)
          refine O.mk hix ?_
          (repeat with_reducible first | refine qq ?_ | refine qr ?_ | refine qs ?_)
          refine O.mk (iA_p (by omega) (by omega)) ?_
          refine O.mk (hrdj _ _ hw2) ?_
          refine (k33 hp _ hw2).use ?_
          rintro _ w3 ⟨b0, rfl, hr, hw3⟩
          (repeat with_reducible first | refine qq ?_ | refine qr ?_ | refine qs ?_)
          exact J2 _ _ hw3 (fun hb _ => hr (by simpa using hb))
        · refine hw1.dr fun w2 hw2 => ?_
          clear hw1
          (repeat with_reducible first | refine qq ?_ | refine qr ?_ | refine qs ?_ | refine hw2.l 0 ?_)
          refine O.mk hix ?_
          (repeat with_reducible first | refine qq ?_ | refine qr ?_ | refine qs ?_)
          refine O.mk (hrd _ _ hw2 1 _ rfl) ?_
          (repeat with_reducible first | refine qq ?_ | refine qr ?_ | refine qs ?_ | refine hw2.l 0 ?_)
          refine O.mk hp.lo ?_
          refine (k34 _ _ _).use ?_
          rintro _ _ ⟨rfl, rfl⟩
          (repeat with_reducible first | refine qq ?_ | refine qr ?_ | refine qs ?_)
          refine Bc_dec (fun h => hno _ [_] hw2) (fun h => ?_)
          (repeat with_reducible first | refine qq ?_ | refine qr ?_ | refine qs ?_)
          refine ⟨⟨i + 1, rfl, by omega, fun j' k hj' hk => ?_, hw2⟩, by simp only; omega⟩
          by_cases hji : j' = i
          · subst hji
            rw [hcl] at hk; cases hk
            exact ⟨by simpa using h, fun m hm => hroots m (by omega)⟩
          · exact hcomp j' k (by omega) hk
      · refine ⟨fun t w' => ∃ i : Nat, t = .int .i64 i ∧ i ≤ p.events.length ∧ (∀ (j : Nat) (k : PE), j < i → p.events[j]? = some k → (0 ≤ k.looper ∧ k.looper < p.nl) ∧ Root p k.func) ∧ Own B w' (bk b1 30 (pcells p) :: L),
          fun t _ => match t with | .int _ i => (p.events.length - i).toNat | _ => 0, ⟨0, rfl, by omega, fun j k h => by omega, hw1⟩, ?_⟩
        have hcomp' : ∀ (j : Nat) (k : PK), p.comps[j]? = some k → (0 ≤ k.looper ∧ k.looper < p.nl) ∧ ∀ j : Nat, j < 4 → 0 ≤ fK k j → Root p (fK k j) := fun j k h => hcomp j k (by have := list_lt h; omega) h
        clear hw1 hcomp hge hi
        rintro t4 wh1 ⟨i, rfl, hi, hev, hw1⟩
        (repeat with_reducible first | refine qq ?_ | refine qr ?_ | refine qs ?_ | refine hw1.l 0 ?_)
        refine O.mk hp.evs.len ?_
        (repeat with_reducible first | refine qq ?_ | refine qr ?_ | refine qs ?_)
        refine Bc_dec (fun hlt => ?_) (fun hge => ?_)
        · obtain ⟨c, hcl⟩ := list_get (l := p.events) (j := i) (by omega)
          obtain ⟨b, o, hix, hrd, _⟩ := hp.evs.at_ (by omega) encPE_len hcl
          have hix := hix .i64 i (by omega) (by omega)
          refine hw1.dr fun w2 hw2 => ?_
          clear hw1
          have J3 : ∀ c0 w3, Own B w3 (bk b1 30 (pcells p) :: L) → (c0 = false → (0 ≤ c.looper ∧ c.looper < p.nl) ∧ Root p c.func) → j14_3 (fun v w' => ∃ b, v = .bool b ∧ (b = true → ValidP p) ∧ Own B w' L) (.int .i64 i) (fun t w' => ∃ i : Nat, t = .int .i64 i ∧ i ≤ p.events.length ∧ (∀ (j : Nat) (k : PE), j < i → p.events[j]? = some k → (0 ≤ k.looper ∧ k.looper < p.nl) ∧ Root p k.func) ∧ Own B w' (bk b1 30 (pcells p) :: L))
              (fun t _ => match t with | .int _ i => (p.events.length - i).toNat | _ => 0) wh1 (.bool c0) w3 := by
            intro c0 w3 hw3 hc0
            unfold j14_3
            refine Bc_b (fun _ => hno _ [_] hw3) (fun h => ?_)
            have hc0 := hc0 h
            (repeat with_reducible first | refine qq ?_ | refine qr ?_ | refine qs ?_)
            refine ⟨⟨i + 1, rfl, by omega, fun k e hk he => ?_, hw3⟩, by simp only; omega⟩
            by_cases hki : k = i
            · subst hki; rw [hcl] at he; cases he; exact hc0
            · exact hev k e (by omega) he
          (repeat with_reducible first | refine qq ?_ | refine qr ?_ | refine qs ?_ | refine hw2.l 0 ?_)
          refine O.mk hix ?_
          (repeat with_reducible first | refine qq ?_ | refine qr ?_ | refine qs ?_)
          refine O.mk (hrd _ _ hw2 1 _ rfl) ?_
          (repeat with_reducible first | refine qq ?_ | refine qr ?_ | refine qs ?_ | refine hw2.l 0 ?_)
          refine O.mk hp.lo ?_
          refine (k34 _ _ _).use ?_
          rintro _ _ ⟨rfl, rfl⟩
          (repeat with_reducible first | refine qq ?_ | refine qr ?_ | refine qs ?_)
          refine Bc_dec (fun h => J3 true _ hw2 (fun h => by cases h)) (fun h => ?_)
          refine O.mk (v := progV p) (hw2.rdN_bk 0 rfl (Nat.le_refl 8)) ?_
          (repeat with_reducible first | refine qq ?_ | refine qr ?_ | refine qs ?_ | refine hw2.l 0 ?_)
          refine O.mk hix ?_
          (repeat with_reducible first | refine qq ?_ | refine qr ?_ | refine qs ?_)
          refine O.mk (hrd _ _ hw2 3 _ rfl) ?_
          refine (k33 hp _ hw2).use ?_
          rintro _ w3 ⟨b0, rfl, hr, hw3⟩
          (repeat with_reducible first | refine qq ?_ | refine qr ?_ | refine qs ?_)
          exact J3 _ _ hw3 (fun hb => ⟨by simpa using h, hr (by simpa using hb)⟩)
        · exact ⟨true, rfl, fun _ => ⟨v1, v2, v3, hcomp', fun j e he => hev j e (by have := list_lt he; omega) he⟩, hw1.tail⟩
  (repeat with_reducible first | refine qq ?_ | refine qr ?_ | refine qs ?_ | refine hw1.l 0 ?_)
  refine O.mk hp.lo ?_
  (repeat with_reducible first | refine qq ?_ | refine qr ?_ | refine qs ?_)
  refine Bc_dec (fun h => J0 true _ hw1 (fun h => by cases h)) (fun h1 => ?_)
  (repeat with_reducible first | refine qq ?_ | refine qr ?_ | refine qs ?_ | refine hw1.l 0 ?_)
  refine O.mk hp.lo ?_
  (repeat with_reducible first | refine qq ?_ | refine qr ?_ | refine qs ?_)
  refine Bc_dec (fun h => J0 true _ hw1 (fun h => by cases h)) (fun h2 => ?_)
  (repeat with_reducible first | refine qq ?_ | refine qr ?_ | refine qs ?_ | refine hw1.l 0 ?_)
  refine O.mk hp.cl.len ?_
  (repeat with_reducible first | refine qq ?_ | refine qr ?_ | refine qs ?_)
  refine Bc_dec (fun h => J0 true _ hw1 (fun h => by cases h)) (fun h3 => ?_)
  (repeat with_reducible first | refine qq ?_ | refine qr ?_ | refine qs ?_ | refine hw1.l 0 ?_)
  refine O.mk hp.gl ?_
  (repeat with_reducible first | refine qq ?_ | refine qr ?_ | refine qs ?_)
  refine Bc_dec (fun h => J0 true _ hw1 (fun h => by cases h)) (fun h4 => ?_)
  (repeat with_reducible first | refine qq ?_ | refine qr ?_ | refine qs ?_ | refine hw1.l 0 ?_)
  refine O.mk hp.co.len ?_
  (repeat with_reducible first | refine qq ?_ | refine qr ?_ | refine qs ?_)
  refine Bc_dec (fun h => J0 true _ hw1 (fun h => by cases h)) (fun h5 => ?_)
  (repeat with_reducible first | refine qq ?_ | refine qr ?_ | refine qs ?_ | refine hw1.l 0 ?_)
  refine O.mk hp.evs.len ?_
  (repeat with_reducible first | refine qq ?_ | refine qr ?_ | refine qs ?_)
  refine Bc_dec (fun h => J0 true _ hw1 (fun h => by cases h)) (fun h6 => ?_)
  (repeat with_reducible first | refine qq ?_ | refine qr ?_ | refine qs ?_ | refine hw1.l 0 ?_)
  refine O.mk hp.fn.len ?_
  (repeat with_reducible first | refine qq ?_ | refine qr ?_ | refine qs ?_)
  refine Bc_dec (fun h => J0 true _ hw1 (fun h => by cases h)) (fun h7 => ?_)
  (repeat with_reducible first | refine qq ?_ | refine qr ?_ | refine qs ?_ | refine hw1.l 0 ?_)
  refine O.mk hp.fn.len ?_
  (repeat with_reducible first | refine qq ?_ | refine qr ?_ | refine qs ?_)
  refine Bc_dec (fun h => J0 true _ hw1 (fun h => by cases h)) (fun h8 => ?_)
  refine O.mk (v := progV p) (hw1.rdN_bk 0 rfl (Nat.le_refl 8)) ?_
  (repeat with_reducible first | refine qq ?_ | refine qr ?_ | refine qs ?_ | refine hw1.l 0 ?_)
  refine (k33 hp _ hw1).use ?_
  rintro _ w3 ⟨b0, rfl, hr, hw3⟩
  (repeat with_reducible first | refine qq ?_ | refine qr ?_ | refine qs ?_)
  exact J0 _ _ hw3 (fun hb => ⟨by omega, by omega, hr (by simpa using hb)⟩)
end Go.Proofs.Ytedcfkigfcobaaa
end
/- Contracts: may a program be; is it much. -/
section
namespace Go.Proofs.Ytedcfkigfcobaaa
open Go Go.Proofs
attribute [local irreducible] Bc O AL BS MS MM ST AP CV Cl
theorem bi_addb {a b : Nat} (h : a + b < 2 ^ 62) : bi .add (.int .i64 a) (.int .i64 b) = some (.int .i64 ((a + b : Nat) : Int)) := by
  rw [bi_add (by omega)]; simp
set_option maxHeartbeats 1000000 in
theorem k5 {B : Base} {w : World} {L : List Atom} {p : PP} (hp : ProgOK B p) (hb : p.nl < 2 ^ 48 ∧ p.ng < 2 ^ 48) (hw : Own B w L) :
    Cl Try.prog 5 [progV p] w fun v w' => ∃ b, v = .bool b ∧ Own B w' L := by
  have hbk := hp.bk
  have hbf := hp.bf
  refine s5 ?_
  unfold c5
  refine hw.al fun b1 w1 hb1 hw1 => ?_
  clear hw
  (repeat with_reducible first | refine qq ?_ | refine qr ?_ | refine qs ?_ | refine hw1.l 0 ?_)
  refine O.mk hp.lo ?_
  (repeat with_reducible first | refine qq ?_ | refine qr ?_ | refine qs ?_ | refine hw1.l 0 ?_)
  refine O.mk hp.cl.len ?_
  (repeat with_reducible first | refine qq ?_ | refine qr ?_ | refine qs ?_ | refine hw1.l 0 ?_)
  refine O.mk hp.gl ?_
  (repeat with_reducible first | refine qq ?_ | refine qr ?_ | refine qs ?_ | refine hw1.l 0 ?_)
  refine O.mk hp.co.len ?_
  (repeat with_reducible first | refine qq ?_ | refine qr ?_ | refine qs ?_ | refine hw1.l 0 ?_)
  refine O.mk hp.evs.len ?_
  (repeat with_reducible first | refine qq ?_ | refine qr ?_ | refine qs ?_ | refine hw1.l 0 ?_)
  refine O.mk hp.fn.len ?_
  (repeat with_reducible first | refine qq ?_ | refine qr ?_ | refine qs ?_ | refine hw1.l 0 ?_)
  refine O.mk hp.si.len ?_
  (repeat with_reducible first | refine qq ?_ | refine qr ?_ | refine qs ?_)
  obtain ⟨I0, hI⟩ : ∃ I : Value → Value → World → Prop, I = fun t t' w' => ∃ (n : Int) (i : Nat), t = .int .i64 n ∧ t' = .int .i64 i ∧ i ≤ p.funcs.length ∧ Own B w' (bk b1 30 (pcells p) :: L) := ⟨_, rfl⟩
  obtain ⟨m0, hm⟩ : ∃ m : Value → Value → World → Nat, m = fun _ t _ => match t with | .int _ i => (p.funcs.length - i).toNat | _ => 0 := ⟨_, rfl⟩
  refine ⟨I0, m0, by rw [hI]; exact ⟨_, 0, rfl, rfl, by omega, hw1⟩, ?_⟩
  clear hw1
  intro t3 t4 wh0 h0
  rw [hI] at h0
  obtain ⟨n, i, rfl, rfl, hi, hw1⟩ := h0
  have J0 : ∀ c, (c = true → i < p.funcs.length) → j5_0 (fun v w' => ∃ b, v = .bool b ∧ Own B w' L) (.pointer (some ⟨b1, 0, none⟩)) (.int .i64 i) (.int .i64 n) I0 m0 wh0 (.bool c) wh0 := by
    intro c hc
    unfold j5_0
    refine Bc_b (fun h => ?_) (fun _ => ?_)
    · have hlt := hc h
      obtain ⟨f, hf⟩ := list_get (l := p.funcs) (j := i) (by omega)
      obtain ⟨b, o, hix, hrd, _⟩ := hp.fn.at_ (by omega) encPF_len hf
      have hmem := List.mem_of_getElem? hf
      have hcode := hp.code f hmem
      have hbc := hp.bc f hmem
      have hix := hix .i64 i (by omega) (by omega)
      (repeat with_reducible first | refine qq ?_ | refine qr ?_ | refine qs ?_ | refine hw1.l 0 ?_)
      refine O.mk hix ?_
      (repeat with_reducible first | refine qq ?_ | refine qr ?_ | refine qs ?_)
      refine O.mk (hrd _ _ hw1 3 _ rfl) ?_
      refine O.mk hcode.len ?_
      refine O.mk bi_addw ?_
      obtain ⟨I1, hI1⟩ : ∃ I : Value → Value → World → Prop, I = fun t t' w' => ∃ (n : Int) (i : Nat), t = .int .i64 n ∧ t' = .int .i64 i ∧ i ≤ f.code.length ∧ Own B w' (bk b1 30 (pcells p) :: L) := ⟨_, rfl⟩
      obtain ⟨m1, hm1⟩ : ∃ m : Value → Value → World → Nat, m = fun _ t _ => match t with | .int _ i => (f.code.length - i).toNat | _ => 0 := ⟨_, rfl⟩
      refine ⟨I1, m1, by rw [hI1]; exact ⟨_, 0, rfl, rfl, by omega, hw1⟩, ?_⟩
      clear hw1 hc
      intro t3 t4 wh1 h0
      rw [hI1] at h0
      obtain ⟨n1, k, rfl, rfl, hk, hw1⟩ := h0
      have J1 : ∀ c, (c = true → k < f.code.length) → j5_1 (fun v w' => ∃ b, v = .bool b ∧ Own B w' L) (.pointer (some ⟨b1, 0, none⟩)) (.int .i64 i) (.int .i64 k) (.int .i64 n1) I1 m1 wh1 I0 m0 (.int .i64 n) wh0 (.bool c) wh1 := by
        intro c hc
        unfold j5_1
        refine Bc_b (fun h => ?_) (fun _ => ?_)
        · have hlt := hc h
          obtain ⟨x, hx⟩ := list_get (l := f.code) (j := k) (by omega)
          have hmx := List.mem_of_getElem? hx
          obtain ⟨b', o', hix', hrd', _⟩ := hcode.at_ (by omega) encPI_len hx
          (repeat with_reducible first | refine qq ?_ | refine qr ?_ | refine qs ?_ | refine hw1.l 0 ?_)
          refine O.mk hix ?_
          (repeat with_reducible first | refine qq ?_ | refine qr ?_ | refine qs ?_)
          refine O.mk (hrd _ _ hw1 3 _ rfl) ?_
          refine O.mk (hix' _ _ (by omega) rfl) ?_
          (repeat with_reducible first | refine qq ?_ | refine qr ?_ | refine qs ?_)
          refine O.mk (hrd' _ _ hw1 5 _ rfl) ?_
          refine O.mk (hp.li f hmem x hmx).len ?_
          refine O.mk bi_addw ?_
          (repeat with_reducible first | refine qq ?_ | refine qr ?_ | refine qs ?_)
          rw [hI1, hm1]
          exact ⟨⟨_, k + 1, rfl, rfl, by omega, hw1⟩, by simp only; omega⟩
        · (repeat with_reducible first | refine qq ?_ | refine qr ?_ | refine qs ?_)
          rw [hI, hm]
          exact ⟨⟨_, i + 1, rfl, rfl, by omega, hw1⟩, by simp only; omega⟩
      (repeat with_reducible first | refine qq ?_ | refine qr ?_ | refine qs ?_ | refine hw1.l 0 ?_)
      refine O.mk hix ?_
      (repeat with_reducible first | refine qq ?_ | refine qr ?_ | refine qs ?_)
      refine O.mk (hrd _ _ hw1 3 _ rfl) ?_
      refine O.mk hcode.len ?_
      (repeat with_reducible first | refine qq ?_ | refine qr ?_ | refine qs ?_)
      refine Bc_dec (fun h => ?_) (fun h => J1 false (fun h => by cases h))
      have h' : k < f.code.length := by omega
      (repeat with_reducible first | refine qq ?_ | refine qr ?_ | refine qs ?_)
      exact J1 _ (fun _ => h')
    · (repeat with_reducible first | refine qq ?_ | refine qr ?_ | refine qs ?_)
      exact ⟨_, rfl, hw1.tail⟩
  (repeat with_reducible first | refine qq ?_ | refine qr ?_ | refine qs ?_ | refine hw1.l 0 ?_)
  refine O.mk hp.fn.len ?_
  (repeat with_reducible first | refine qq ?_ | refine qr ?_ | refine qs ?_)
  refine Bc_dec (fun h => ?_) (fun h => J0 false (fun h => by cases h))
  have h' : i < p.funcs.length := by omega
  (repeat with_reducible first | refine qq ?_ | refine qr ?_ | refine qs ?_)
  exact J0 _ (fun _ => h')

structure FuncOK (p : PP) (f : PF) : Prop where
  regs : 0 ≤ f.regs ∧ f.regs ≤ 256
  caps : 0 ≤ f.caps ∧ f.caps ≤ f.regs
  len : 1 ≤ f.code.length ∧ f.code.length ≤ 512
  instr : ∀ (i : Nat) (x : PI), f.code[i]? = some x → ValidI p f x
  last : ∀ x, f.code[f.code.length - 1]? = some x → x.op = 33 ∨ x.op = 31
structure MayP (p : PP) : Prop where
  parts : ValidP p
  funcs : ∀ (i : Nat) (f : PF), p.funcs[i]? = some f → FuncOK p f
theorem tsz83 : tsz Try.prog 83 = some 2 := by kernel_rfl
theorem fill83 (a b : Int) : (fillW Try.prog 83 [(0, .int .i64 a), (1, .int .i64 b)]).map Value.agg = some (.agg #[.int .i64 a, .int .i64 b]) := by kernel_rfl
theorem be_neq2 (a b c d : Int) : be 2 .neq (.agg #[.int .i64 a, .int .i64 b]) (.agg #[.int .i64 c, .int .i64 d]) = some (.bool (!(a == c && (b == d && true)))) := by
  simp [be, eqCells]
theorem encPF_one {f : PF} (h : one f.cv = true) : (encPF f).all one = true := by
  show (true && (true && (true && (one f.cv && true)))) = true
  rw [h]; rfl
theorem encPI_one {x : PI} (h : one x.lv = true) : (encPI x).all one = true := by
  show (true && (true && (true && (true && (true && (one x.lv && (true && (true && true)))))))) = true
  rw [h]; rfl
set_option maxHeartbeats 1000000 in
theorem k6 {B : Base} {w : World} {L : List Atom} {p : PP} (hp : ProgOK B p) (hw : Own B w L) :
    Cl Try.prog 6 [progV p] w fun v w' => ∃ b, v = .bool b ∧ (b = true → MayP p) ∧ Own B w' L := by
  have hbk := hp.bk
  have hbf := hp.bf
  obtain ⟨R, hR⟩ : ∃ R : Value → World → Prop, R = fun v w' => ∃ b, v = .bool b ∧ (b = true → MayP p) ∧ Own B w' L := ⟨_, rfl⟩
  rw [← hR]
  have hno : ∀ w' (L' : List Atom), Own B w' (L' ++ L) → R (.bool false) w' := by
    rw [hR]; exact fun w' L' h => ⟨false, rfl, (fun h => by cases h), h.dropL⟩
  refine s6 ?_
  unfold c6
  refine hw.al fun b1 w1 hb1 hw1 => ?_
  clear hw
  refine O.mk (v := progV p) (hw1.rdN_bk 0 rfl (Nat.le_refl 8)) ?_
  refine (k14 hp hw1).use ?_
  clear hw1
  rintro _ w2 ⟨b, rfl, hv, hw1⟩
  (repeat with_reducible first | refine qq ?_ | refine qr ?_ | refine qs ?_)
  refine Bc_b (fun _ => hno _ [_] hw1) (fun h => ?_)
  have hV := hv (by simpa using h)
  clear hv h
  obtain ⟨I0, hI⟩ : ∃ I : Value → Value → World → Prop, I = fun t t' w' => ∃ (n i : Nat), t = .int .i64 n ∧ t' = .int .i64 i ∧ n ≤ i * 512 ∧ i ≤ p.funcs.length ∧ (∀ (j : Nat) (f : PF), j < i → p.funcs[j]? = some f → FuncOK p f) ∧ Own B w' (bk b1 30 (pcells p) :: L) := ⟨_, rfl⟩
  obtain ⟨m0, hm⟩ : ∃ m : Value → Value → World → Nat, m = fun _ t _ => match t with | .int _ i => (p.funcs.length - i).toNat | _ => 0 := ⟨_, rfl⟩
  refine ⟨I0, m0, by rw [hI]; exact ⟨0, 0, rfl, rfl, by omega, by omega, fun j f h => by omega, hw1⟩, ?_⟩
  clear hw1
  intro t3 t4 wh0 h0
  rw [hI] at h0
  obtain ⟨n, i, rfl, rfl, hn, hi, hfs, hw1⟩ := h0
  (repeat with_reducible first | refine qq ?_ | refine qr ?_ | refine qs ?_ | refine hw1.l 0 ?_)
  refine O.mk hp.fn.len ?_
  (repeat with_reducible first | refine qq ?_ | refine qr ?_ | refine qs ?_)
  refine Bc_dec (fun hlt => ?_) (fun hge => ?_)
  · obtain ⟨f, hf⟩ := list_get (l := p.funcs) (j := i) (by omega)
    obtain ⟨b, o, hix, hrd, hrdN⟩ := hp.fn.at_ (by omega) encPF_len hf
    have hmem := List.mem_of_getElem? hf
    have hcode := hp.code f hmem
    have hbc := hp.bc f hmem
    have hix := hix .i64 i (by omega) (by omega)
    (repeat with_reducible first | refine qq ?_ | refine qr ?_ | refine qs ?_ | refine hw1.l 0 ?_)
    refine O.mk hix ?_
    refine O.mk (hrdN _ _ hw1) ?_
    refine hw1.al fun b2 w2 hb2 hw2 => ?_
    clear hw1
    refine hw2.st_bk (x := .agg (encPF f).toArray) 0 rfl tsz76 ?_ (Nat.le_refl 4) fun w3 hw3 => ?_
    · exact encPF_one hcode.one
    replace hw3 : Own B w3 (bk b2 76 (encPF f) :: bk b1 30 (pcells p) :: L) := hw3
    clear hw2
    have J0 : ∀ c, (c = false → (0 ≤ f.regs ∧ f.regs ≤ 256) ∧ (0 ≤ f.caps ∧ f.caps ≤ f.regs) ∧ (1 ≤ f.code.length ∧ f.code.length ≤ 512)) →
        j6_0 R (.int .i64 n) (.pointer (some ⟨b2, 0, none⟩)) (.pointer (some ⟨b1, 0, none⟩)) (.int .i64 i) I0 m0 wh0 (.bool c) w3 := by
      intro c hc
      unfold j6_0
      refine Bc_b (fun _ => hno _ [_, _] hw3) (fun h => ?_)
      obtain ⟨h1, h2, h3⟩ := hc h
      clear hc h
      obtain ⟨I1, hI1⟩ : ∃ I : Value → Value → World → Prop, I = fun t t' w' => ∃ (n k : Nat), t = .int .i64 n ∧ t' = .int .i64 k ∧ n ≤ i * 512 + k ∧ k ≤ f.code.length ∧ (∀ (j : Nat) (x : PI), j < k → f.code[j]? = some x → ValidI p f x) ∧ Own B w' (bk b2 76 (encPF f) :: bk b1 30 (pcells p) :: L) := ⟨_, rfl⟩
      obtain ⟨m1, hm1⟩ : ∃ m : Value → Value → World → Nat, m = fun _ t _ => match t with | .int _ i => (f.code.length - i).toNat | _ => 0 := ⟨_, rfl⟩
      refine ⟨I1, m1, by rw [hI1]; exact ⟨n, 0, rfl, rfl, Nat.le_trans hn (Nat.le_add_right _ _), by omega, fun j x h => by omega, hw3⟩, ?_⟩
      clear hw3
      intro t3 t4 wh1 h0
      rw [hI1] at h0
      obtain ⟨n1, k, rfl, rfl, hn1, hk, hxs, hw1⟩ := h0
      (repeat with_reducible first | refine qq ?_ | refine qr ?_ | refine qs ?_ | refine hw1.l 0 ?_ | refine hw1.l 1 ?_)
      refine O.mk hcode.len ?_
      (repeat with_reducible first | refine qq ?_ | refine qr ?_ | refine qs ?_)
      refine Bc_dec (fun hlt => ?_) (fun hge => ?_)
      · obtain ⟨x, hx⟩ := list_get (l := f.code) (j := k) (by omega)
        have hmx := List.mem_of_getElem? hx
        have hli := hp.li f hmem x hmx
        obtain ⟨b', o', hix', hrd', hrdN'⟩ := hcode.at_ (by omega) encPI_len hx
        (repeat with_reducible first | refine qq ?_ | refine qr ?_ | refine qs ?_ | refine hw1.l 0 ?_ | refine hw1.l 1 ?_)
        refine O.mk (hix' _ _ (by omega) rfl) ?_
        refine O.mk (hrdN' _ _ hw1) ?_
        refine hw1.al fun b3 w4 hb3 hw4 => ?_
        clear hw1
        refine hw4.st_bk (x := .agg (encPI x).toArray) 0 rfl tsz79 ?_ (Nat.le_refl 8) fun w5 hw5 => ?_
        · exact encPI_one hli.one
        replace hw5 : Own B w5 (bk b3 79 (encPI x) :: bk b2 76 (encPF f) :: bk b1 30 (pcells p) :: L) := hw5
        clear hw4
        refine O.mk (v := progV p) (hw5.rdN_bk 2 rfl (Nat.le_refl 8)) ?_
        refine O.mk (v := .agg (encPF f).toArray) (hw5.rdN_bk 1 rfl (Nat.le_refl 4)) ?_
        refine O.mk (v := .agg (encPI x).toArray) (hw5.rdN_bk 0 rfl (Nat.le_refl 8)) ?_
        refine (k15 hp hcode.len hli (hbc.2 x hmx) hw5).use ?_
        clear hw5
        rintro _ w6 ⟨b0, rfl, hvi, hw5⟩
        (repeat with_reducible first | refine qq ?_ | refine qr ?_ | refine qs ?_)
        refine Bc_b (fun _ => hno _ [_, _, _] hw5) (fun h => ?_)
        have hVi := hvi (by simpa using h)
        clear hvi h
        have J1 : ∀ n2 : Nat, n2 ≤ n1 + 1 → j6_1 R (.int .i64 k) I1 m1 (.int .i64 n1) wh1 (.int .i64 n2) w6 := by
          intro n2 hn2
          unfold j6_1
          (repeat with_reducible first | refine qq ?_ | refine qr ?_ | refine qs ?_)
          rw [hI1, hm1]
          refine ⟨⟨n2, k + 1, rfl, rfl, by omega, by omega, fun j y hj hy => ?_, hw5.tail⟩, by simp only; omega⟩
          by_cases hjk : j = k
          · subst hjk; rw [hx] at hy; cases hy; exact hVi
          · exact hxs j y (by omega) hy
        have J2 : ∀ c, j6_2 R (.int .i64 n1) (.int .i64 k) I1 m1 wh1 (.bool c) w6 := by
          intro c
          unfold j6_2
          refine Bc_b (fun _ => hno _ [_, _, _] hw5) (fun h => ?_)
          refine O.mk (bi_addb (b := 1) (by omega)) ?_
          exact J1 (n1 + 1) (by omega)
        (repeat with_reducible first | refine qq ?_ | refine qr ?_ | refine qs ?_ | refine hw5.l 0 ?_ | refine hw5.l 1 ?_ | refine hw5.l 2 ?_)
        refine (k16 _ _).use ?_
        rintro _ _ ⟨rfl, rfl⟩
        (repeat with_reducible first | refine qq ?_ | refine qr ?_ | refine qs ?_)
        refine Bc_b (fun _ => ?_) (fun _ => ?_)
        · (repeat with_reducible first | refine qq ?_ | refine qr ?_ | refine qs ?_ | refine hw5.l 0 ?_ | refine hw5.l 1 ?_ | refine hw5.l 2 ?_)
          refine Bc_dec (fun _ => hno _ [_, _, _] hw5) (fun h => J1 n1 (by omega))
        · (repeat with_reducible first | refine qq ?_ | refine qr ?_ | refine qs ?_ | refine hw5.l 0 ?_ | refine hw5.l 1 ?_ | refine hw5.l 2 ?_)
          refine Bc_dec (fun _ => J2 true) (fun h => ?_)
          (repeat with_reducible first | refine qq ?_ | refine qr ?_ | refine qs ?_ | refine hw5.l 0 ?_ | refine hw5.l 1 ?_ | refine hw5.l 2 ?_)
          refine O.mk hp.si.len ?_
          (repeat with_reducible first | refine qq ?_ | refine qr ?_ | refine qs ?_)
          refine Bc_dec (fun _ => J2 true) (fun h => ?_)
          obtain ⟨s, hs⟩ := list_get (l := p.sites) (j := n1) (by omega)
          obtain ⟨b4, o4, hix4, hrd4, hrdN4⟩ := hp.si.at_ (by omega) encPS_len hs
          (repeat with_reducible first | refine qq ?_ | refine qr ?_ | refine qs ?_ | refine hw5.l 0 ?_ | refine hw5.l 1 ?_ | refine hw5.l 2 ?_)
          refine O.mk (hix4 _ _ (by omega) rfl) ?_
          refine O.mk (hrdN4 _ _ hw5) ?_
          refine O.mk (fill83 _ _) ?_
          exact O.mk (be_neq2 _ _ _ _) (J2 _)
      · have J3 : ∀ c, (c = false → ∀ x, f.code[f.code.length - 1]? = some x → x.op = 33 ∨ x.op = 31) → j6_3 R (.int .i64 i) I0 (.int .i64 n1) m0 (.int .i64 n) wh0 (.bool c) wh1 := by
          intro c hc
          unfold j6_3
          refine Bc_b (fun _ => hno _ [_, _] hw1) (fun h => ?_)
          (repeat with_reducible first | refine qq ?_ | refine qr ?_ | refine qs ?_)
          rw [hI, hm]
          refine ⟨⟨n1, i + 1, rfl, rfl, by omega, by omega, fun j g hj hg => ?_, hw1.tail⟩, by simp only; omega⟩
          by_cases hji : j = i
          · subst hji; rw [hf] at hg; cases hg
            exact ⟨h1, h2, h3, fun q x hq => hxs q x (by have := list_lt hq; omega) hq, hc h⟩
          · exact hfs j g (by omega) hg
        obtain ⟨x, hx⟩ := list_get (l := f.code) (j := f.code.length - 1) (by omega)
        obtain ⟨b', o', hix', hrd', hrdN'⟩ := hcode.at_ (by omega) encPI_len hx
        (repeat with_reducible first | refine qq ?_ | refine qr ?_ | refine qs ?_ | refine hw1.l 0 ?_ | refine hw1.l 1 ?_)
        refine O.mk hcode.len ?_
        (repeat with_reducible first | refine qq ?_ | refine qr ?_ | refine qs ?_)
        refine O.mk (hix' _ _ (by omega) (by omega)) ?_
        (repeat with_reducible first | refine qq ?_ | refine qr ?_ | refine qs ?_)
        refine O.mk (v := .int .i64 x.op) (by have := hrd' _ _ hw1 0 _ rfl; rw [← this]; congr 4; omega) ?_
        (repeat with_reducible first | refine qq ?_ | refine qr ?_ | refine qs ?_)
        refine Bc_dec (fun h => ?_) (fun h => J3 false (fun _ y hy => by rw [hx] at hy; cases hy; omega))
        (repeat with_reducible first | refine qq ?_ | refine qr ?_ | refine qs ?_)
        exact J3 _ (fun h' y hy => by rw [hx] at hy; cases hy; right; simpa using h')
    (repeat with_reducible first | refine qq ?_ | refine qr ?_ | refine qs ?_ | refine hw3.l 0 ?_ | refine hw3.l 1 ?_)
    refine Bc_dec (fun h => J0 true (fun h => by cases h)) (fun h1 => ?_)
    (repeat with_reducible first | refine qq ?_ | refine qr ?_ | refine qs ?_ | refine hw3.l 0 ?_ | refine hw3.l 1 ?_)
    refine Bc_dec (fun h => J0 true (fun h => by cases h)) (fun h2 => ?_)
    (repeat with_reducible first | refine qq ?_ | refine qr ?_ | refine qs ?_ | refine hw3.l 0 ?_ | refine hw3.l 1 ?_)
    refine Bc_dec (fun h => J0 true (fun h => by cases h)) (fun h3 => ?_)
    (repeat with_reducible first | refine qq ?_ | refine qr ?_ | refine qs ?_ | refine hw3.l 0 ?_ | refine hw3.l 1 ?_)
    refine Bc_dec (fun h => J0 true (fun h => by cases h)) (fun h4 => ?_)
    (repeat with_reducible first | refine qq ?_ | refine qr ?_ | refine qs ?_ | refine hw3.l 0 ?_ | refine hw3.l 1 ?_)
    refine O.mk hcode.len ?_
    (repeat with_reducible first | refine qq ?_ | refine qr ?_ | refine qs ?_)
    refine Bc_dec (fun h => J0 true (fun h => by cases h)) (fun h5 => ?_)
    (repeat with_reducible first | refine qq ?_ | refine qr ?_ | refine qs ?_ | refine hw3.l 0 ?_ | refine hw3.l 1 ?_)
    refine O.mk hcode.len ?_
    (repeat with_reducible first | refine qq ?_ | refine qr ?_ | refine qs ?_)
    refine J0 _ (fun h6 => ?_)
    simp only [decide_eq_false_iff_not] at h6
    omega
  · (repeat with_reducible first | refine qq ?_ | refine qr ?_ | refine qs ?_ | refine hw1.l 0 ?_)
    refine O.mk hp.si.len ?_
    (repeat with_reducible first | refine qq ?_ | refine qr ?_ | refine qs ?_)
    have hall : MayP p := ⟨hV, fun j f hj => hfs j f (by have := list_lt hj; omega) hj⟩
    refine Bc_dec (fun _ => ?_) (fun _ => ?_)
    · (repeat with_reducible first | refine qq ?_ | refine qr ?_ | refine qs ?_)
      rw [hR]
      exact ⟨_, rfl, fun _ => hall, hw1.tail⟩
    · exact hno _ [_] hw1
end Go.Proofs.Ytedcfkigfcobaaa
end
/- More operations over parts; the tables of the slices' types. -/
section
namespace Go.Proofs.Ytedcfkigfcobaaa
open Go Go.Proofs
attribute [local irreducible] Bc O AL BS MS MM ST AP CV Cl
theorem T154 : SlT Try.prog 154 152 3 40 (.agg #[.int .i64 0, .int .i64 0, .slice none 0 0]) := ⟨by kernel_rfl, by kernel_rfl, by kernel_rfl, by kernel_rfl, rfl, by decide, by decide⟩
theorem T38 : SlT Try.prog 38 96 1 8 (.pointer none) := ⟨by kernel_rfl, by kernel_rfl, by kernel_rfl, by kernel_rfl, rfl, by decide, by decide⟩
theorem T39 : SlT Try.prog 39 3 1 8 (.int .i64 0) := ⟨by kernel_rfl, by kernel_rfl, by kernel_rfl, by kernel_rfl, rfl, by decide, by decide⟩
theorem T40 : SlT Try.prog 40 73 15 120 (.agg #[.int .i64 0, .int .i64 0, .int .i64 0, .int .i64 0, .int .i64 0, .int .i64 0, .int .i64 0, .bool false, .int .i64 0, .int .i64 0, .int .i64 0, .int .i64 0, .int .i64 0, .int .i64 0, .int .i64 0]) := ⟨by kernel_rfl, by kernel_rfl, by kernel_rfl, by kernel_rfl, rfl, by decide, by decide⟩
theorem T41 : SlT Try.prog 41 128 1 8 (.pointer none) := ⟨by kernel_rfl, by kernel_rfl, by kernel_rfl, by kernel_rfl, rfl, by decide, by decide⟩
theorem T42 : SlT Try.prog 42 2 1 8 (.int .i64 0) := ⟨by kernel_rfl, by kernel_rfl, by kernel_rfl, by kernel_rfl, rfl, by decide, by decide⟩
theorem T43 : SlT Try.prog 43 67 8 64 (.agg #[.int .i64 0, .int .i64 0, .int .i64 0, .int .i64 0, .int .i64 0, .int .i64 0, .int .i64 0, .bool false]) := ⟨by kernel_rfl, by kernel_rfl, by kernel_rfl, by kernel_rfl, rfl, by decide, by decide⟩
theorem T55 : SlT Try.prog 55 59 1 24 (.slice none 0 0) := ⟨by kernel_rfl, by kernel_rfl, by kernel_rfl, by kernel_rfl, rfl, by decide, by decide⟩
theorem T59 : SlT Try.prog 59 4 1 1 (.bool false) := ⟨by kernel_rfl, by kernel_rfl, by kernel_rfl, by kernel_rfl, rfl, by decide, by decide⟩
theorem T84 : SlT Try.prog 84 89 2 16 (.agg #[.int .i64 0, .int .i64 0]) := ⟨by kernel_rfl, by kernel_rfl, by kernel_rfl, by kernel_rfl, rfl, by decide, by decide⟩
theorem T90 : SlT Try.prog 90 195 6 64 (.agg #[.int .i64 0, .int .i64 0, .slice none 0 0, .int .i64 0, .int .i64 0, .int .i64 0]) := ⟨by kernel_rfl, by kernel_rfl, by kernel_rfl, by kernel_rfl, rfl, by decide, by decide⟩
theorem T97 : SlT Try.prog 97 133 3 24 (.agg #[.int .i64 0, .bool false, .int .i64 0]) := ⟨by kernel_rfl, by kernel_rfl, by kernel_rfl, by kernel_rfl, rfl, by decide, by decide⟩
section
variable {P : Program} {B : Base} {w : World} {L : List Atom}
/-- a part that is many -/
theorem Own.opn (h : Own B w L) (i : Nat) {A : List Atom} (hi : L[i]? = some (sep A)) : Own B w (A ++ L.eraseIdx i) := (h.pull i hi).unfold
theorem Own.shut {A : List Atom} {i : Nat} {a : Atom} (hi : L[i]? = some a) (h : Own B w (A ++ L.eraseIdx i)) : Own B w (L.set i (sep A)) := h.fold.perm (perm_set hi)
theorem Own.put {i : Nat} {a a' : Atom} (hi : L[i]? = some a) (h : Own B w (a' :: L.eraseIdx i)) : Own B w (L.set i a') := h.perm (perm_set hi)
theorem fill_go : ∀ (xs : List Value) (k : Nat) (a : Array Value), k + xs.length ≤ a.size → ∀ i, ((xs.zipIdx k).foldl (fun (cs : Array Value) (p : Value × Nat) => cs.setIfInBounds p.2 p.1) a)[i]? = if k ≤ i ∧ i < k + xs.length then xs[i - k]? else a[i]? := by
  intro xs
  induction xs with
  | nil => intro k a _ i; rw [if_neg (by simp only [List.length_nil]; omega)]; rfl
  | cons x xs ih =>
    intro k a h i
    simp only [List.length_cons] at h
    rw [List.zipIdx_cons, List.foldl_cons, ih (k + 1) _ (by simp; omega)]
    simp only [List.length_cons]
    by_cases h1 : k + 1 ≤ i ∧ i < k + 1 + xs.length
    · rw [if_pos h1, if_pos (by omega), show i - k = (i - (k + 1)) + 1 from by omega, List.getElem?_cons_succ]
    · rw [if_neg h1]
      by_cases h2 : i = k
      · subst h2
        rw [if_pos (by omega)]
        simp [show i < a.size by omega]
      · rw [if_neg (by omega), Array.getElem?_setIfInBounds_ne (Ne.symm h2)]
theorem fill_one {z x : Array Value} {v : Value} {sz : Nat} (hv : v.cells = x) (hz : z.size = sz) (hx : x.size = sz) : Instr.fill (fun i => some (i * sz, sz)) z [(0, v)] = some x := by
  unfold Instr.fill
  simp only [hv]
  rw [if_neg (by simp [hx, hz])]
  unfold Instr.fill
  simp only [Nat.zero_mul, Nat.zero_add]
  congr 1
  apply Array.ext_getElem?
  intro i
  have := fill_go x.toList 0 z (by simp; omega) i
  have e : (x.zipIdx.foldl (fun (cs : Array Value) (p : Value × Nat) => cs.setIfInBounds p.2 p.1) z) = ((x.toList.zipIdx 0).foldl (fun (cs : Array Value) (p : Value × Nat) => cs.setIfInBounds p.2 p.1) z) := by
    rw [← Array.foldl_toList]; simp
  have e' : (x.zipIdx.foldl (fun (cs : Array Value) (p : Value × Nat) => match p with | (c, j) => cs.setIfInBounds j c) z) = (x.zipIdx.foldl (fun (cs : Array Value) (p : Value × Nat) => cs.setIfInBounds p.2 p.1) z) := rfl
  rw [e', e, this]
  by_cases hi : i < x.size
  · rw [if_pos (by simpa using hi)]; simp
  · rw [if_neg (by simpa using hi), Array.getElem?_eq_none (by omega), Array.getElem?_eq_none (by omega)]
theorem bsx_one {e sz : Nat} {z v : Value} {x : Array Value} (hs : sz ≤ 2 ^ 24) (h0 : 0 < sz) (hz : z.cells.size = sz) (hv : v.cells = x) (hx : x.size = sz) : bsx e sz 1 z [(0, v)] = some (.cells x e, fun n => .slice (some ⟨n, 0, none⟩) 1 1) := by
  unfold bsx
  rw [if_pos ⟨by omega, hz, h0⟩]
  have : ((List.replicate 1 z.cells.toList).flatten).toArray = z.cells := by simp [List.replicate]
  rw [this, fill_one hv hz hx]
theorem Own.src_bk (h : Own B w L) {b : Nat} {t : TypeId} {vs : List Value} (i : Nat) (hi : L[i]? = some (bk b t vs)) {sz m l c : Nat} (hl : vs.length = m * sz) :
    ∀ w', w'.heap = w.heap → (Builtin.firstCells sz m (.slice (some ⟨b, 0, none⟩) l c)).run P w' = .ok vs.toArray w' := by
  intro w' hw'
  refine run_firstCells_blk (c := vs.toArray) (by rw [hw']; exact (h.blk hi).1) hl ?_
  intro j hj
  simp
/-- a new element behind a slice's -/
theorem Own.app (h : Own B w L) {sT xT e ty sz bytes n : Nat} {z v x : Value} {xs cs : List Value} (hT : SlT P sT e sz bytes z) (hxT : ∃ e', P.underlying xT = some (.slice e')) (i : Nat) (hi : L[i]? = some (sl e sz v n cs))
    (hs : sz ≤ 2 ^ 24) (hx : x.cells = xs.toArray) (hxs : xs.length = sz) (hone : xs.all one = true) (hb : (n + 1) * bytes ≤ 2 ^ 47) {k : Value → World → Prop} (hk : ∀ v' w', Own B w' (L.set i (sl e sz v' (n + 1) (cs ++ xs))) → k v' w') :
    BS e sz 1 z [(0, x)] w fun t w => AP P #[sT, xT] ty [v, t] w k := by
  refine h.bs (bsx_one hs hT.pos hT.cells hx (by simpa using hxs)) fun b w' hb' hw' => ?_
  have hi' : (bk b e xs.toArray.toList :: L)[i + 1]? = some (sl e sz v n cs) := by rw [List.getElem?_cons_succ]; exact hi
  refine hw'.ap (news := xs) (ty := ty) hT hxT (i + 1) hi' (hw'.src_bk 0 rfl (by simpa using hxs)) (by omega) hone hb fun v' w2 hw2 => hk v' w2 ?_
  rw [List.set_cons_succ] at hw2
  exact hw2.tail
/-- a new slice of zeros -/
theorem Own.mks (h : Own B w L) {e sz bytes n : Nat} {z : Value} (h0 : 0 < sz) (hz : z.cells.size = sz) (hb : bytes * n ≤ 2 ^ 48) (hn : n < 2 ^ 62) {k : Value → World → Prop}
    (hk : ∀ v w', Own B w' (sl e sz v n (List.replicate n z.cells.toList).flatten :: L) → k v w') : MS e sz bytes z (.int .i64 n) (.int .i64 n) w k := by
  unfold MS msx
  simp only
  rw [if_pos ⟨by omega, by omega, by exact_mod_cast hb, by omega, hz, h0⟩]
  rintro v w' rfl rfl
  refine hk _ _ (h.new _ fun g hg => ?_)
  right
  refine ⟨w.heap.size, n, [], by simp, Nat.le_refl _, ?_, by simp, ?_⟩
  · simp [List.length_flatten, hz]
  · simpa using hg
theorem Own.src_sl (h : Own B w L) {b n cap : Nat} {t : TypeId} {sz : Nat} {cs : List Value} (i : Nat) (hi : L[i]? = some (sl t sz (.slice (some ⟨b, 0, none⟩) n cap) n cs)) {o m l c : Nat} (hm : o + m * sz ≤ cs.length) :
    ∀ w', w'.heap = w.heap → (Builtin.firstCells sz m (.slice (some ⟨b, o, none⟩) l c)).run P w' = .ok ((cs.drop o).take (m * sz)).toArray w' := by
  intro w' hw'
  rcases h.slGet hi with ⟨h1, _⟩ | ⟨b', cap', sp, h1, h2, h3, h4, h5⟩
  · cases h1
  · cases h1
    refine run_firstCells_blk (c := (cs ++ sp).toArray) (by rw [hw']; exact h5) (by simp; omega) ?_
    intro j hj
    simp only [List.getElem?_toArray]
    rw [List.getElem?_append_left (by omega), List.getElem?_take_of_lt hj, List.getElem?_drop]
/-- a slice, once more -/
theorem Own.cln (h : Own B w L) {sT xT e ty sz bytes m : Nat} {z u : Value} {cs : List Value} (hT : SlT P sT e sz bytes z) (hxT : ∃ e', P.underlying xT = some (.slice e')) (j : Nat) (hj : L[j]? = some (sl e sz u m cs))
    (hone : cs.all one = true) (hb : m * bytes ≤ 2 ^ 47) {k : Value → World → Prop} (hk : ∀ v' w', Own B w' (sl e sz v' m cs :: L) → k v' w') : AP P #[sT, xT] ty [.slice none 0 0, u] w k := by
  have h0 := h.nilSl e sz
  rcases h.slGet hj with ⟨rfl, rfl, rfl⟩ | ⟨b, cap, sp, rfl, h2, h3, h4, h5⟩
  · refine h0.ap (n := 0) (m := 0) (news := []) (ty := ty) hT hxT 0 rfl (fun w' _ => run_firstCells_none _ _ _ _ _) (by simp) rfl (by simp) fun v' w' hw' => hk v' w' ?_
    simpa using hw'
  · have hj' : (sl e sz (.slice none 0 0) 0 [] :: L)[j + 1]? = some (sl e sz (.slice (some ⟨b, 0, none⟩) m cap) m cs) := by rw [List.getElem?_cons_succ]; exact hj
    have hsrc := h0.src_sl (P := P) (j + 1) hj' (o := 0) (m := m) (l := m) (c := cap) (by omega)
    have e1 : (cs.drop 0).take (m * sz) = cs := by rw [List.drop_zero, List.take_of_length_le (by omega)]
    rw [e1] at hsrc
    refine h0.ap (n := 0) (m := m) (news := cs) (ty := ty) hT hxT 0 rfl hsrc h3 hone (by simpa using hb) fun v' w' hw' => hk v' w' ?_
    simpa using hw'
end
theorem ints_one (l : List Int) : (ints l).all one = true := by
  unfold ints; rw [List.all_map]; simp [List.all_eq_true]; intro x _; rfl
theorem bools_one (l : List Bool) : (bools l).all one = true := by
  unfold bools; rw [List.all_map]; simp [List.all_eq_true, one]
theorem ints_len (l : List Int) : (ints l).length = l.length := by simp [ints]
theorem bools_len (l : List Bool) : (bools l).length = l.length := by simp [bools]
theorem flat_one {α : Type} {enc : α → List Value} (h : ∀ x, (enc x).all one = true) (xs : List α) : (xs.flatMap enc).all one = true := by
  induction xs with
  | nil => rfl
  | cons x xs ih => rw [List.flatMap_cons, List.all_append, h, ih]; rfl
theorem flat_app {α : Type} {enc : α → List Value} (xs : List α) (x : α) : xs.flatMap enc ++ enc x = (xs ++ [x]).flatMap enc := by simp
theorem ints_zero (n : Nat) : (List.replicate n (Value.int .i64 0).cells.toList).flatten = ints (List.replicate n 0) := by
  induction n with
  | zero => rfl
  | succ n ih => rw [List.replicate_succ, List.flatten_cons, ih]; rfl
theorem bools_zero (n : Nat) : (List.replicate n (Value.bool false).cells.toList).flatten = bools (List.replicate n false) := by
  induction n with
  | zero => rfl
  | succ n ih => rw [List.replicate_succ, List.flatten_cons, ih]; rfl
/-! an element of a slice -/
section
variable {P : Program} {B : Base} {w : World} {L : List Atom} {α : Type} {enc : α → List Value} {t sz : Nat} {v : Value} {xs : List α}
theorem Own.el (h : Own B w L) (j : Nat) (hj : L[j]? = some (sl t sz v xs.length (xs.flatMap enc))) (hsz : ∀ x, (enc x).length = sz) {i : Nat} {x : α} (hx : xs[i]? = some x) :
    ∃ b, (∀ (k : IntKind) (q : Int), 0 ≤ q → q.toNat = i → iS sz v (.int k q) = some (.pointer (some ⟨b, q.toNat * sz, none⟩))) ∧
      (∀ k y, (enc x)[k]? = some y → rd1 (.pointer (some ⟨b, i * sz + k, none⟩)) w = some y) ∧
      rdN sz (.pointer (some ⟨b, i * sz, none⟩)) w = some (.agg (enc x).toArray) := by
  have hi := list_lt hx
  obtain ⟨b, cap, rfl⟩ := h.slShape j hj (by omega)
  refine ⟨b, fun k q h0 hq => iS_0 h0 (by omega), fun k y hy => h.rd1_sl j hj (flat_get hsz hx hy), ?_⟩
  rw [h.rdN_sl j hj (m := sz) (by
    rw [flat_len hsz]
    have : i * sz + sz = (i + 1) * sz := by rw [Nat.add_mul]; omega
    rw [this]; exact Nat.mul_le_mul_right _ hi), flat_drop hsz hx]
theorem Own.elst (h : Own B w L) (j : Nat) (hj : L[j]? = some (sl t sz v xs.length (xs.flatMap enc))) (hsz : ∀ x, (enc x).length = sz) {i : Nat} {x x' : α} (hx : xs[i]? = some x) {b k : Nat} {kk : IntKind} {q : Int}
    (hix : iS sz v (.int kk q) = some (.pointer (some ⟨b, q.toNat * sz, none⟩))) (hq : q.toNat = i) {ty : TypeId} {X : Value} (ht : tsz P ty = some X.cells.size) (hone : X.cells.toList.all one = true)
    (hl : k + X.cells.size ≤ sz) (hu : updL (enc x) k X.cells.toList = enc x') {K : Value → World → Prop} (hk : ∀ w', Own B w' (L.set j (sl t sz v (xs.set i x').length ((xs.set i x').flatMap enc))) → K undef w') :
    ST P ty (.pointer (some ⟨b, q.toNat * sz + k, none⟩)) X w K := by
  have hi := list_lt hx
  obtain ⟨b', cap, rfl⟩ := h.slShape j hj (by omega)
  have hb : b' = b := by
    simp only [iS] at hix
    split at hix
    · simp only [Option.some.injEq, Value.pointer.injEq, Addr.mk.injEq] at hix; exact hix.1
    · cases hix
  subst hb
  have hle : q.toNat * sz + k + X.cells.size ≤ (xs.flatMap enc).length := by
    rw [flat_len hsz, hq]
    have : i * sz + sz ≤ xs.length * sz := by
      have : i * sz + sz = (i + 1) * sz := by rw [Nat.add_mul]; omega
      rw [this]; exact Nat.mul_le_mul_right _ hi
    omega
  refine h.st_sl j hj ht hone hle fun w' hw' => hk w' ?_
  rw [List.length_set, ← flat_upd hsz hx (by simpa using hl) hu, ← hq]
  exact hw'
end
theorem ints_flat (l : List Int) : ints l = l.flatMap fun n => [Value.int .i64 n] := by
  induction l with
  | nil => rfl
  | cons x l ih => rw [List.flatMap_cons, ← ih]; rfl
theorem bools_flat (l : List Bool) : bools l = l.flatMap fun n => [Value.bool n] := by
  induction l with
  | nil => rfl
  | cons x l ih => rw [List.flatMap_cons, ← ih]; rfl
theorem encI_len (n : Int) : ([Value.int .i64 n] : List Value).length = 1 := rfl
theorem encB_len (n : Bool) : ([Value.bool n] : List Value).length = 1 := rfl
theorem cells_one' {v : Value} (h : one v = true) : v.cells.toList = [v] := by cases v <;> first | rfl | (cases h; done)
theorem cells_one {v : Value} (h : one v = true) : v.cells.size = 1 := by cases v <;> first | rfl | (cases h; done)
section
variable {P : Program} {B : Base} {w : World} {L : List Atom}
theorem sl_one (h : Own B w L) {t sz n : Nat} {v : Value} {cs : List Value} (i : Nat) (hi : L[i]? = some (sl t sz v n cs)) : one v = true := by
  rcases h.slGet hi with ⟨rfl, _⟩ | ⟨b, cap, sp, rfl, _⟩ <;> rfl
/-- one cell is written -/
theorem Own.st1 (h : Own B w L) {b : Nat} {t : TypeId} {vs : List Value} (i : Nat) (hi : L[i]? = some (bk b t vs)) {ty : TypeId} {o : Nat} {x : Value} (ht : tsz P ty = some 1) (hx : one x = true)
    (hl : o < vs.length) {k : Value → World → Prop} (hk : ∀ w', Own B w' (L.set i (bk b t (vs.set o x))) → k undef w') : ST P ty (.pointer (some ⟨b, o, none⟩)) x w k := by
  refine h.st_bk i hi (by rw [ht, cells_one hx]) (by rw [cells_one' hx]; simp [hx]) (by rw [cells_one hx]; omega) fun w' hw' => hk w' ?_
  rw [cells_one' hx] at hw'
  have : updL vs o [x] = vs.set o x := by
    unfold updL
    rw [List.set_eq_take_append_cons_drop, if_pos hl]
    rfl
  rw [← this]; exact hw'
end
end Go.Proofs.Ytedcfkigfcobaaa
end
/- Contracts: the heap of objects. -/
section
namespace Go.Proofs.Ytedcfkigfcobaaa
open Go Go.Proofs
attribute [local irreducible] Bc O AL BS MS MM ST AP CV Cl
structure HS where
  b : Nat
  v : Value
  os : List HO
abbrev pp (b : Nat) : Value := .pointer (some ⟨b, 0, none⟩)
def heapA (h : HS) : Atom := sep [bk h.b 92 [h.v], sl 195 6 h.v h.os.length (h.os.flatMap encHO), sep (h.os.map hoA)]
structure HOK (h : HS) : Prop where
  len : h.os.length ≤ 1024
  vals : ∀ o ∈ h.os, o.vals.length ≤ 256
def lenB (os : List HO) (id : Int) : Nat := if 1 ≤ id then (match os[(id - 1).toNat]? with | some o => o.vals.length | none => 0) else 0
theorem lenB_at {os : List HO} {id : Int} {o : HO} (h1 : 1 ≤ id) (ho : os[(id - 1).toNat]? = some o) : lenB os id = o.vals.length := by
  unfold lenB; rw [if_pos h1, ho]
theorem lenB_no {os : List HO} {id : Int} (h : ¬ (1 ≤ id ∧ id ≤ os.length)) : lenB os id = 0 := by
  unfold lenB
  by_cases h1 : 1 ≤ id
  · rw [if_pos h1, List.getElem?_eq_none (by omega)]
  · rw [if_neg h1]
section
variable {B : Base} {w : World} {L : List Atom}
theorem k86' {h : HS} (hw : Own B w L) (i : Nat) (hi : L[i]? = some (heapA h)) (hok : HOK h) (id kind : Int) : Cl Try.prog 86 [pp h.b, .int .i64 id, .int .i64 kind] w fun v w' => v = .bool (isB h.os id kind) ∧ w' = w := by
  have hw1 := hw.opn i hi
  exact k86 hw1 0 1 rfl rfl (by have := hok.len; omega) id kind
theorem k87 {h : HS} (hw : Own B w L) (i : Nat) (hi : L[i]? = some (heapA h)) (hok : HOK h) (id : Int) : Cl Try.prog 87 [pp h.b, .int .i64 id] w fun v w' => v = .int .i64 (lenB h.os id) ∧ w' = w := by
  have hw1 := hw.opn i hi
  have hlen := hok.len
  clear hw hi
  obtain ⟨b, v, os⟩ := h
  simp only at *
  refine s87 ?_
  unfold c87
  refine (k100 hw1 0 1 rfl rfl id).use ?_
  rintro _ _ ⟨rfl, rfl⟩
  (repeat with_reducible first | refine qq ?_ | refine qr ?_ | refine qs ?_)
  refine Bc_dec (fun h => ?_) (fun h => ?_)
  · exact ⟨by rw [lenB_no h]; rfl, rfl⟩
  · have h : 1 ≤ id ∧ id ≤ os.length := by omega
    obtain ⟨o, ho⟩ := list_get (l := os) (j := (id - 1).toNat) (by omega)
    obtain ⟨b', cap, rfl, hix⟩ := hw1.slIdx 1 rfl (k := .i64) (j := id - 1) (by omega) (by omega)
    (repeat with_reducible first | refine qq ?_ | refine qr ?_ | refine qs ?_ | refine hw1.l 0 ?_)
    refine O.mk hix ?_
    (repeat with_reducible first | refine qq ?_ | refine qr ?_ | refine qs ?_)
    refine O.mk (hw1.rd1_sl 1 rfl (flat_get encHO_len ho rfl)) ?_
    refine O.mk ((hw1.out (i := 2) rfl ho).slLen 0 rfl) ?_
    exact ⟨by rw [lenB_at h.1 ho], rfl⟩
theorem k99 {h : HS} (hw : Own B w L) (i : Nat) (hi : L[i]? = some (heapA h)) (hok : HOK h) (id j : Int) : Cl Try.prog 99 [pp h.b, .int .i64 id, .int .i64 j] w fun v w' => (∃ x e : Int, v = .tuple #[.int .i64 x, .int .i64 e]) ∧ w' = w := by
  have hk87 := k87 hw i hi hok id
  have hw1 := hw.opn i hi
  have hlen := hok.len
  clear hw hi
  obtain ⟨b, v, os⟩ := h
  simp only at *
  have J : ∀ c, (c = false → 0 ≤ j ∧ j < lenB os id) → j99_0 (fun v w' => (∃ x e : Int, v = .tuple #[.int .i64 x, .int .i64 e]) ∧ w' = w) (pp b) (.int .i64 id) (.int .i64 j) (.bool c) w := by
    intro c hc
    unfold j99_0
    refine Bc_b (fun _ => ⟨⟨0, 13, rfl⟩, rfl⟩) (fun h => ?_)
    have hj := hc h
    have hid : 1 ≤ id ∧ id ≤ os.length := Classical.byContradiction fun hn => by rw [lenB_no hn] at hj; omega
    obtain ⟨o, ho⟩ := list_get (l := os) (j := (id - 1).toNat) (by omega)
    rw [lenB_at hid.1 ho] at hj
    obtain ⟨b', cap, rfl, hix⟩ := hw1.slIdx 1 rfl (k := .i64) (j := id - 1) (by omega) (by omega)
    obtain ⟨x, hx⟩ := list_get (l := o.vals) (j := j.toNat) (by omega)
    (repeat with_reducible first | refine qq ?_ | refine qr ?_ | refine qs ?_ | refine hw1.l 0 ?_)
    refine O.mk hix ?_
    (repeat with_reducible first | refine qq ?_ | refine qr ?_ | refine qs ?_)
    refine O.mk (hw1.rd1_sl 1 rfl (flat_get encHO_len ho rfl)) ?_
    have hw2 := hw1.out (i := 2) rfl ho
    obtain ⟨ok, oo, ov, os', ob, on, oi⟩ := o
    simp only [hoA] at *
    obtain ⟨b2, cap2, rfl, hix2⟩ := hw2.slIdx 0 rfl (k := .i64) (j := j) (by omega) (by omega)
    refine O.mk hix2 ?_
    refine O.mk (hw2.rd1_sl 0 rfl (x := .int .i64 x) (by rw [Nat.mul_one]; exact ints_get hx)) ?_
    exact ⟨⟨x, 0, rfl⟩, trivial⟩
  refine s99 ?_
  unfold c99
  (repeat with_reducible first | refine qq ?_ | refine qr ?_ | refine qs ?_)
  refine Bc_dec (fun h => J true (fun h => by cases h)) (fun h => ?_)
  refine hk87.use ?_
  rintro _ _ ⟨rfl, rfl⟩
  (repeat with_reducible first | refine qq ?_ | refine qr ?_ | refine qs ?_)
  refine J _ (fun h2 => ?_)
  simp only [decide_eq_false_iff_not] at h2
  omega
theorem k98 {h : HS} (hw : Own B w L) (i : Nat) (hi : L[i]? = some (heapA h)) (hok : HOK h) (id j n : Int) : Cl Try.prog 98 [pp h.b, .int .i64 id, .int .i64 j, .int .i64 n] w fun v w' => (∃ e : Int, v = .int .i64 e) ∧ ∃ h', h'.b = h.b ∧ HOK h' ∧ Own B w' (L.set i (heapA h')) := by
  have hk87 := k87 hw i hi hok id
  have hk86 := k86' hw i hi hok id 4
  have hw1 := hw.opn i hi
  have hlen := hok.len
  obtain ⟨R, hR⟩ : ∃ R : Value → World → Prop, R = fun v w' => (∃ e : Int, v = .int .i64 e) ∧ ∃ h', h'.b = h.b ∧ HOK h' ∧ Own B w' (L.set i (heapA h')) := ⟨_, rfl⟩
  rw [← hR]
  have hsame : ∀ e : Int, R (.int .i64 e) w := fun e => by
    rw [hR]; exact ⟨⟨e, rfl⟩, h, rfl, hok, by rw [set_same hi]; exact hw⟩
  have hput : ∀ w' (h' : HS), h'.b = h.b → HOK h' → Own B w' ([bk h'.b 92 [h'.v], sl 195 6 h'.v h'.os.length (h'.os.flatMap encHO), sep (h'.os.map hoA)] ++ L.eraseIdx i) → R (.int .i64 0) w' := fun w' h' hb ho hw' => by
    rw [hR]; exact ⟨⟨0, rfl⟩, h', hb, ho, Own.shut hi hw'⟩
  have hvals := hok.vals
  clear hw hR hok
  obtain ⟨b, v, os⟩ := h
  simp only at *
  have J : ∀ c, (c = false → 0 ≤ j ∧ j < lenB os id) → j98_0 R (pp b) (.int .i64 id) (.int .i64 j) (.int .i64 n) (.bool c) w := by
    intro c hc
    unfold j98_0
    refine Bc_b (fun _ => hsame 13) (fun h => ?_)
    have hj := hc h
    have hid : 1 ≤ id ∧ id ≤ os.length := Classical.byContradiction fun hn => by rw [lenB_no hn] at hj; omega
    obtain ⟨o, ho⟩ := list_get (l := os) (j := (id - 1).toNat) (by omega)
    rw [lenB_at hid.1 ho] at hj
    obtain ⟨b', cap, rfl, hix⟩ := hw1.slIdx 1 rfl (k := .i64) (j := id - 1) (by omega) (by omega)
    (repeat with_reducible first | refine qq ?_ | refine qr ?_ | refine qs ?_ | refine hw1.l 0 ?_)
    refine O.mk hix ?_
    (repeat with_reducible first | refine qq ?_ | refine qr ?_ | refine qs ?_)
    refine O.mk (hw1.rd1_sl 1 rfl (flat_get encHO_len ho rfl)) ?_
    have hw2 := hw1.out (i := 2) rfl ho
    have hko := (List.getElem?_eq_some_iff.1 ho).1
    have hset : ∀ o' : HO, encHO o' = encHO o → (os.set (id - 1).toNat o').flatMap encHO = os.flatMap encHO := fun o' he => by
      rw [← flat_upd (ys := []) (j := 0) encHO_len ho (by simp) (by rw [he]; simp [updL])]
      simp [updL]
    obtain ⟨ok, oo, ov, os', ob, on, oi⟩ := o
    simp only [hoA] at *
    obtain ⟨b2, cap2, rfl, hix2⟩ := hw2.slIdx 0 rfl (k := .i64) (j := j) (by omega) (by omega)
    refine O.mk hix2 ?_
    refine hw2.st_sl (x := .int .i64 n) 0 rfl (by kernel_rfl) rfl (by rw [ints_len]; show j.toNat * 1 + 1 ≤ _; omega) fun w' hw' => ?_
    have e1 : updL (ints oi) (j.toNat * 1) (Value.int .i64 n).cells.toList = ints (oi.set j.toNat n) := by
      rw [Nat.mul_one]; exact ints_upd (by omega)
    rw [e1] at hw'
    have hw3 := Own.back (k := (id - 1).toNat) (xs := os) (f := hoA) (x' := ⟨ok, oo, .slice (some ⟨b2, 0, none⟩) oi.length cap2, os', ob, on, oi.set j.toNat n⟩) hko (by simpa [hoA] using hw')
    refine hput w' ⟨b, .slice (some ⟨b', 0, none⟩) os.length cap, os.set (id - 1).toNat ⟨ok, oo, .slice (some ⟨b2, 0, none⟩) oi.length cap2, os', ob, on, oi.set j.toNat n⟩⟩ rfl ⟨by simpa using hlen, fun o' ho' => ?_⟩ ?_
    · rcases List.mem_or_eq_of_mem_set ho' with h' | h'
      · exact hvals _ h'
      · subst h'
        have := hvals _ (List.mem_of_getElem? ho)
        simpa using this
    · simp only [List.length_set]
      rw [hset ⟨ok, oo, .slice (some ⟨b2, 0, none⟩) oi.length cap2, os', ob, on, oi.set j.toNat n⟩ rfl]
      exact hw3.perm (by
        refine (List.Perm.swap _ _ _).trans (List.Perm.cons _ (List.Perm.swap _ _ _)))
  refine s98 ?_
  unfold c98
  (repeat with_reducible first | refine qq ?_ | refine qr ?_ | refine qs ?_)
  refine Bc_dec (fun h => J true (fun h => by cases h)) (fun h => ?_)
  refine hk87.use ?_
  rintro _ _ ⟨rfl, rfl⟩
  (repeat with_reducible first | refine qq ?_ | refine qr ?_ | refine qs ?_)
  refine Bc_dec (fun h => J true (fun h => by cases h)) (fun h => ?_)
  refine hk86.use ?_
  rintro _ _ ⟨rfl, rfl⟩
  exact J _ (fun _ => by omega)
end
end Go.Proofs.Ytedcfkigfcobaaa
end
/- Contracts: objects are made. -/
section
namespace Go.Proofs.Ytedcfkigfcobaaa
open Go Go.Proofs
attribute [local irreducible] Bc O AL BS MS MM ST AP CV Cl
section
variable {B : Base} {w : World} {L : List Atom} {α : Type}
/-- one more of many -/
theorem Own.grow {xs : List α} {f : α → Atom} {x : α} (h : Own B w (f x :: sep (xs.map f) :: L)) : Own B w (sep ((xs ++ [x]).map f) :: L) := by
  have h1 : Own B w (sep (xs.map f) :: (f x :: L)) := h.perm (.swap _ _ _)
  have h2 := h1.unfold (L1 := xs.map f)
  have h3 : Own B w ((xs ++ [x]).map f ++ L) := by
    have e : (xs ++ [x]).map f ++ L = xs.map f ++ (f x :: L) := by simp
    rw [e]; exact h2
  exact h3.fold
theorem Own.sep0 (h : Own B w L) : Own B w (sep ([] : List Atom) :: L) := by
  have : Own B w (([] : List Atom) ++ L) := h
  exact this.fold
theorem encHO_one {o : HO} (h : one o.vv = true) : (encHO o).all one = true := by
  show (true && (true && (one o.vv && (true && (true && (true && true)))))) = true
  rw [h]; rfl
theorem tsz3 : tsz Try.prog 3 = some 1 := by kernel_rfl
theorem tsz2 : tsz Try.prog 2 = some 1 := by kernel_rfl
theorem tsz90 : tsz Try.prog 90 = some 1 := by kernel_rfl
set_option maxHeartbeats 1000000 in
theorem k101 {h : HS} {o : HO} (hw : Own B w (hoA o :: L)) (i : Nat) (hi : L[i]? = some (heapA h)) (hok : HOK h) (hov : o.vals.length ≤ 256) :
    Cl Try.prog 101 [pp h.b, .agg (encHO o).toArray] w fun v w' => (∃ a e : Int, v = .tuple #[.int .i64 a, .int .i64 e]) ∧ ∃ h', h'.b = h.b ∧ HOK h' ∧ Own B w' (L.set i (heapA h')) := by
  obtain ⟨R, hR⟩ : ∃ R : Value → World → Prop, R = fun v w' => (∃ a e : Int, v = .tuple #[.int .i64 a, .int .i64 e]) ∧ ∃ h', h'.b = h.b ∧ HOK h' ∧ Own B w' (L.set i (heapA h')) := ⟨_, rfl⟩
  rw [← hR]
  have hput : ∀ (a e : Int) w' (h' : HS), h'.b = h.b → HOK h' → Own B w' ([bk h'.b 92 [h'.v], sl 195 6 h'.v h'.os.length (h'.os.flatMap encHO), sep (h'.os.map hoA)] ++ L.eraseIdx i) → R (.tuple #[.int .i64 a, .int .i64 e]) w' := fun a e w' h' hb ho hw' => by
    rw [hR]; exact ⟨⟨a, e, rfl⟩, h', hb, ho, Own.shut hi hw'⟩
  have hone := sl_one hw 0 rfl
  have hlen := hok.len
  have hvals := hok.vals
  have hw0 : Own B w ([hoA o] ++ ([bk h.b 92 [h.v], sl 195 6 h.v h.os.length (h.os.flatMap encHO), sep (h.os.map hoA)] ++ L.eraseIdx i)) := by
    have := hw.opn (i + 1) (by rw [List.getElem?_cons_succ]; exact hi)
    rw [List.eraseIdx_cons_succ] at this
    exact this.perm (by
      refine (List.Perm.cons _ ((List.Perm.cons _ (List.Perm.swap _ _ _)).trans (List.Perm.swap _ _ _))).trans (List.Perm.swap _ _ _))
  clear hw
  refine s101 ?_
  unfold c101
  refine hw0.al fun b1 w1 hb1 hw1 => ?_
  clear hw0
  replace hw1 : Own B w1 (bk b1 195 (encHO o) :: hoA o :: bk h.b 92 [h.v] :: sl 195 6 h.v h.os.length (h.os.flatMap encHO) :: sep (h.os.map hoA) :: L.eraseIdx i) := hw1
  (repeat with_reducible first | refine qq ?_ | refine qr ?_ | refine qs ?_ | refine hw1.l 0 ?_ | refine hw1.l 2 ?_)
  refine O.mk (hw1.slLen 3 rfl) ?_
  (repeat with_reducible first | refine qq ?_ | refine qr ?_ | refine qs ?_)
  refine Bc_dec (fun hge => hput 0 11 _ h rfl hok hw1.tail.tail) (fun hlt => ?_)
  (repeat with_reducible first | refine qq ?_ | refine qr ?_ | refine qs ?_)
  refine hw1.st_bk (x := .int .i64 0) 0 rfl tsz3 rfl (Nat.le_refl 6) fun w2 hw2 => ?_
  replace hw2 : Own B w2 (bk b1 195 (encHO { o with nth := 0 }) :: hoA o :: bk h.b 92 [h.v] :: sl 195 6 h.v h.os.length (h.os.flatMap encHO) :: sep (h.os.map hoA) :: L.eraseIdx i) := hw2
  clear hw1
  obtain ⟨I0, hI⟩ : ∃ I : Value → World → Prop, I = fun t w' => ∃ (i' nth : Nat), t = .int .i64 i' ∧ nth ≤ i' ∧ i' ≤ h.os.length ∧ Own B w' (bk b1 195 (encHO { o with nth := nth }) :: hoA o :: bk h.b 92 [h.v] :: sl 195 6 h.v h.os.length (h.os.flatMap encHO) :: sep (h.os.map hoA) :: L.eraseIdx i) := ⟨_, rfl⟩
  obtain ⟨m0, hm⟩ : ∃ m : Value → World → Nat, m = fun t _ => match t with | .int _ i => (h.os.length - i).toNat | _ => 0 := ⟨_, rfl⟩
  refine ⟨I0, m0, by rw [hI]; exact ⟨0, 0, rfl, Nat.le_refl _, Nat.zero_le _, hw2⟩, ?_⟩
  clear hw2
  intro t6 wh0 h0
  rw [hI] at h0
  obtain ⟨k, nth, rfl, hn, hk, hw1⟩ := h0
  (repeat with_reducible first | refine qq ?_ | refine qr ?_ | refine qs ?_ | refine hw1.l 0 ?_ | refine hw1.l 2 ?_)
  refine O.mk (hw1.slLen 3 rfl) ?_
  (repeat with_reducible first | refine qq ?_ | refine qr ?_ | refine qs ?_)
  refine Bc_dec (fun hlt' => ?_) (fun hge' => ?_)
  · refine hw1.dr fun w2 hw2 => ?_
    clear hw1
    have J : ∀ (n' : Nat) w3, n' ≤ k + 1 → Own B w3 (bk b1 195 (encHO { o with nth := n' }) :: hoA o :: bk h.b 92 [h.v] :: sl 195 6 h.v h.os.length (h.os.flatMap encHO) :: sep (h.os.map hoA) :: L.eraseIdx i) → j101_0 R (.int .i64 k) I0 m0 wh0 w3 := by
      intro n' w3 hn' hw3
      unfold j101_0
      (repeat with_reducible first | refine qq ?_ | refine qr ?_ | refine qs ?_)
      rw [hI, hm]
      exact ⟨⟨k + 1, n', rfl, hn', by omega, hw3⟩, by simp only; omega⟩
    obtain ⟨oo, ho⟩ := list_get (l := h.os) (j := k) (by omega)
    obtain ⟨b', hix, hrd, _⟩ := hw2.el 3 rfl encHO_len ho
    (repeat with_reducible first | refine qq ?_ | refine qr ?_ | refine qs ?_ | refine hw2.l 0 ?_ | refine hw2.l 2 ?_)
    refine O.mk (hix _ _ (by omega) rfl) ?_
    (repeat with_reducible first | refine qq ?_ | refine qr ?_ | refine qs ?_)
    refine O.mk (hrd 4 _ rfl) ?_
    (repeat with_reducible first | refine qq ?_ | refine qr ?_ | refine qs ?_ | refine hw2.l 0 ?_ | refine hw2.l 2 ?_)
    refine Bc_dec (fun heq => ?_) (fun hne => J nth w2 (by omega) hw2)
    (repeat with_reducible first | refine qq ?_ | refine qr ?_ | refine qs ?_ | refine hw2.l 0 ?_ | refine hw2.l 2 ?_)
    refine O.mk (bi_addb (b := 1) (by omega)) ?_
    (repeat with_reducible first | refine qq ?_ | refine qr ?_ | refine qs ?_)
    refine hw2.st_bk (x := .int .i64 ((nth + 1 : Nat) : Int)) 0 rfl tsz3 rfl (Nat.le_refl 6) fun w3 hw3 => ?_
    exact J (nth + 1) w3 (by omega) hw3
  · refine hw1.dr fun w2 hw2 => ?_
    clear hw1
    (repeat with_reducible first | refine qq ?_ | refine qr ?_ | refine qs ?_ | refine hw2.l 0 ?_ | refine hw2.l 2 ?_)
    refine O.mk (v := .agg (encHO { o with nth := nth }).toArray) (hw2.rdN_bk 0 rfl (Nat.le_refl 6)) ?_
    refine hw2.app (xs := encHO { o with nth := nth }) T90 ⟨_, T90.under⟩ 3 rfl (by decide) rfl rfl (encHO_one (o := { o with nth := nth }) hone) (by omega) fun v' w3 hw3 => ?_
    replace hw3 : Own B w3 (bk b1 195 (encHO { o with nth := nth }) :: hoA o :: bk h.b 92 [h.v] :: sl 195 6 v' (h.os.length + 1) (h.os.flatMap encHO ++ encHO { o with nth := nth }) :: sep (h.os.map hoA) :: L.eraseIdx i) := hw3
    rw [flat_app] at hw3
    clear hw2
    (repeat with_reducible first | refine qq ?_ | refine qr ?_ | refine qs ?_ | refine hw3.l 0 ?_ | refine hw3.l 2 ?_)
    refine hw3.st1 2 rfl tsz90 (sl_one hw3 3 rfl) (Nat.le_refl 1) fun w4 hw4 => ?_
    replace hw4 : Own B w4 (bk b1 195 (encHO { o with nth := nth }) :: hoA o :: bk h.b 92 [v'] :: sl 195 6 v' (h.os.length + 1) ((h.os ++ [{ o with nth := nth }]).flatMap encHO) :: sep (h.os.map hoA) :: L.eraseIdx i) := hw4
    clear hw3
    (repeat with_reducible first | refine qq ?_ | refine qr ?_ | refine qs ?_ | refine hw4.l 0 ?_ | refine hw4.l 2 ?_)
    refine O.mk (hw4.slLen 3 rfl) ?_
    refine hput _ 0 w4 ⟨h.b, v', h.os ++ [{ o with nth := nth }]⟩ rfl ⟨by simp; omega, fun o' ho' => ?_⟩ ?_
    · rcases List.mem_append.1 ho' with h' | h'
      · exact hvals _ h'
      · simp only [List.mem_singleton] at h'; subst h'; exact hov
    · simp only [List.length_append, List.length_singleton]
      have hw5 : Own B w4 (hoA { o with nth := nth } :: sep (h.os.map hoA) :: bk h.b 92 [v'] :: sl 195 6 v' (h.os.length + 1) ((h.os ++ [{ o with nth := nth }]).flatMap encHO) :: L.eraseIdx i) :=
        hw4.tail.perm (List.Perm.cons _ ((List.Perm.cons _ (List.Perm.swap _ _ _)).trans (List.Perm.swap _ _ _)))
      exact hw5.grow.perm ((List.Perm.swap _ _ _).trans (List.Perm.cons _ (List.Perm.swap _ _ _)))
theorem fill195 (a b c d : Int) {v : Value} (h : one v = true) : (fillW Try.prog 195 [(0, .int .i64 a), (1, .int .i64 b), (2, v), (3, .int .i64 c), (4, .int .i64 d)]).map Value.agg = some (.agg #[.int .i64 a, .int .i64 b, v, .int .i64 c, .int .i64 d, .int .i64 0]) := by
  cases v <;> first | (cases h; done) | kernel_rfl
theorem k96 {h : HS} (hw : Own B w L) (i : Nat) (hi : L[i]? = some (heapA h)) (hok : HOK h) (kind of size site by_ : Int) :
    Cl Try.prog 96 [pp h.b, .int .i64 kind, .int .i64 of, .int .i64 size, .int .i64 site, .int .i64 by_] w fun v w' => (∃ a e : Int, v = .tuple #[.int .i64 a, .int .i64 e]) ∧ ∃ h', h'.b = h.b ∧ HOK h' ∧ Own B w' (L.set i (heapA h')) := by
  obtain ⟨R, hR⟩ : ∃ R : Value → World → Prop, R = fun v w' => (∃ a e : Int, v = .tuple #[.int .i64 a, .int .i64 e]) ∧ ∃ h', h'.b = h.b ∧ HOK h' ∧ Own B w' (L.set i (heapA h')) := ⟨_, rfl⟩
  rw [← hR]
  have J : ∀ c, (c = false → 0 ≤ size ∧ size ≤ 64) → j96_0 R (.int .i64 size) (.int .i64 kind) (.int .i64 of) (.int .i64 site) (.int .i64 by_) (pp h.b) (.bool c) w := by
    intro c hc
    unfold j96_0
    refine Bc_b (fun _ => ?_) (fun hh => ?_)
    · rw [hR]
      exact ⟨⟨0, 2, rfl⟩, h, rfl, hok, by rw [set_same hi]; exact hw⟩
    have hs := hc hh
    obtain ⟨n, rfl⟩ : ∃ n : Nat, size = n := ⟨size.toNat, by omega⟩
    refine hw.mks (sz := 1) (bytes := 8) (n := n) (by omega) rfl (by omega) (by omega) fun v w1 hw1 => ?_
    rw [ints_zero] at hw1
    refine O.mk (fill195 _ _ _ _ (sl_one hw1 0 rfl)) ?_
    refine (k101 (o := ⟨kind, of, v, site, by_, 0, List.replicate n 0⟩) (L := L) (by simpa [hoA] using hw1) i hi hok (by simp; omega)).use ?_
    rintro _ w2 ⟨⟨a, e, rfl⟩, h', hb, ho, hw2⟩
    refine O.mk (v := .int .i64 a) rfl ?_
    refine O.mk (v := .int .i64 e) rfl ?_
    rw [hR]
    exact ⟨⟨a, e, rfl⟩, h', hb, ho, hw2⟩
  refine s96 ?_
  unfold c96
  repeat' (first | (with_reducible first | refine qq ?_ | refine qr ?_ | refine qs ?_) | with_reducible refine Bc_dec (fun _ => ?_) (fun _ => ?_))
  all_goals (refine J _ (fun hc => ?_); first | (cases hc; done) | (simp only [decide_eq_false_iff_not] at hc; omega) | omega)
theorem k97 {h : HS} (hw : Own B w L) (i : Nat) (hi : L[i]? = some (heapA h)) (hok : HOK h) (of site by_ : Int) {cv : Value} {cs : List Int} (j : Nat) (hj : L[j]? = some (sl 2 1 cv cs.length (ints cs))) (hcs : cs.length < 2 ^ 40) :
    Cl Try.prog 97 [pp h.b, .int .i64 of, cv, .int .i64 site, .int .i64 by_] w fun v w' => (∃ a e : Int, v = .tuple #[.int .i64 a, .int .i64 e]) ∧ ∃ h', h'.b = h.b ∧ HOK h' ∧ Own B w' (L.set i (heapA h')) := by
  refine s97 ?_
  unfold c97
  refine O.mk (hw.slLen j hj) ?_
  (repeat with_reducible first | refine qq ?_ | refine qr ?_ | refine qs ?_)
  refine Bc_dec (fun _ => ⟨⟨0, 2, rfl⟩, h, rfl, hok, by rw [set_same hi]; exact hw⟩) (fun hlt => ?_)
  refine hw.cln T42 ⟨_, T42.under⟩ j hj (ints_one _) (by omega) fun v w1 hw1 => ?_
  refine O.mk (fill195 _ _ _ _ (sl_one hw1 0 rfl)) ?_
  refine (k101 (o := ⟨4, of, v, site, by_, 0, cs⟩) (L := L) hw1 i hi hok (by simp only; omega)).use ?_
  rintro _ w2 ⟨⟨a, e, rfl⟩, h', hb, ho, hw2⟩
  refine O.mk (v := .int .i64 a) rfl ?_
  refine O.mk (v := .int .i64 e) rfl ?_
  exact ⟨⟨a, e, rfl⟩, h', hb, ho, hw2⟩
end
end Go.Proofs.Ytedcfkigfcobaaa
end
/- Contracts: lives. -/
section
namespace Go.Proofs.Ytedcfkigfcobaaa
open Go Go.Proofs
attribute [local irreducible] Bc O AL BS MS MM ST AP CV Cl
structure VS where
  b : Nat
  cv : Value
  ev : Value
  c : List Int
  e : List Bool
abbrev VS.parts (v : VS) : List Atom := [bk v.b 127 [v.cv, v.ev], sl 3 1 v.cv v.c.length (ints v.c), sl 4 1 v.ev v.e.length (bools v.e)]
def livesA (v : VS) : Atom := sep v.parts
section
variable {B : Base} {w : World} {L : List Atom}
theorem k74 (was which : Int) (w : World) : Cl Try.prog 74 [.int .i64 was, .int .i64 which] w fun v w' => (∃ b, v = .bool b ∧ (b = true → 0 ≤ which ∧ which ≤ 3)) ∧ w' = w := by
  refine s74 ?_
  unfold c74
  repeat' (first | (with_reducible first | refine qq ?_ | refine qr ?_ | refine qs ?_) | with_reducible refine Bc_dec (fun _ => ?_) (fun _ => ?_))
  all_goals (refine ⟨⟨_, rfl, fun h => ?_⟩, rfl⟩; first | (cases h; done) | omega)
theorem k45 {v : VS} (hw : Own B w L) (i : Nat) (hi : L[i]? = some (livesA v)) (e : Int) : Cl Try.prog 45 [pp v.b, .int .i64 e] w fun v w' => (∃ b, v = .bool b) ∧ w' = w := by
  have hw1 := hw.opn i hi
  refine s45 ?_
  unfold c45
  (repeat with_reducible first | refine qq ?_ | refine qr ?_ | refine qs ?_)
  refine Bc_dec (fun h0 => ?_) (fun _ => ⟨⟨_, rfl⟩, rfl⟩)
  (repeat with_reducible first | refine qq ?_ | refine qr ?_ | refine qs ?_ | refine hw1.l 0 ?_)
  refine O.mk (hw1.slLen 2 rfl) ?_
  (repeat with_reducible first | refine qq ?_ | refine qr ?_ | refine qs ?_)
  refine Bc_dec (fun h1 => ?_) (fun _ => ⟨⟨_, rfl⟩, rfl⟩)
  obtain ⟨x, hx⟩ := list_get (l := v.e) (j := e.toNat) (by omega)
  have hb : ([bk v.b 127 [v.cv, v.ev], sl 3 1 v.cv v.c.length (ints v.c), sl 4 1 v.ev v.e.length (bools v.e)] ++ L.eraseIdx i)[2]? = some (sl 4 1 v.ev v.e.length (v.e.flatMap fun n => [Value.bool n])) := by rw [← bools_flat]; rfl
  obtain ⟨b', hix, hrd, _⟩ := hw1.el 2 hb encB_len hx
  (repeat with_reducible first | refine qq ?_ | refine qr ?_ | refine qs ?_ | refine hw1.l 0 ?_)
  refine O.mk (hix _ _ (by omega) rfl) ?_
  refine O.mk (hrd 0 _ rfl) ?_
  exact ⟨⟨_, rfl⟩, rfl⟩
theorem k47 {v : VS} (hw : Own B w L) (i : Nat) (hi : L[i]? = some (livesA v)) (c which : Int) : Cl Try.prog 47 [pp v.b, .int .i64 c, .int .i64 which] w fun v w' => (∃ b, v = .bool b ∧ (b = true → 0 ≤ which ∧ which ≤ 3)) ∧ w' = w := by
  have hw1 := hw.opn i hi
  refine s47 ?_
  unfold c47
  (repeat with_reducible first | refine qq ?_ | refine qr ?_ | refine qs ?_)
  refine Bc_dec (fun h0 => ?_) (fun _ => ⟨⟨_, rfl, fun h => by cases h⟩, rfl⟩)
  (repeat with_reducible first | refine qq ?_ | refine qr ?_ | refine qs ?_ | refine hw1.l 0 ?_)
  refine O.mk (hw1.slLen 1 rfl) ?_
  (repeat with_reducible first | refine qq ?_ | refine qr ?_ | refine qs ?_)
  refine Bc_dec (fun h1 => ?_) (fun _ => ⟨⟨_, rfl, fun h => by cases h⟩, rfl⟩)
  obtain ⟨x, hx⟩ := list_get (l := v.c) (j := c.toNat) (by omega)
  have hb : ([bk v.b 127 [v.cv, v.ev], sl 3 1 v.cv v.c.length (ints v.c), sl 4 1 v.ev v.e.length (bools v.e)] ++ L.eraseIdx i)[1]? = some (sl 3 1 v.cv v.c.length (v.c.flatMap fun n => [Value.int .i64 n])) := by rw [← ints_flat]; rfl
  obtain ⟨b', hix, hrd, _⟩ := hw1.el 1 hb encI_len hx
  (repeat with_reducible first | refine qq ?_ | refine qr ?_ | refine qs ?_ | refine hw1.l 0 ?_)
  refine O.mk (hix _ _ (by omega) rfl) ?_
  refine O.mk (hrd 0 _ rfl) ?_
  refine (k74 _ _ _).use ?_
  rintro _ _ ⟨⟨b, rfl, hb⟩, rfl⟩
  exact ⟨⟨b, rfl, hb⟩, rfl⟩
theorem k48 {v : VS} (hw : Own B w L) (i : Nat) (hi : L[i]? = some (livesA v)) (c which : Int) : Cl Try.prog 48 [pp v.b, .int .i64 c, .int .i64 which] w fun r w' => (∃ n : Int, r = .int .i64 n) ∧ ∃ v', v'.b = v.b ∧ v'.c.length = v.c.length ∧ v'.e.length = v.e.length ∧ Own B w' (L.set i (livesA v')) := by
  obtain ⟨R, hR⟩ : ∃ R : Value → World → Prop, R = fun r w' => (∃ n : Int, r = .int .i64 n) ∧ ∃ v', v'.b = v.b ∧ v'.c.length = v.c.length ∧ v'.e.length = v.e.length ∧ Own B w' (L.set i (livesA v')) := ⟨_, rfl⟩
  rw [← hR]
  have hsame : ∀ e : Int, R (.int .i64 e) w := fun e => by
    rw [hR]; exact ⟨⟨e, rfl⟩, v, rfl, rfl, rfl, by rw [set_same hi]; exact hw⟩
  have hw1 := hw.opn i hi
  have J : ∀ b, (b = false → 0 ≤ c ∧ c < v.c.length) → j48_0 R (pp v.b) (.int .i64 c) (.int .i64 which) (.bool b) w := by
    intro b hb
    unfold j48_0
    refine Bc_b (fun _ => hsame 2) (fun h => ?_)
    have hc := hb h
    refine (k47 hw i hi c which).use ?_
    rintro _ _ ⟨⟨b', rfl, hb'⟩, rfl⟩
    (repeat with_reducible first | refine qq ?_ | refine qr ?_ | refine qs ?_)
    refine Bc_b (fun _ => hsame 10) (fun h => ?_)
    obtain ⟨x, hx⟩ := list_get (l := v.c) (j := c.toNat) (by omega)
    have hb : ([bk v.b 127 [v.cv, v.ev], sl 3 1 v.cv v.c.length (ints v.c), sl 4 1 v.ev v.e.length (bools v.e)] ++ L.eraseIdx i)[1]? = some (sl 3 1 v.cv v.c.length (v.c.flatMap fun n => [Value.int .i64 n])) := by rw [← ints_flat]; rfl
    obtain ⟨b', hix, hrd, _⟩ := hw1.el 1 hb encI_len hx
    (repeat with_reducible first | refine qq ?_ | refine qr ?_ | refine qs ?_ | refine hw1.l 0 ?_)
    refine O.mk (hix _ _ (by omega) rfl) ?_
    refine hw1.elst 1 hb encI_len hx (x' := which) (k := 0) (X := .int .i64 which) (hix .i64 c (by omega) rfl) rfl tsz3 rfl (Nat.le_refl 1) rfl fun w2 hw2 => ?_
    rw [← ints_flat] at hw2
    rw [hR]
    exact ⟨⟨0, rfl⟩, ⟨v.b, v.cv, v.ev, v.c.set c.toNat which, v.e⟩, rfl, by simp, rfl, Own.shut (A := VS.parts ⟨v.b, v.cv, v.ev, v.c.set c.toNat which, v.e⟩) hi hw2⟩
  refine s48 ?_
  unfold c48
  (repeat with_reducible first | refine qq ?_ | refine qr ?_ | refine qs ?_)
  refine Bc_dec (fun _ => J true (fun h => by cases h)) (fun h1 => ?_)
  (repeat with_reducible first | refine qq ?_ | refine qr ?_ | refine qs ?_ | refine hw1.l 0 ?_)
  refine O.mk (hw1.slLen 1 rfl) ?_
  (repeat with_reducible first | refine qq ?_ | refine qr ?_ | refine qs ?_)
  refine Bc_dec (fun _ => J true (fun h => by cases h)) (fun h2 => ?_)
  (repeat with_reducible first | refine qq ?_ | refine qr ?_ | refine qs ?_)
  refine Bc_dec (fun _ => J true (fun h => by cases h)) (fun h3 => ?_)
  (repeat with_reducible first | refine qq ?_ | refine qr ?_ | refine qs ?_)
  exact J _ (fun _ => by omega)
theorem tsz4 : tsz Try.prog 4 = some 1 := by kernel_rfl
theorem k93 {v : VS} (hw : Own B w L) (i : Nat) (hi : L[i]? = some (livesA v)) (e : Int) (on : Bool) : Cl Try.prog 93 [pp v.b, .int .i64 e, .bool on] w fun r w' => (∃ n, r = .bool n) ∧ ∃ v', v'.b = v.b ∧ v'.c.length = v.c.length ∧ v'.e.length = v.e.length ∧ Own B w' (L.set i (livesA v')) := by
  obtain ⟨R, hR⟩ : ∃ R : Value → World → Prop, R = fun r w' => (∃ n, r = .bool n) ∧ ∃ v', v'.b = v.b ∧ v'.c.length = v.c.length ∧ v'.e.length = v.e.length ∧ Own B w' (L.set i (livesA v')) := ⟨_, rfl⟩
  rw [← hR]
  have hsame : ∀ e, R (.bool e) w := fun e => by
    rw [hR]; exact ⟨⟨e, rfl⟩, v, rfl, rfl, rfl, by rw [set_same hi]; exact hw⟩
  have hw1 := hw.opn i hi
  have J : ∀ b, (b = false → 0 ≤ e ∧ e < v.e.length) → j93_0 R (.bool on) (pp v.b) (.int .i64 e) (.bool b) w := by
    intro b hb
    unfold j93_0
    refine Bc_b (fun _ => hsame _) (fun h => ?_)
    have hc := hb h
    obtain ⟨x, hx⟩ := list_get (l := v.e) (j := e.toNat) (by omega)
    have hb : ([bk v.b 127 [v.cv, v.ev], sl 3 1 v.cv v.c.length (ints v.c), sl 4 1 v.ev v.e.length (bools v.e)] ++ L.eraseIdx i)[2]? = some (sl 4 1 v.ev v.e.length (v.e.flatMap fun n => [Value.bool n])) := by rw [← bools_flat]; rfl
    obtain ⟨b', hix, hrd, _⟩ := hw1.el 2 hb encB_len hx
    have J1 : ∀ r, j93_1 R (pp v.b) (.int .i64 e) (.bool on) (.bool r) w := by
      intro r
      unfold j93_1
      (repeat with_reducible first | refine qq ?_ | refine qr ?_ | refine qs ?_ | refine hw1.l 0 ?_)
      refine O.mk (hix _ _ (by omega) rfl) ?_
      refine hw1.elst 2 hb encB_len hx (x' := on) (k := 0) (X := .bool on) (hix .i64 e (by omega) rfl) rfl tsz4 rfl (Nat.le_refl 1) rfl fun w2 hw2 => ?_
      rw [← bools_flat] at hw2
      rw [hR]
      exact ⟨⟨r, rfl⟩, ⟨v.b, v.cv, v.ev, v.c, v.e.set e.toNat on⟩, rfl, rfl, by simp, Own.shut (A := VS.parts ⟨v.b, v.cv, v.ev, v.c, v.e.set e.toNat on⟩) hi hw2⟩
    refine Bc_b (fun _ => ?_) (fun _ => J1 false)
    (repeat with_reducible first | refine qq ?_ | refine qr ?_ | refine qs ?_ | refine hw1.l 0 ?_)
    refine O.mk (hix _ _ (by omega) rfl) ?_
    refine O.mk (hrd 0 _ rfl) ?_
    (repeat with_reducible first | refine qq ?_ | refine qr ?_ | refine qs ?_)
    exact J1 _
  refine s93 ?_
  unfold c93
  (repeat with_reducible first | refine qq ?_ | refine qr ?_ | refine qs ?_)
  refine Bc_dec (fun _ => J true (fun h => by cases h)) (fun h1 => ?_)
  (repeat with_reducible first | refine qq ?_ | refine qr ?_ | refine qs ?_ | refine hw1.l 0 ?_)
  refine O.mk (hw1.slLen 2 rfl) ?_
  (repeat with_reducible first | refine qq ?_ | refine qr ?_ | refine qs ?_)
  refine J _ (fun h2 => ?_)
  simp only [decide_eq_false_iff_not] at h2
  omega
theorem fill127 {v : Value} (h : one v = true) : (fillW Try.prog 127 [(1, v)]).map Value.agg = some (.agg #[.slice none 0 0, v]) := by
  cases v <;> first | (cases h; done) | kernel_rfl
theorem tsz39 : tsz Try.prog 39 = some 1 := by kernel_rfl
theorem k19 (n : Nat) (hn : n ≤ 1000) {u : Value} {es : List Bool} (hw : Own B w (sl 4 1 u es.length (bools es) :: L)) (hes : es.length ≤ 1000) : Cl Try.prog 19 [.int .i64 n, u] w fun r w' => ∃ v : VS, r = pp v.b ∧ v.c.length = n ∧ v.e.length = es.length ∧ Own B w' (livesA v :: L) := by
  obtain ⟨R, hR⟩ : ∃ R : Value → World → Prop, R = fun r w' => ∃ v : VS, r = pp v.b ∧ v.c.length = n ∧ v.e.length = es.length ∧ Own B w' (livesA v :: L) := ⟨_, rfl⟩
  rw [← hR]
  refine s19 ?_
  unfold c19
  refine hw.cln T59 ⟨_, T59.under⟩ 0 rfl (bools_one _) (by omega) fun v w1 hw1 => ?_
  clear hw
  have hone := sl_one hw1 0 rfl
  refine O.mk (fill127 hone) ?_
  refine hw1.al fun b w2 hb hw2 => ?_
  clear hw1
  have hw3 := hw2.nilSl 3 1
  clear hw2
  obtain ⟨I0, hI⟩ : ∃ I : Value → World → Prop, I = fun t w' => ∃ (cv : Value) (c : List Int), t = .int .i64 c.length ∧ c.length ≤ n ∧ Own B w' (sl 3 1 cv c.length (ints c) :: bk b 127 [cv, v] :: sl 4 1 v es.length (bools es) :: L) := ⟨_, rfl⟩
  obtain ⟨m0, hm⟩ : ∃ m : Value → World → Nat, m = fun t _ => match t with | .int _ i => (n - i).toNat | _ => 0 := ⟨_, rfl⟩
  refine ⟨I0, m0, by rw [hI]; exact ⟨_, [], rfl, Nat.zero_le _, hw3.perm (List.Perm.cons _ (List.Perm.cons _ (List.Perm.cons _ (.refl _)))) |>.drop 3⟩, ?_⟩
  clear hw3
  intro t6 wh0 h0
  rw [hI] at h0
  obtain ⟨cv, c, rfl, hc, hw1⟩ := h0
  (repeat with_reducible first | refine qq ?_ | refine qr ?_ | refine qs ?_)
  refine Bc_dec (fun hlt => ?_) (fun hge => ?_)
  · (repeat with_reducible first | refine qq ?_ | refine qr ?_ | refine qs ?_ | refine hw1.l 1 ?_)
    refine hw1.app (xs := [.int .i64 (-1)]) T39 ⟨_, T39.under⟩ 0 rfl (by decide) rfl rfl rfl (by omega) fun v' w3 hw3 => ?_
    replace hw3 : Own B w3 (sl 3 1 v' (c.length + 1) (ints c ++ ints [-1]) :: bk b 127 [cv, v] :: sl 4 1 v es.length (bools es) :: L) := hw3
    have e1 : ints c ++ ints [-1] = ints (c ++ [-1]) := by simp [ints]
    rw [e1] at hw3
    (repeat with_reducible first | refine qq ?_ | refine qr ?_ | refine qs ?_ | refine hw3.l 1 ?_)
    refine hw3.st1 1 rfl tsz39 (sl_one hw3 0 rfl) (Nat.succ_pos 1) fun w4 hw4 => ?_
    (repeat with_reducible first | refine qq ?_ | refine qr ?_ | refine qs ?_)
    rw [hI, hm]
    exact ⟨⟨v', c ++ [-1], by simp, by simp; omega, by simpa using hw4⟩, by simp only; omega⟩
  · rw [hR]
    refine ⟨⟨b, cv, v, c, es⟩, rfl, by simp only; omega, rfl, ?_⟩
    have hw2 : Own B wh0 (VS.parts ⟨b, cv, v, c, es⟩ ++ L) := hw1.perm (.swap _ _ _)
    exact hw2.fold
end
end Go.Proofs.Ytedcfkigfcobaaa
end
