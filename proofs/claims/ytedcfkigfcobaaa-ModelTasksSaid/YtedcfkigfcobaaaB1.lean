/-
  A part of the proof that the statement on the tasks of a machine returns true for every input: no condition is asked beyond those of the theorems below.
-/
import Derived.Orders
import Derived.Laws.Append
import Derived.Laws.Cells
import Derived.WalkKit
set_option linter.unusedVariables false
set_option linter.unusedSimpArgs false
set_option linter.unusedSectionVars false
/- The operations of the model that this seat's functions use, as partial functions of their operands (what is pure), of operands and the world (what only reads), as new blocks (what makes memory); and that the model's own run of an operation comes to just this. -/
section
namespace Go.Proofs.Ytedcfkigfcobaaa
open Go

/-! ## Values -/
def O {α : Type} (e : Option α) (k : α → Prop) : Prop := match e with | some v => k v | none => False
theorem O.mk {α : Type} {e : Option α} {k : α → Prop} {v : α} (h : e = some v) (hk : k v) : O e k := by subst h; exact hk
theorem O.out {α : Type} {e : Option α} {k : α → Prop} (h : O e k) : ∃ v, e = some v ∧ k v := by
  cases e with
  | none => exact h.elim
  | some v => exact ⟨v, rfl, h⟩
theorem O.mono {α : Type} {e : Option α} {k k' : α → Prop} (h : O e k) (hk : ∀ v, k v → k' v) : O e k' := by
  obtain ⟨v, h1, h2⟩ := h.out
  exact .mk h1 (hk _ h2)

def nC : Value → Option Value
  | .pointer (some a) => some (.pointer (some a))
  | _ => none
def fA (off : Nat) : Value → Option Value
  | .pointer (some ⟨b, o, none⟩) => some (.pointer (some ⟨b, o + off, none⟩))
  | _ => none
def iS (sz : Nat) : Value → Value → Option Value
  | .slice (some ⟨b, o, none⟩) len _, .int _ n => if 0 ≤ n ∧ n < len then some (.pointer (some ⟨b, o + n.toNat * sz, none⟩)) else none
  | _, _ => none
def iA (len sz : Nat) : Value → Value → Option Value
  | .pointer (some ⟨b, o, none⟩), .int _ n => if 0 ≤ n ∧ n < len then some (.pointer (some ⟨b, o + n.toNat * sz, none⟩)) else none
  | _, _ => none
def pk : Value → Value → Value → Option Value
  | .bool true, a, _ => some a
  | .bool false, _, b => some b
  | _, _, _ => none
def exv : Value → Nat → Option Value
  | .tuple vs, i => vs[i]?
  | _, _ => none
/-- a field of a struct's value -/
def fV (agg : Bool) (off n : Nat) : Value → Option Value
  | .agg cs => match agg with
    | true => some (.agg (cs.extract off (off + n)))
    | false => cs[off]?
  | _ => none
def lenS : Value → Option Value
  | .slice _ n _ => some (.int .i64 n)
  | _ => none
def un : UnOp → Value → Option Value
  | .not, .bool b => some (.bool !b)
  | .neg, .int k n => some (.int k (k.wrap (0 - n)))
  | _, _ => none
/-- the cells of two structs of numbers and bools alone -/
def eqCells : List Value → List Value → Option Bool
  | [], [] => some true
  | .int k a :: xs, .int k' b :: ys => if k = k' then (eqCells xs ys).map (a == b && ·) else none
  | _, _ => none
def biI (k : IntKind) (a b : Int) : BinOp → Option Value
  | .add => some (.int k (k.wrap (a + b)))
  | .sub => some (.int k (k.wrap (a - b)))
  | .mul => some (.int k (k.wrap (a * b)))
  | .quo => if b = 0 then none else some (.int k (k.wrap (a.tdiv b)))
  | .rem => if b = 0 then none else some (.int k (a.tmod b))
  | .and => some (.int k (k.wrap (BitVec.ofInt k.bits a &&& BitVec.ofInt k.bits b).toNat))
  | .or => some (.int k (k.wrap (BitVec.ofInt k.bits a ||| BitVec.ofInt k.bits b).toNat))
  | .eql => some (.bool (a == b))
  | .neq => some (.bool (a != b))
  | .lss => some (.bool (a < b))
  | .leq => some (.bool (a ≤ b))
  | .gtr => some (.bool (a > b))
  | .geq => some (.bool (a ≥ b))
  | _ => none
def bi (op : BinOp) : Value → Value → Option Value
  | .int k a, .int k' b =>
    match op with
    | .shl => if b < 0 then none else some (.int k (k.wrap (a * 2 ^ min b.toNat k.bits)))
    | .shr => if b < 0 then none else some (.int k (a.fdiv (2 ^ min b.toNat k.bits)))
    | op => if k = k' then biI k a b op else none
  | _, _ => none
def bb (op : BinOp) : Value → Value → Option Value
  | .bool a, .bool b => match op with
    | .eql => some (.bool (a == b))
    | .neq => some (.bool (!(a == b)))
    | _ => none
  | _, _ => none
/-- slicing a slice: low and high -/
def slc (sz : Nat) : Value → Option Value → Option Value → Option Value
  | .slice a len cap, lo, hi =>
    match (match hi with | none => some (len : Int) | some (.int _ h) => some h | _ => none), (match lo with | none => some (0 : Int) | some (.int _ l) => some l | _ => none) with
    | some h, some l => if 0 ≤ l ∧ l ≤ h ∧ h ≤ cap then some (.slice (if (cap : Int) = l then a else a.map (·.add (l.toNat * sz))) (h - l).toNat (cap - l).toNat) else none
    | _, _ => none
  | _, _, _ => none

/-! ## Tables -/
section
variable (P : Program)
def tsz (t : TypeId) : Option Nat := (P.info? t).map (·.size)
def tagg (t : TypeId) : Option Bool :=
  match P.underlying t with
  | some (.struct _) => some true
  | some (.array _ _) => some true
  | some _ => some false
  | none => none
def fOff (s : TypeId) (f : Nat) : Option Nat :=
  match P.underlying s with
  | some (.struct fields) => match fields[f]? with
    | some fl => match tsz P fl.type with
      | some (_ + 1) => some fl.offset
      | _ => none
    | none => none
  | _ => none
def fldT (s : TypeId) (f : Nat) : Option (Bool × Nat × Nat) :=
  match P.underlying s with
  | some (.struct fields) => match fields[f]? with
    | some fl => match tagg P fl.type, tsz P fl.type with
      | some g, some n => some (g, fl.offset, n)
      | _, _ => none
    | none => none
  | _ => none
/-- what an index steps over: of a slice, none and its elements' size; of an array its length too -/
def ixT (t : TypeId) : Option (Option Nat × Nat) :=
  match P.underlying t with
  | some (.slice e) => (tsz P e).map fun n => (none, n)
  | some (.array len e) => (tsz P e).map fun n => (some len, n)
  | _ => none
def slT (t : TypeId) : Option (TypeId × Nat) :=
  match P.underlying t with
  | some (.slice e) => (tsz P e).map fun n => (e, n)
  | _ => none
def zer (t : TypeId) : Option Value := (P.info? t).bind (·.zero)
def isMapT (t : TypeId) : Bool := match P.underlying t with | some (.map _ _) => true | _ => false
def isBoolT (t : TypeId) : Bool := match P.underlying t with | some .bool => true | _ => false
def isSliceT (t : TypeId) : Bool := match P.underlying t with | some (.slice _) => true | _ => false
def intField (f : Field) : Bool := f.name != "_" && (match P.underlying f.type with | some (.int _) => true | _ => false)
/-- a struct of numbers alone, compared cell by cell: how many they are -/
def eqT (t : TypeId) : Option Nat :=
  match P.underlying t with
  | some (.struct fs) => if (!P.stoodInHeld t && !P.eqGuardType P.depth t && fs.toList.all (intField P) && (fs.toList.map (·.offset) == List.range' 0 fs.toList.length)) = true then some fs.toList.length else none
  | _ => none
def callable (f : FuncId) : Bool :=
  match P.funcs[f]? with
  | some fn => !(fn.name == "runtime.NumGoroutine") && fn.body.isSome
  | none => false
def fillW (t : TypeId) (parts : List (Nat × Value)) : Option (Array Value) :=
  match zer P t, P.underlying t with
  | some z, some (.struct fields) =>
    match fields.toList.mapM fun f => (tsz P f.type).map fun n => (f.offset, n) with
    | some places => Instr.fill (places[·]?) z.cells parts
    | none => none
  | some z, some (.array _ e) =>
    match tsz P e with
    | some size => Instr.fill (fun i => some (i * size, size)) z.cells parts
    | none => none
  | _, _ => none

def be (n : Nat) (op : BinOp) : Value → Value → Option Value
  | .agg xs, .agg ys => if xs.toList.length = n then (match op with
    | .eql => (eqCells xs.toList ys.toList).map .bool
    | .neq => (eqCells xs.toList ys.toList).map (.bool !·)
    | _ => none) else none
  | _, _ => none
/-- what is pure: of its operands alone -/
def px (ev : Operand → Value) : Op → Option Value
  | .move x => some (ev x)
  | .assign x => some (ev x)
  | .pick c a b => pk (ev c) (ev a) (ev b)
  | .nilCheck x => nC (ev x)
  | .fieldAddr s x f => match fOff P s f with | some off => fA off (ev x) | none => none
  | .field s x f => match fldT P s f with | some (g, off, n) => fV g off n (ev x) | none => none
  | .indexAddr t x i => match ixT P t with
    | some (none, sz) => iS sz (ev x) (ev i)
    | some (some len, sz) => iA len sz (ev x) (ev i)
    | none => none
  | .binOp op t x y _ => match eqT P t, isBoolT P t with
    | some n, _ => be n op (ev x) (ev y)
    | none, true => bb op (ev x) (ev y)
    | none, false => bi op (ev x) (ev y)
  | .unOp op _ x => un op (ev x)
  | .extract t i => exv (ev t) i
  | .build t parts => (fillW P t (parts.toList.map fun p => (p.1, ev p.2))).map .agg
  | .call c => match c.callee, c.args.toList, c.argTypes.toList with
    | .builtin .len, [x], [t] => match isSliceT P t with | true => lenS (ev x) | false => none
    | _, _, _ => none
  | .makeFunc fn first captured => some (.func fn (first.toList.map ev).toArray (captured.toList.map ev).toArray)
  | .slice t x lo hi none => match slT P t with | some (_, sz) => slc sz (ev x) (lo.map ev) (hi.map ev) | none => none
  | _ => none
def rd1 (v : Value) (w : World) : Option Value :=
  match v with
  | .pointer (some ⟨b, o, none⟩) => match w.heap[b]? with
    | some (.cells c _ _) => c[o]?
    | _ => none
  | _ => none
def rdN (n : Nat) (v : Value) (w : World) : Option Value :=
  match v with
  | .pointer (some ⟨b, o, none⟩) => match w.heap[b]? with
    | some (.cells c _ _) => if o + n ≤ c.size then some (.agg (c.extract o (o + n))) else none
    | _ => none
  | _ => none
/-- what only reads -/
def rx (ev : Operand → Value) (w : World) : Op → Option Value
  | .load t a => match tagg P t with
    | some false => rd1 (ev a) w
    | some true => match tsz P t with
      | some (n + 1) => rdN (n + 1) (ev a) w
      | _ => none
    | none => none
  | _ => none
def pt (n : Nat) : Value := .pointer (some ⟨n, 0, none⟩)
def bsx (e : TypeId) (size len : Nat) (z : Value) (parts : List (Nat × Value)) : Option (Obj × (Nat → Value)) :=
  if len * size ≤ 2 ^ 24 ∧ z.cells.size = size ∧ 0 < size then
    match Instr.fill (fun i => some (i * size, size)) ((List.replicate len z.cells.toList).flatten).toArray parts with
    | some cells => some (.cells cells e, fun n => .slice (some ⟨n, 0, none⟩) len len)
    | none => none
  else none
def msx (e : TypeId) (size bytes : Nat) (z : Value) : Value → Value → Option (Obj × (Nat → Value))
  | .int .i64 l, .int .i64 c =>
    if 0 ≤ l ∧ l ≤ c ∧ (bytes : Int) * c ≤ 2 ^ 48 ∧ c < 2 ^ 63 ∧ z.cells.size = size ∧ 0 < size then
      some (.cells ((List.replicate c.toNat z.cells.toList).flatten).toArray e, fun n => .slice (some ⟨n, 0, none⟩) l.toNat c.toNat)
    else none
  | _, _ => none
/-- what makes one new block -/
def ax (ev : Operand → Value) : Op → Option (Obj × (Nat → Value))
  | .alloc t => match zer P t with | some z => some (.cells z.cells t, pt) | none => none
  | .box t x => some (.cells (ev x).cells t, pt)
  | .buildSlice t len parts => match slT P t with
    | some (e, size) => match zer P e with
      | some z => bsx e size len z (parts.toList.map fun p => (p.1, ev p.2))
      | none => none
    | none => none
  | .makeSlice t l c => match slT P t with
    | some (e, size) => match zer P e, (P.info? e).map (·.bytes) with
      | some z, some bytes => msx e size bytes z (ev l) (ev c)
      | _, _ => none
    | none => none
  | .makeMap _ none => some (.map #[] 0, fun n => .map (some n))
  | _ => none
inductive Kind where
  | pure | read | new | eff
  deriving DecidableEq
def kindOf : Op → Kind
  | .move _ | .assign _ | .pick .. | .nilCheck _ | .fieldAddr .. | .field .. | .indexAddr .. | .binOp .. | .unOp .. | .extract .. | .build .. | .makeFunc .. | .slice .. => .pure
  | .call c => match c.callee with | .builtin .len => .pure | _ => .eff
  | .load .. => .read
  | .alloc _ | .box .. | .buildSlice .. | .makeSlice .. | .makeMap .. => .new
  | _ => .eff
/-- run a piece of the model's, whatever it does -/
def Rn {α : Type} (s : Sem α) (w : World) (k : α → World → Prop) : Prop :=
  match s.run P w with
  | .ok v w' => k v w'
  | .halt _ _ => False
/-- a call of a function of the program's that returns -/
def Cl (f : FuncId) (args : List Value) (w : World) (k : Value → World → Prop) : Prop :=
  Calls P f args.toArray w fun e w' => ∃ v, e = .returned v ∧ k v w'
def callF (c : Call) (ev : Operand → Value) (w : World) (k : Value → World → Prop) : Value → Prop
  | .func (.func f) first cap => match callable P f with
    | true => Cl P f (first.toList ++ c.args.toList.map ev ++ cap.toList) w k
    | false => False
  | _ => False
def ek (ev : Operand → Value) (ty : TypeId) (w : World) (k : Value → World → Prop) : Op → Prop
  | .store t a x => Rn P (Instr.storeAt t (ev a) (ev x)) w fun _ w' => k undef w'
  | .mapUpdate t m x y => Rn P (Instr.mapUpdate t (ev m) (ev x) (ev y)) w fun _ w' => k undef w'
  | .entryStore t m s x => Rn P (Instr.entryStore t (ev m) (ev s) (ev x)) w fun _ w' => k undef w'
  | .mapEntry t m x => Rn P (Instr.mapEntry t (ev m) (ev x)) w k
  | .lookup t x i ok => Rn P (Instr.lookup t (ev x) (ev i) ok) w k
  | .call c => match c.callee with
    | .builtin .append => Rn P (Builtin.append_ c.argTypes ty (c.args.toList.map ev).toArray) w k
    | .builtin .len => Rn P (Builtin.len_ c.argTypes ty (c.args.toList.map ev).toArray) w k
    | .value f => callF P c ev w k (ev f)
    | _ => False
  | _ => False
/-- (by equations, so that nothing is reckoned with the new block's number) -/
def OA (w : World) (k : Value → World → Prop) : Option (Obj × (Nat → Value)) → Prop
  | some (o, f) => ∀ v w', v = f w.heap.size → w' = w.alloc o → k v w'
  | none => False
def xop (o : Op) (ty : TypeId) (ev : Operand → Value) (w : World) (k : Value → World → Prop) : Prop :=
  match kindOf o with
  | .pure => O (px P ev o) fun v => k v w
  | .read => O (rx P ev w o) fun v => k v w
  | .new => OA w k (ax P ev o)
  | .eff => ek P ev ty w k o
end
end Go.Proofs.Ytedcfkigfcobaaa
end
/- The model's own run of an operation comes to what YtedcfkigfcobaaaFa says of it. -/
section
namespace Go.Proofs.Ytedcfkigfcobaaa
open Go
section
variable {P : Program} {w : World}

theorem run_bind {α β : Type} (s : Sem α) (f : α → Sem β) (w : World) :
    (s >>= f).run P w = match s.run P w with | .ok v w' => (f v).run P w' | .halt h w' => .halt h w' := by
  show (s.bind f).run P w = _
  induction s generalizing w with
  | pure a => rfl
  | load m a k ih =>
    simp only [Sem.bind, Sem.run]
    split
    · exact ih _ _
    · split
      · exact ih _ _
      · rfl
  | store m a v k ih =>
    cases v <;> simp only [Sem.bind, Sem.run] <;> first
      | rfl
      | (split
         · split
           · rfl
           · exact ih _
         · split
           · exact ih _
           · rfl)
  | new o k ih => exact ih _ _
  | shape r k ih => exact ih _ _
  | freeze a n k ih => exact ih _
  | frozen a k ih => exact ih _ _
  | getObj r k ih =>
    simp only [Sem.bind, Sem.run]
    split
    · rfl
    · exact ih _ _
    · rfl
  | setObj r o k ih =>
    simp only [Sem.bind, Sem.run]
    split
    · rfl
    · exact ih _
    · rfl
  | choose q k ih =>
    simp only [Sem.bind, Sem.run]
    split
    · exact ih _ _
    · exact ih _ _
  | sys c k ih => exact ih _ _
  | program k ih => exact ih _ _
  | mark m k ih => exact ih _
  | halt h => rfl
theorem run_bind_ok {α β : Type} {s : Sem α} {f : α → Sem β} {w w' : World} {v : α} (h : s.run P w = .ok v w') : (s >>= f).run P w = (f v).run P w' := by
  rw [run_bind, h]
theorem run_pure' {α : Type} (v : α) (w : World) : (pure v : Sem α).run P w = .ok v w := rfl
theorem run_underlying' {t : TypeId} {d : TypeDesc} (h : P.underlying t = some d) : (underlying t).run P w = .ok d w := by
  simp [underlying, program, Sem.run, h]
theorem run_typeInfo' {t : TypeId} {i : TypeInfo} (h : P.info? t = some i) : (typeInfo t).run P w = .ok i w := by
  simp [typeInfo, program, Sem.run, h]
theorem run_sizeOf' {t : TypeId} {n : Nat} (h : tsz P t = some n) : (sizeOf t).run P w = .ok n w := by
  unfold tsz at h
  cases hi : P.info? t with
  | none => simp [hi] at h
  | some i => simp only [hi, Option.map_some, Option.some.injEq] at h; unfold sizeOf; rw [run_bind_ok (run_typeInfo' hi), run_pure', h]
theorem run_zeroValue' {t : TypeId} {z : Value} (h : zer P t = some z) : (zeroValue t).run P w = .ok z w := by
  unfold zer at h
  cases hi : P.info? t with
  | none => simp [hi] at h
  | some i => simp only [hi, Option.bind_some] at h; unfold zeroValue; rw [run_bind_ok (run_typeInfo' hi)]; simp [h]
theorem run_isAgg' {t : TypeId} {b : Bool} (h : tagg P t = some b) : (isAgg t).run P w = .ok b w := by
  unfold tagg at h
  cases hu : P.underlying t with
  | none => simp [hu] at h
  | some d => simp only [hu] at h; unfold isAgg; rw [run_bind_ok (run_underlying' hu)]; cases d <;> simp_all
theorem run_map_value (s : Sem Value) (w w' : World) (v : Value) (h : s.run P w = .ok v w') : (do pure (Next.value (← s)) : Sem Next).run P w = .ok (.value v) w' := by
  rw [run_bind_ok h, run_pure']

theorem fA_run {s : TypeId} {f off : Nat} {v x : Value} (ho : fOff P s f = some off) (h : fA off v = some x) : (Instr.fieldAt s v f).run P w = .ok x w := by
  unfold fOff at ho
  split at ho
  · rename_i fields hu
    split at ho
    · rename_i fl hf
      split at ho
      · rename_i n hn
        simp only [Option.some.injEq] at ho
        unfold fA at h
        split at h
        · rename_i b o
          simp only [Option.some.injEq] at h
          subst h
          unfold Instr.fieldAt
          rw [run_bind_ok (run_underlying' hu)]
          simp only [hf]
          rw [run_bind_ok (v := ⟨b, o, none⟩) (w' := w) rfl]
          unfold fieldPlace
          rw [run_bind_ok (v := (⟨b, o + off, none⟩ : Addr)) (w' := w)]
          · rfl
          · rw [run_bind_ok (run_sizeOf' hn), if_neg (by omega), run_pure']
            unfold Addr.add
            by_cases h0 : fl.offset = 0
            · simp [h0, ← ho]
            · simp [h0, ← ho]
        · cases h
      · cases ho
    · cases ho
  · cases ho
theorem add_spot (b o n : Nat) : (⟨b, o, none⟩ : Addr).add n = ⟨b, o + n, none⟩ := by
  unfold Addr.add
  by_cases h : n = 0 <;> simp [h]
theorem iS_run {t : TypeId} {sz : Nat} {x i r : Value} (ht : ixT P t = some (none, sz)) (h : iS sz x i = some r) : (Instr.indexAt t x i).run P w = .ok r w := by
  unfold ixT at ht
  split at ht
  · rename_i e hu
    cases hs : tsz P e with
    | none => simp [hs] at ht
    | some m =>
      simp only [hs, Option.map_some, Option.some.injEq, Prod.mk.injEq, true_and] at ht
      subst ht
      unfold iS at h
      split at h
      · rename_i b o len cap k n
        split at h
        · rename_i hn
          simp only [Option.some.injEq] at h
          subst h
          unfold Instr.indexAt
          rw [run_bind_ok (v := (k, n)) (w' := w) rfl]
          simp only []
          rw [run_bind_ok (run_underlying' hu)]
          simp only []
          rw [run_bind_ok (run_pure' _ _)]
          simp only []
          rw [run_bind_ok (run_underlying' hu)]
          simp only []
          rw [if_pos hn, run_bind_ok (run_sizeOf' hs), run_pure', add_spot]
        · cases h
      · cases h
  · rename_i len e hu
    cases hs : tsz P e with
    | none => simp [hs] at ht
    | some m => simp [hs] at ht
  · cases ht
theorem iA_run {t : TypeId} {len sz : Nat} {x i r : Value} (ht : ixT P t = some (some len, sz)) (h : iA len sz x i = some r) : (Instr.indexAt t x i).run P w = .ok r w := by
  unfold ixT at ht
  split at ht
  · rename_i e hu
    cases hs : tsz P e with
    | none => simp [hs] at ht
    | some m => simp [hs] at ht
  · rename_i len' e hu
    cases hs : tsz P e with
    | none => simp [hs] at ht
    | some m =>
      simp only [hs, Option.map_some, Option.some.injEq, Prod.mk.injEq] at ht
      obtain ⟨h1, h2⟩ := ht
      subst h1; subst h2
      unfold iA at h
      split at h
      · rename_i b o k n
        split at h
        · rename_i hn
          simp only [Option.some.injEq] at h
          subst h
          unfold Instr.indexAt
          rw [run_bind_ok (v := (k, n)) (w' := w) rfl]
          simp only []
          rw [run_bind_ok (run_underlying' hu)]
          simp only []
          rw [run_bind_ok (v := (⟨b, o, none⟩ : Addr)) (w' := w) rfl, run_bind_ok (run_pure' _ _)]
          simp only []
          rw [run_bind_ok (run_underlying' hu)]
          simp only []
          rw [if_pos hn, run_bind_ok (run_sizeOf' hs), run_pure', add_spot]
        · cases h
      · cases h
  · cases ht
theorem bi_run {op : BinOp} {t : TypeId} {x y r : Value} {a b : Operand} (h : bi op x y = some r) :
    (do eqGuard op t a b x y; binOp op t x y : Sem Value).run P w = .ok r w := by
  have hg : (eqGuard op t a b x y).run P w = .ok () w := by
    unfold bi at h
    split at h
    · unfold eqGuard; split <;> rfl
    · cases h
  rw [run_bind_ok hg]
  unfold bi at h
  split at h
  · rename_i k a k' b
    cases op <;> simp only [biI] at h
    case shl =>
      split at h
      · cases h
      · rename_i hb; simp only [Option.some.injEq] at h; subst h; simp only [binOp, Op.shift]; rw [if_neg hb]; rfl
    case shr =>
      split at h
      · cases h
      · rename_i hb; simp only [Option.some.injEq] at h; subst h; simp only [binOp, Op.shift]; rw [if_neg hb]; rfl
    case quo =>
      split at h
      · rename_i hk
        split at h
        · cases h
        · rename_i hb; simp only [Option.some.injEq] at h; subst h; subst hk; simp only [binOp, Op.intDiv]; rw [if_neg (by simp), if_neg hb]; rfl
      · cases h
    case rem =>
      split at h
      · rename_i hk
        split at h
        · cases h
        · rename_i hb; simp only [Option.some.injEq] at h; subst h; subst hk; simp only [binOp, Op.intDiv]; rw [if_neg (by simp), if_neg hb]; rfl
      · cases h
    all_goals first
      | (split at h
         · rename_i hk; simp only [Option.some.injEq] at h; subst h; subst hk; simp only [binOp]; rw [if_neg (by simp)]; rfl
         · cases h)
      | (split at h <;> cases h)
  · cases h
theorem run_ok_bind {α β : Type} {s : Sem α} {f : α → Sem β} {w w' : World} {v : β} {u : α} (h : s.run P w = .ok u w) (h2 : (f u).run P w = .ok v w') : (s >>= f).run P w = .ok v w' := by
  rw [run_bind_ok h, h2]
theorem equalIn_bool {t : TypeId} {d : Nat} {a b : Bool} (h : P.underlying t = some .bool) : (Op.equalIn (d + 1) t (.bool a) (.bool b)).run P w = .ok (a == b) w := by
  simp only [Op.equalIn]; rw [run_bind_ok (run_underlying' h)]; rfl
theorem equalIn_int {t : TypeId} {d : Nat} {a b : Int} {k k' : IntKind} {j : IntKind} (h : P.underlying t = some (.int j)) (hk : k = k') : (Op.equalIn (d + 1) t (.int k a) (.int k' b)).run P w = .ok (a == b) w := by
  simp only [Op.equalIn]; rw [run_bind_ok (run_underlying' h)]; simp only [if_pos hk]; rfl
theorem isBoolT_spec {t : TypeId} (h : isBoolT P t = true) : P.underlying t = some .bool := by
  unfold isBoolT at h; split at h
  · assumption
  · cases h
theorem bb_run {op : BinOp} {t : TypeId} {x y r : Value} {a b : Operand} (ht : isBoolT P t = true) (h : bb op x y = some r) :
    (do eqGuard op t a b x y; binOp op t x y : Sem Value).run P w = .ok r w := by
  have hu := isBoolT_spec ht
  unfold bb at h
  split at h
  · rename_i c d
    have he : (Op.equal t (.bool c) (.bool d)).run P w = .ok (c == d) w := equalIn_bool hu
    split at h
    · simp only [Option.some.injEq] at h; subst h
      refine run_ok_bind (u := ()) rfl ?_
      simp only [binOp]; rw [run_bind_ok he]; rfl
    · simp only [Option.some.injEq] at h; subst h
      refine run_ok_bind (u := ()) rfl ?_
      simp only [binOp]; rw [run_bind_ok he]; rfl
    · cases h
  · cases h
theorem intField_spec {f : Field} (h : intField P f = true) : f.name ≠ "_" ∧ ∃ k, P.underlying f.type = some (.int k) := by
  unfold intField at h
  simp only [Bool.and_eq_true, bne_iff_ne, ne_eq] at h
  refine ⟨h.1, ?_⟩
  have h2 := h.2
  split at h2
  · rename_i k hk; exact ⟨k, hk⟩
  · cases h2
theorem part_int {t : TypeId} {k : IntKind} {cs : Array Value} {off : Nat} {v : Value} (hu : P.underlying t = some (.int k)) (hv : cs[off]? = some v) : (part t cs off).run P w = .ok v w := by
  unfold part
  rw [run_bind_ok (run_isAgg' (b := false) (by simp [tagg, hu]))]
  simp [hv]
theorem eqFields_run (d : Nat) (xs ys : Array Value) : ∀ (fs : List Field) (i : Nat) (lx ly : List Value) (r : Bool),
    fs.all (intField P) = true → fs.map (·.offset) = List.range' i fs.length → xs.toList.drop i = lx → ys.toList.drop i = ly → lx.length = fs.length → eqCells lx ly = some r →
    (Op.eqFields (d + 1) xs ys fs).run P w = .ok r w := by
  intro fs
  induction fs with
  | nil =>
    intro i lx ly r _ _ _ _ hl he
    cases lx with
    | nil => cases ly with
      | nil => simp only [eqCells, Option.some.injEq] at he; subst he; rfl
      | cons => simp [eqCells] at he
    | cons => simp at hl
  | cons f fs ih =>
    intro i lx ly r ha ho hx hy hl he
    simp only [List.all_cons, Bool.and_eq_true] at ha
    obtain ⟨hf, ha⟩ := ha
    obtain ⟨hn, k, hk⟩ := intField_spec hf
    simp only [List.map_cons, List.length_cons, List.range'_succ, List.cons.injEq] at ho
    obtain ⟨ho, ho'⟩ := ho
    cases lx with
    | nil => simp at hl
    | cons a lx =>
      cases ly with
      | nil => cases a <;> simp [eqCells] at he
      | cons b ly =>
        have hxi : xs[i]? = some a := by
          have := congrArg (·[0]?) hx
          simpa using this
        have hyi : ys[i]? = some b := by
          have := congrArg (·[0]?) hy
          simpa using this
        have hx' : xs.toList.drop (i + 1) = lx := by
          have := congrArg (List.drop 1) hx
          simpa [Nat.add_comm] using this
        have hy' : ys.toList.drop (i + 1) = ly := by
          have := congrArg (List.drop 1) hy
          simpa [Nat.add_comm] using this
        unfold Op.eqFields
        rw [if_pos hn, run_bind_ok (part_int hk (ho ▸ hxi)), run_bind_ok (part_int hk (ho ▸ hyi))]
        unfold eqCells at he
        split at he
        · cases ‹_ :: _ = []›
        · rename_i ka va xs' kb vb ys' e1 e2
          simp only [List.cons.injEq] at e1 e2
          obtain ⟨rfl, rfl⟩ := e1
          obtain ⟨rfl, rfl⟩ := e2
          split at he
          · rename_i hkk
            obtain ⟨r', hr', rfl⟩ := Option.map_eq_some_iff.1 he
            rw [run_bind_ok (equalIn_int hk hkk)]
            by_cases hab : (va == vb) = true
            · simp only [hab, Bool.not_true, Bool.false_eq_true, if_false, Bool.true_and]
              exact ih (i + 1) _ _ r' ha ho' hx' hy' (by simpa using hl) hr'
            · simp only [Bool.not_eq_true] at hab
              simp [hab]
          · cases he
        · cases he
theorem be_run {op : BinOp} {t : TypeId} {x y r : Value} {a b : Operand} {n : Nat} (ht : eqT P t = some n) (h : be n op x y = some r) :
    (do eqGuard op t a b x y; binOp op t x y : Sem Value).run P w = .ok r w := by
  unfold eqT at ht
  split at ht
  case h_2 => cases ht
  rename_i fs hu
  split at ht
  case isFalse => cases ht
  rename_i hc
  simp only [Option.some.injEq] at ht
  simp only [Bool.and_eq_true, Bool.not_eq_true', beq_iff_eq] at hc
  obtain ⟨⟨⟨h1, h2⟩, h3⟩, h4⟩ := hc
  have hfo : P.fieldsOf t = fs := by simp [Program.fieldsOf, hu]
  have hu' : P.underlying t = some (.struct (P.fieldsOf t)) := by rw [hfo]; exact hu
  unfold be at h
  split at h
  case h_2 => cases h
  rename_i xs ys
  split at h
  case isFalse => cases h
  rename_i hl
  have key : ∀ r', eqCells xs.toList ys.toList = some r' → (Op.equalIn 10000 t (.agg xs) (.agg ys)).run P w = .ok r' w := by
    intro r' hr'
    rw [run_equalIn_agg w 9999 t xs ys hu' h1, hfo]
    exact eqFields_run 9998 xs ys fs.toList 0 xs.toList ys.toList r' h3 h4 (by simp) (by simp) (by omega) hr'
  rw [run_bind_ok (run_eqGuard_agg w op t a b xs ys h2)]
  split at h
  · obtain ⟨r', hr', rfl⟩ := Option.map_eq_some_iff.1 h
    rw [run_eql_struct, key r' hr']; rfl
  · obtain ⟨r', hr', rfl⟩ := Option.map_eq_some_iff.1 h
    rw [run_neq_struct, key r' hr']; rfl
  · cases h
theorem un_run {op : UnOp} {x r : Value} (h : un op x = some r) : (Op.unary op x).run P w = .ok r w := by
  unfold un at h
  split at h
  · simp only [Option.some.injEq] at h; subst h; rfl
  · simp only [Option.some.injEq] at h; subst h; rfl
  · cases h
theorem exv_run {x r : Value} {i : Nat} (h : exv x i = some r) : (Instr.extract x i).run P w = .ok r w := by
  unfold exv at h
  split at h
  · simp [Instr.extract, h]
  · cases h
theorem fillW_run {t : TypeId} {parts : List (Nat × Value)} {cs : Array Value} (h : fillW P t parts = some cs) : (Instr.build t parts.toArray).run P w = .ok (.agg cs) w := by
  unfold fillW at h
  split at h
  · rename_i z fields hz hu
    split at h
    · rename_i places hp
      unfold Instr.build
      rw [run_bind_ok (run_zeroValue' hz)]
      simp only []
      rw [run_bind_ok (run_underlying' hu)]
      simp only []
      have hm : (fields.mapM fun f => do pure (f.offset, ← sizeOf f.type) : Sem (Array (Nat × Nat))).run P w = .ok places.toArray w := by
        rw [← Array.toArray_toList (xs := fields), List.mapM_toArray]
        have : ∀ (l : List Field) (ps : List (Nat × Nat)), (l.mapM fun f => (tsz P f.type).map fun n => (f.offset, n)) = some ps →
            (l.mapM fun f => do pure (f.offset, ← sizeOf f.type) : Sem (List (Nat × Nat))).run P w = .ok ps w := by
          intro l
          induction l with
          | nil => intro ps h; simp at h; subst h; rfl
          | cons f l ih =>
            intro ps h
            simp only [List.mapM_cons, Option.bind_eq_bind, Option.bind_eq_some_iff, Option.map_eq_some_iff] at h
            obtain ⟨q, ⟨n, hn, rfl⟩, qs, hqs, h⟩ := h
            simp only [Option.pure_def, Option.some.injEq] at h
            subst h
            rw [List.mapM_cons, run_bind_ok (v := (f.offset, n)) (w' := w) (by rw [run_bind_ok (run_sizeOf' hn)]; rfl), run_bind_ok (ih qs hqs)]
            rfl
        show Sem.run P ((fields.toList.mapM fun f => do pure (f.offset, ← sizeOf f.type)) >>= fun l => pure l.toArray) w = _
        rw [run_bind_ok (this _ _ hp)]
        rfl
      rw [run_bind_ok hm]
      have e : Instr.fill (fun x => places.toArray[x]?) z.cells parts = some cs := by simpa using h
      simp only [e]
      rfl
    · cases h
  · rename_i z n e hz hu
    split at h
    · rename_i size hs
      unfold Instr.build
      rw [run_bind_ok (run_zeroValue' hz)]
      simp only []
      rw [run_bind_ok (run_underlying' hu)]
      simp only []
      rw [run_bind_ok (run_sizeOf' hs)]
      simp only [h]
      rfl
    · cases h
  · cases h
theorem sliceBound_run {k : IntKind} {i : Int} {y : Nat} {c : BoundsCode} (h : 0 ≤ i ∧ i ≤ y) : (Instr.sliceBound (.int k i) y c).run P w = .ok i.toNat w := by
  unfold Instr.sliceBound
  rw [run_bind_ok (v := (k, i)) (w' := w) rfl]
  simp only []
  rw [if_pos h]; rfl
theorem slc_run {t e : TypeId} {sz : Nat} {x r : Value} {lo hi : Option Value} (ht : slT P t = some (e, sz)) (h : slc sz x lo hi = some r) : (Instr.sliceAt t x lo hi none).run P w = .ok r w := by
  unfold slT at ht
  split at ht
  case h_2 => cases ht
  rename_i e' hu
  cases hs : tsz P e' with
  | none => simp [hs] at ht
  | some m =>
    simp only [hs, Option.map_some, Option.some.injEq, Prod.mk.injEq] at ht
    obtain ⟨h1, h2⟩ := ht
    subst h1; subst h2
    unfold slc at h
    split at h
    case h_2 => cases h
    rename_i a len cap
    split at h
    case h_2 => cases h
    rename_i hh ll hhi hlo
    split at h
    case isFalse => cases h
    rename_i hb
    simp only [Option.some.injEq] at h
    subst h
    have hB : (Instr.sliceBounds true len cap lo hi none).run P w = .ok (ll.toNat, hh.toNat, cap) w := by
      unfold Instr.sliceBounds
      rw [run_bind_ok (run_pure' _ _)]
      split at hhi
      · simp only [Option.some.injEq] at hhi
        subst hhi
        simp only []
        rw [run_bind_ok (run_pure' _ _)]
        split at hlo
        · simp only [Option.some.injEq] at hlo; subst hlo; rfl
        · simp only [Option.some.injEq] at hlo; subst hlo
          simp only []
          rw [run_bind_ok (sliceBound_run ⟨by omega, by omega⟩)]; rfl
        · cases hlo
      · simp only [Option.some.injEq] at hhi
        subst hhi
        simp only []
        rw [run_bind_ok (sliceBound_run ⟨by omega, by omega⟩)]
        split at hlo
        · simp only [Option.some.injEq] at hlo; subst hlo; rfl
        · simp only [Option.some.injEq] at hlo; subst hlo
          simp only []
          rw [run_bind_ok (sliceBound_run ⟨by omega, by omega⟩)]; rfl
        · cases hlo
      · cases hhi
    unfold Instr.sliceAt
    rw [run_bind_ok (run_underlying' hu)]
    simp only []
    unfold Instr.slice
    rw [run_bind_ok (run_underlying' hu)]
    simp only []
    rw [run_bind_ok hB]
    simp only []
    rw [run_bind_ok (run_sizeOf' hs), run_pure']
    have e1 : (hh - ll).toNat = hh.toNat - ll.toNat := by omega
    have e2 : ((cap : Int) - ll).toNat = cap - ll.toNat := by omega
    have e3 : ((cap : Int) = ll) = (cap = ll.toNat) := by apply propext; omega
    rw [e1, e2]
    simp only [e3]
theorem fV_run {t : TypeId} {f off n : Nat} {g : Bool} {x r : Value} (ht : fldT P t f = some (g, off, n)) (h : fV g off n x = some r) : (Instr.field t x f).run P w = .ok r w := by
  unfold fldT at ht
  split at ht
  case h_2 => cases ht
  rename_i fields hu
  split at ht
  case h_2 => cases ht
  rename_i fl hf
  split at ht
  case h_2 => cases ht
  rename_i g' n' hg hn
  simp only [Option.some.injEq, Prod.mk.injEq] at ht
  obtain ⟨rfl, rfl, rfl⟩ := ht
  unfold fV at h
  split at h
  case h_2 => cases h
  rename_i cs
  unfold Instr.field
  rw [run_bind_ok (run_underlying' hu)]
  simp only [hf]
  rw [run_bind_ok (v := cs) (w' := w) rfl]
  unfold part
  rw [run_bind_ok (run_isAgg' hg)]
  split at h
  · simp only [Option.some.injEq] at h; subst h
    simp only [if_true]
    rw [run_bind_ok (run_sizeOf' hn)]
    rfl
  · simp only [Bool.false_eq_true, if_false, h]
    rfl
/-- **what is pure** -/
theorem px_run {o : Op} {ty : TypeId} {d : Option Tmp} {po : String} {af : Array Edge} {g : Option (Nat × Bool)} {ev : Operand → Value} {v : Value} (h : px P ev o = some v) :
    (execOp ev ⟨d, o, ty, po, af, g⟩).run P w = .ok (.value v) w := by
  unfold px at h
  split at h
  · simp only [Option.some.injEq] at h; subst h; rfl
  · simp only [Option.some.injEq] at h; subst h; rfl
  · rename_i c a b
    unfold pk at h
    simp only [execOp]
    split at h
    · rename_i e; simp only [Option.some.injEq] at h; subst h; simp only [e]; rfl
    · rename_i e; simp only [Option.some.injEq] at h; subst h; simp only [e]; rfl
    · cases h
  · unfold nC at h
    simp only [execOp]
    split at h
    · rename_i e; simp only [Option.some.injEq] at h; subst h; simp only [e]; rfl
    · cases h
  · split at h
    · rename_i ho; exact run_map_value _ _ _ _ (fA_run ho h)
    · cases h
  · split at h
    · rename_i ho; exact run_map_value _ _ _ _ (fV_run ho h)
    · cases h
  · split at h
    · rename_i ht; exact run_map_value _ _ _ _ (iS_run ht h)
    · rename_i ht; exact run_map_value _ _ _ _ (iA_run ht h)
    · cases h
  · split at h
    · rename_i ht; exact run_map_value _ _ _ _ (be_run ht h)
    · rename_i _ ht; exact run_map_value _ _ _ _ (bb_run ht h)
    · exact run_map_value _ _ _ _ (bi_run h)
  · exact run_map_value _ _ _ _ (un_run h)
  · exact run_map_value _ _ _ _ (exv_run h)
  · rename_i t parts
    obtain ⟨cs, hc, rfl⟩ := Option.map_eq_some_iff.1 h
    have := fillW_run (w := w) hc
    refine run_map_value _ _ _ _ ?_
    have e : (parts.toList.map fun p => (p.1, ev p.2)).toArray = parts.map fun (i, x) => (i, ev x) := by
      apply Array.toList_inj.1; simp
    rw [e] at this
    exact this
  · rename_i c
    split at h
    · rename_i x t hc hx ht
      split at h
      · rename_i hs
        unfold isSliceT at hs
        split at hs
        · rename_i e hu
          unfold lenS at h
          split at h
          · rename_i a n cp hev
            simp only [Option.some.injEq] at h
            subst h
            have hxa : c.args = #[x] := by rw [← Array.toArray_toList (xs := c.args), hx]
            have hta : c.argTypes = #[t] := by rw [← Array.toArray_toList (xs := c.argTypes), ht]
            simp only [execOp, resolve, hc]
            rw [run_bind_ok (run_pure' _ _)]
            simp only [invoke, builtin]
            refine run_map_value _ _ _ _ ?_
            simp only [Builtin.len_, hxa, hta]
            simp only [List.map_toArray, List.map_cons, List.map_nil, hev]
            show Sem.run P (do match ← underlying t, Value.slice a n cp with | _, _ => _) w = _
            rw [run_bind_ok (run_underlying' hu)]
            rfl
          · cases h
        · cases hs
      · cases h
    · cases h
  · rename_i fn first captured
    simp only [Option.some.injEq] at h
    subst h
    refine run_map_value _ _ _ _ ?_
    simp only [Instr.makeFunc]
    rw [← List.map_toArray, ← List.map_toArray]
    rfl
  · split at h
    · rename_i ht; exact run_map_value _ _ _ _ (slc_run ht h)
    · cases h
  · cases h
theorem cell?_of_heap {b o : Nat} {c : Array Value} {e : TypeId} {f : Nat × Nat} (h : w.heap[b]? = some (.cells c e f)) : w.cell? ⟨b, o, none⟩ = c[o]? := by
  simp [World.cell?, h]
/-- **what only reads** -/
theorem rx_run {o : Op} {ty : TypeId} {d : Option Tmp} {po : String} {af : Array Edge} {g : Option (Nat × Bool)} {ev : Operand → Value} {v : Value} (h : rx P ev w o = some v) :
    (execOp ev ⟨d, o, ty, po, af, g⟩).run P w = .ok (.value v) w := by
  unfold rx at h
  split at h
  case h_2 => cases h
  rename_i t a
  refine run_map_value _ _ _ _ ?_
  split at h
  · rename_i ht
    unfold rd1 at h
    split at h
    case h_2 => cases h
    rename_i b off hev
    split at h
    case h_2 => cases h
    rename_i c e f hh
    rw [hev]
    unfold Instr.loadAt
    rw [run_bind_ok (v := (⟨b, off, none⟩ : Addr)) (w' := w) rfl]
    unfold loadVar
    rw [run_bind_ok (run_isAgg' ht)]
    simp only [Bool.false_eq_true, if_false, Go.load, Sem.run]
    rw [cell?_of_heap hh, h]
  · rename_i ht
    split at h
    case h_2 => cases h
    rename_i n hs
    unfold rdN at h
    split at h
    case h_2 => cases h
    rename_i b off hev
    split at h
    case h_2 => cases h
    rename_i c e f hh
    split at h
    case isFalse => cases h
    rename_i hl
    simp only [Option.some.injEq] at h
    subst h
    rw [hev]
    unfold Instr.loadAt
    rw [run_bind_ok (v := (⟨b, off, none⟩ : Addr)) (w' := w) rfl]
    unfold loadVar
    rw [run_bind_ok (run_isAgg' ht)]
    simp only [if_true]
    rw [run_bind_ok (run_sizeOf' hs)]
    rw [run_bind_ok (v := c.extract off (off + (n + 1))) (w' := w), run_pure']
    have := run_loadCells (P := P) (w := w) ⟨b, off, none⟩ (n + 1) (fun j => (c[off + j]?).getD undef) (by
      intro j hj
      rw [add_spot, cell?_of_heap hh]
      rw [Array.getElem?_eq_getElem (by omega)]
      rfl)
    rw [this]
    congr 1
    apply Array.ext
    · simp; omega
    · intro i h1 h2
      simp at h1 h2
      simp [Array.getElem?_eq_getElem (show off + i < c.size by omega)]
  · cases h
theorem run_newRow (e : TypeId) (cells : Array Value) : (newRow e cells).run P w = .ok ⟨w.heap.size, 0, none⟩ (w.alloc (.cells cells e)) := rfl
theorem tile_eq (z : Array Value) (len : Nat) : (Array.range (len * z.size)).map (z[· % z.size]!) = ((List.replicate len z.toList).flatten).toArray := by
  apply Array.toList_inj.1
  simp only [Array.toList_map, Array.toList_range]
  induction len with
  | zero => simp
  | succ n ih =>
    rw [List.replicate_succ', List.flatten_append, ← ih, Nat.add_mul, List.range_add, List.map_append, List.map_map]
    congr 1
    simp only [Nat.one_mul, List.flatten_cons, List.flatten_nil, List.append_nil]
    apply List.ext_getElem
    · simp
    · intro i h1 h2
      simp at h1
      simp [Nat.mul_add_mod_self_right, Nat.mod_eq_of_lt h1, getElem!_pos z i h1]
/-- **what makes a block** -/
theorem ax_run {o : Op} {ty : TypeId} {d : Option Tmp} {po : String} {af : Array Edge} {g : Option (Nat × Bool)} {ev : Operand → Value} {ob : Obj} {f : Nat → Value} (h : ax P ev o = some (ob, f)) :
    (execOp ev ⟨d, o, ty, po, af, g⟩).run P w = .ok (.value (f w.heap.size)) (w.alloc ob) := by
  unfold ax at h
  split at h
  · rename_i t
    split at h
    · rename_i z hz
      simp only [Option.some.injEq, Prod.mk.injEq] at h
      obtain ⟨rfl, rfl⟩ := h
      refine run_map_value _ _ _ _ ?_
      unfold Instr.alloc
      rw [run_bind_ok (run_zeroValue' hz)]
      rfl
    · cases h
  · simp only [Option.some.injEq, Prod.mk.injEq] at h
    obtain ⟨rfl, rfl⟩ := h
    rfl
  · rename_i t len parts
    split at h
    case h_2 => cases h
    rename_i e size ht
    split at h
    case h_2 => cases h
    rename_i z hz
    unfold slT at ht
    split at ht
    case h_2 => cases ht
    rename_i e' hu
    cases hs : tsz P e' with
    | none => simp [hs] at ht
    | some m =>
      simp only [hs, Option.map_some, Option.some.injEq, Prod.mk.injEq] at ht
      obtain ⟨rfl, rfl⟩ := ht
      unfold bsx at h
      split at h
      case isFalse => cases h
      rename_i hc
      obtain ⟨hc1, hc2, hc3⟩ := hc
      split at h
      case h_2 => cases h
      rename_i cells hf
      simp only [Option.some.injEq, Prod.mk.injEq] at h
      obtain ⟨rfl, rfl⟩ := h
      refine run_map_value _ _ _ _ ?_
      unfold Instr.buildSlice
      rw [run_bind_ok (run_underlying' hu)]
      simp only []
      rw [run_bind_ok (run_sizeOf' hs)]
      rw [if_neg (by omega)]
      have hp : (parts.map fun (i, x) => (i, ev x)).toList = parts.toList.map fun p => (p.1, ev p.2) := by simp
      rw [← tile_eq, hc2] at hf
      split
      · rename_i h0
        rw [run_bind_ok (run_pure' _ _)]
        have e0 : ((Array.range (len * m)).map fun x => (#[] : Array Value)[x % (#[] : Array Value).size]!) = (Array.range (len * m)).map fun x => z.cells[x % m]! := by
          rw [h0]; simp
        rw [e0, hp, hf]
        rfl
      · rw [run_bind_ok (run_zeroValue' hz), run_bind_ok (run_pure' _ _)]
        rw [hc2, hp, hf]
        rfl
  · rename_i t l c
    split at h
    case h_2 => cases h
    rename_i e size ht
    split at h
    case h_2 => cases h
    rename_i z bytes hz hb
    unfold slT at ht
    split at ht
    case h_2 => cases ht
    rename_i e' hu
    cases hs : tsz P e' with
    | none => simp [hs] at ht
    | some m =>
      simp only [hs, Option.map_some, Option.some.injEq, Prod.mk.injEq] at ht
      obtain ⟨rfl, rfl⟩ := ht
      cases hi : P.info? e' with
      | none => simp [hi] at hb
      | some inf =>
        simp only [hi, Option.map_some, Option.some.injEq] at hb
        unfold msx at h
        split at h
        case h_2 => cases h
        rename_i ln cp hl hcp
        split at h
        case isFalse => cases h
        rename_i hc
        obtain ⟨hc1, hc2, hc3, hc4, hc5, hc6⟩ := hc
        simp only [Option.some.injEq, Prod.mk.injEq] at h
        obtain ⟨rfl, rfl⟩ := h
        refine run_map_value _ _ _ _ ?_
        rw [hl, hcp]
        have w1 : IntKind.i64.wrap ln = ln := by rw [IntKind.wrap_i64]; omega
        have w2 : IntKind.i64.wrap cp = cp := by rw [IntKind.wrap_i64]; omega
        unfold Instr.makeSlice
        rw [run_bind_ok (run_underlying' hu)]
        simp only []
        rw [run_bind_ok (v := ln) (w' := w) rfl, run_bind_ok (v := cp) (w' := w) rfl, run_bind_ok (run_typeInfo' hi)]
        simp only [w1, w2, hb]
        rw [if_neg (by simp; omega)]
        rw [run_bind_ok (v := ()) (w' := w) (by unfold askRoom; split <;> rfl)]
        rw [run_bind_ok (run_sizeOf' hs)]
        have ez : ((Array.range (cp.toNat * m)).map fun x => (if cp.toNat * m = 0 then #[] else z.cells)[x % (if cp.toNat * m = 0 then #[] else z.cells).size]!) = ((List.replicate cp.toNat z.cells.toList).flatten).toArray := by
          rw [← tile_eq, hc5]
          split
          · rename_i h0; rw [h0]; simp
          · rw [hc5]
        rw [← ez]
        split
        · rw [run_bind_ok (run_pure' _ _)]; rfl
        · rw [run_bind_ok (run_zeroValue' hz), run_bind_ok (run_pure' _ _)]; rfl
  · simp only [Option.some.injEq, Prod.mk.injEq] at h
    obtain ⟨rfl, rfl⟩ := h
    rfl
  · cases h
end
end Go.Proofs.Ytedcfkigfcobaaa
end
/- From what an operation is said to do to the model's own rule for it; and: a region whose order Go leaves open may be gone through in one order (or in some few), where the others come to the same by exchanging neighbours. -/
section
namespace Go.Proofs.Ytedcfkigfcobaaa
open Go
section
variable {P : Program} {Q : Exit → Act → World → Prop}

theorem Rn.out {α : Type} {s : Sem α} {w : World} {k : α → World → Prop} (h : Rn P s w k) : ∃ v w', s.run P w = .ok v w' ∧ k v w' := by
  unfold Rn at h
  split at h
  · exact ⟨_, _, ‹_›, h⟩
  · exact h.elim
theorem Rn.mk {α : Type} {s : Sem α} {w w' : World} {k : α → World → Prop} {v : α} (h : s.run P w = .ok v w') (hk : k v w') : Rn P s w k := by
  unfold Rn; rw [h]; exact hk
theorem Rn.mono {α : Type} {s : Sem α} {w : World} {k k' : α → World → Prop} (h : Rn P s w k) (hk : ∀ v w', k v w' → k' v w') : Rn P s w k' := by
  obtain ⟨v, w', h1, h2⟩ := h.out
  exact .mk h1 (hk _ _ h2)
theorem Cl.mono {f : FuncId} {args : List Value} {w : World} {k k' : Value → World → Prop} (h : Cl P f args w k) (hk : ∀ v w', k v w' → k' v w') : Cl P f args w k' :=
  Calls.mono h fun _ _ ⟨v, he, hv⟩ => ⟨v, he, hk _ _ hv⟩

theorem callable_run {f : FuncId} {args : Array Value} {w : World} (h : callable P f = true) : (callFunc f args).run P w = .ok (.enter f args) w := by
  unfold callable at h
  split at h
  · rename_i fn hf
    simp only [Bool.and_eq_true, Bool.not_eq_true', Option.isSome_iff_exists] at h
    obtain ⟨h1, b, h2⟩ := h
    unfold callFunc
    rw [run_bind_ok (v := P) (w' := w) rfl]
    simp only [hf, h1, h2, Option.isNone_some, Bool.false_eq_true, if_false]
    rfl
  · cases h

theorem ek_sound {o : Oper} {a : Act} {w : World} {next : Act → World → Prop} {k : Value → World → Prop} (h : ek P a.eval o.type w k o.op)
    (hk : ∀ v w', k v w' → next (a.put o.dst v) w') : o.wp P a w next Q := by
  obtain ⟨dst, op, ty, po, af, gd⟩ := o
  unfold Oper.wp
  simp only at h hk
  unfold ek at h
  split at h
  · obtain ⟨v, w', h1, h2⟩ := h.out
    simp only [execOp]; rw [run_bind_ok h1]; exact hk _ _ h2
  · obtain ⟨v, w', h1, h2⟩ := h.out
    simp only [execOp]; rw [run_bind_ok h1]; exact hk _ _ h2
  · obtain ⟨v, w', h1, h2⟩ := h.out
    simp only [execOp]; rw [run_bind_ok h1]; exact hk _ _ h2
  · obtain ⟨v, w', h1, h2⟩ := h.out
    simp only [execOp]; rw [run_bind_ok h1]; exact hk _ _ h2
  · obtain ⟨v, w', h1, h2⟩ := h.out
    simp only [execOp]; rw [run_bind_ok h1]; exact hk _ _ h2
  · rename_i c
    split at h
    · rename_i hc
      obtain ⟨v, w', h1, h2⟩ := h.out
      simp only [execOp, resolve, hc]
      rw [run_bind_ok (run_pure' _ _)]
      simp only [invoke, builtin]
      have e : (c.args.toList.map a.eval).toArray = c.args.map a.eval := by apply Array.toList_inj.1; simp
      rw [e] at h1
      rw [run_bind_ok h1]; exact hk _ _ h2
    · rename_i hc
      obtain ⟨v, w', h1, h2⟩ := h.out
      simp only [execOp, resolve, hc]
      rw [run_bind_ok (run_pure' _ _)]
      simp only [invoke, builtin]
      have e : (c.args.toList.map a.eval).toArray = c.args.map a.eval := by apply Array.toList_inj.1; simp
      rw [e] at h1
      rw [run_bind_ok h1]; exact hk _ _ h2
    · rename_i f hc
      unfold callF at h
      split at h
      · rename_i f' first cap hev
        split at h
        · rename_i hcal
          simp only [execOp, resolve, hc, hev, Deferred.ofValue]
          rw [run_bind_ok (run_pure' _ _)]
          simp only [invoke]
          rw [callable_run hcal]
          have e : (first.toList ++ c.args.toList.map a.eval ++ cap.toList).toArray = first ++ c.args.map a.eval ++ cap := by apply Array.toList_inj.1; simp
          unfold Cl at h
          rw [e] at h
          refine Calls.mono h ?_
          rintro e w'' ⟨v, rfl, hv⟩
          exact hk _ _ hv
        · exact h.elim
      · exact h.elim
    · exact h.elim
  · exact h.elim

theorem OA.out {w : World} {k : Value → World → Prop} {e : Option (Obj × (Nat → Value))} (h : OA w k e) : ∃ o f, e = some (o, f) ∧ k (f w.heap.size) (w.alloc o) := by
  unfold OA at h
  split at h
  · exact ⟨_, _, rfl, h _ _ rfl rfl⟩
  · exact h.elim
theorem OA.mk {w : World} {k : Value → World → Prop} {o : Obj} {f : Nat → Value} (h : k (f w.heap.size) (w.alloc o)) : OA w k (some (o, f)) := by
  rintro v w' rfl rfl; exact h
/-- **an operation** -/
theorem xop_sound {o : Oper} {a : Act} {w : World} {next : Act → World → Prop} {k : Value → World → Prop} (h : xop P o.op o.type a.eval w k)
    (hk : ∀ v w', k v w' → next (a.put o.dst v) w') : o.wp P a w next Q := by
  unfold xop at h
  split at h
  · obtain ⟨v, h1, h2⟩ := h.out
    obtain ⟨dst, op, ty, po, af, gd⟩ := o
    unfold Oper.wp
    rw [px_run h1]; exact hk _ _ h2
  · obtain ⟨v, h1, h2⟩ := h.out
    obtain ⟨dst, op, ty, po, af, gd⟩ := o
    unfold Oper.wp
    rw [rx_run h1]; exact hk _ _ h2
  · obtain ⟨ob, f, h1, h2⟩ := h.out
    obtain ⟨dst, op, ty, po, af, gd⟩ := o
    unfold Oper.wp
    rw [ax_run h1]; exact hk _ _ h2
  · exact ek_sound h hk
theorem ek_mono {ev : Operand → Value} {ty : TypeId} {w : World} {k k' : Value → World → Prop} {o : Op} (h : ek P ev ty w k o) (hk : ∀ v w', k v w' → k' v w') : ek P ev ty w k' o := by
  unfold ek at h ⊢
  split at h <;> try exact h.mono (fun _ w' => hk _ w')
  · split at h
    · exact h.mono hk
    · exact h.mono hk
    · unfold callF at h ⊢
      split at h
      · split at h
        · exact h.mono hk
        · exact h.elim
      · exact h.elim
    · exact h.elim
  · exact h.elim
theorem xop_mono {o : Op} {ty : TypeId} {ev : Operand → Value} {w : World} {k k' : Value → World → Prop} (h : xop P o ty ev w k) (hk : ∀ v w', k v w' → k' v w') : xop P o ty ev w k' := by
  unfold xop at h ⊢
  split at h
  · exact h.mono fun v => hk v w
  · exact h.mono fun v => hk v w
  · obtain ⟨ob, f, h1, h2⟩ := h.out
    rw [h1]; exact .mk (hk _ _ h2)
  · exact ek_mono h hk

/-! ## The operands alone count -/
theorem px_congr {ev ev' : Operand → Value} {o : Op} (h : ∀ x ∈ o.operands, ev x = ev' x) : px P ev o = px P ev' o := by
  unfold px
  cases o <;> simp only [Op.operands] at h <;> try rfl
  case move x => simp only [h x (by simp)]
  case assign x => simp only [h x (by simp)]
  case pick c a b => simp only [h c (by simp), h a (by simp), h b (by simp)]
  case nilCheck x => simp only [h x (by simp)]
  case fieldAddr s x f => simp only [h x (by simp)]
  case field s x f => simp only [h x (by simp)]
  case indexAddr t x i => simp only [h x (by simp), h i (by simp)]
  case binOp op t x y t' => simp only [h x (by simp), h y (by simp)]
  case unOp op t x => simp only [h x (by simp)]
  case extract t i => simp only [h t (by simp)]
  case build t parts =>
    have : (parts.toList.map fun p => (p.1, ev p.2)) = parts.toList.map fun p => (p.1, ev' p.2) := List.map_congr_left fun p hp => by
      rw [h p.2 (by simp only [List.mem_toArray, List.mem_map]; exact ⟨p, hp, rfl⟩)]
    simp only [this]
  case call c =>
    simp only
    split
    · rename_i x t hc hx ht
      split
      · rw [h x (by simp [Call.operands]; right; rw [← Array.mem_toList_iff, hx]; simp)]
      · rfl
    · rfl
  case makeFunc fn first captured =>
    have e1 : first.toList.map ev = first.toList.map ev' := List.map_congr_left fun p hp => h p (by simp; left; simpa using hp)
    have e2 : captured.toList.map ev = captured.toList.map ev' := List.map_congr_left fun p hp => h p (by simp; right; simpa using hp)
    simp only [e1, e2]
  case slice t x lo hi mx =>
    cases mx with
    | some m => rfl
    | none =>
      have e1 : lo.map ev = lo.map ev' := by cases lo <;> simp_all
      have e2 : hi.map ev = hi.map ev' := by cases hi <;> simp_all
      simp only [h x (by simp), e1, e2]
theorem rx_congr {ev ev' : Operand → Value} {w : World} {o : Op} (h : ∀ x ∈ o.operands, ev x = ev' x) : rx P ev w o = rx P ev' w o := by
  unfold rx
  cases o <;> simp only [Op.operands] at h <;> try rfl
  case load t a => simp only [h a (by simp)]
theorem ax_congr {ev ev' : Operand → Value} {o : Op} (h : ∀ x ∈ o.operands, ev x = ev' x) : ax P ev o = ax P ev' o := by
  unfold ax
  cases o <;> simp only [Op.operands] at h <;> try rfl
  case box t x => simp only [h x (by simp)]
  case buildSlice t n parts =>
    have : (parts.toList.map fun p => (p.1, ev p.2)) = parts.toList.map fun p => (p.1, ev' p.2) := List.map_congr_left fun p hp => by
      rw [h p.2 (by simp only [List.mem_toArray, List.mem_map]; exact ⟨p, hp, rfl⟩)]
    simp only [this]
  case makeSlice t l c => simp only [h l (by simp), h c (by simp)]
  case makeMap t r => cases r <;> rfl
theorem ek_congr {ev ev' : Operand → Value} {ty : TypeId} {w : World} {k : Value → World → Prop} {o : Op} (h : ∀ x ∈ o.operands, ev x = ev' x) : ek P ev ty w k o = ek P ev' ty w k o := by
  unfold ek
  cases o <;> simp only [Op.operands] at h <;> try rfl
  case store t a x => simp only [h a (by simp), h x (by simp)]
  case mapUpdate t m x y => simp only [h m (by simp), h x (by simp), h y (by simp)]
  case entryStore t m s x => simp only [h m (by simp), h s (by simp), h x (by simp)]
  case mapEntry t m x => simp only [h m (by simp), h x (by simp)]
  case lookup t x i ok => simp only [h x (by simp), h i (by simp)]
  case call c =>
    have e : c.args.toList.map ev = c.args.toList.map ev' := List.map_congr_left fun p hp => h p (by simp [Call.operands]; right; simpa using hp)
    simp only [e]
    split <;> try rfl
    rename_i f hc
    rw [h f (by simp [Call.operands, hc])]
    unfold callF
    simp only [e]
theorem xop_congr {o : Op} {ty : TypeId} {ev ev' : Operand → Value} {w : World} {k : Value → World → Prop} (h : ∀ x ∈ o.operands, ev x = ev' x) : xop P o ty ev w k = xop P o ty ev' w k := by
  unfold xop
  rw [px_congr h, rx_congr h, ax_congr h, ek_congr h]

/-! ## Neighbours -/
abbrev Step := World → (Value → World → Prop) → Prop
def IsPure (F : Step) : Prop := (∃ v, ∀ w k, F w k ↔ k v w) ∨ ∀ w k, ¬ F w k
def IsRead (F : Step) : Prop := ∀ w, (∃ v, (∀ k, F w k ↔ k v w) ∧ ∀ ob k, F (w.alloc ob) k ↔ k v (w.alloc ob)) ∨ ∀ k, ¬ F w k
def IsNew (F : Step) : Prop := (∃ (f : Nat → Value) (ob : Obj), ∀ w k, F w k ↔ k (f w.heap.size) (w.alloc ob)) ∨ ∀ w k, ¬ F w k
def IsAny (F : Step) : Prop := (∀ w k, F w k → ∃ v w', k v w') ∧ ∀ w k k', F w k → (∀ v w', k v w' → k' v w') → F w k'

theorem IsPure.any {F : Step} (h : IsPure F) : IsAny F := by
  rcases h with ⟨v, h⟩ | h
  · exact ⟨fun w k hk => ⟨v, w, (h w k).1 hk⟩, fun w k k' hk hm => (h w k').2 (hm _ _ ((h w k).1 hk))⟩
  · exact ⟨fun w k hk => absurd hk (h w k), fun w k k' hk _ => absurd hk (h w k)⟩
theorem swap_pure_any {F G : Step} (hF : IsPure F) (hG : IsAny G) {w : World} {M : Value → Value → World → Prop} (h : F w fun v w' => G w' fun u w'' => M v u w'') :
    G w fun u w' => F w' fun v w'' => M v u w'' := by
  rcases hF with ⟨v, hF⟩ | hF
  · rw [hF] at h
    exact hG.2 _ _ _ h fun u w' hm => (hF _ _).2 hm
  · exact absurd h (hF _ _)
theorem swap_any_pure {F G : Step} (hF : IsAny F) (hG : IsPure G) {w : World} {M : Value → Value → World → Prop} (h : F w fun v w' => G w' fun u w'' => M v u w'') :
    G w fun u w' => F w' fun v w'' => M v u w'' := by
  rcases hG with ⟨u, hG⟩ | hG
  · rw [hG]
    exact hF.2 _ _ _ h fun v w' hm => (hG _ _).1 hm
  · obtain ⟨v, w', h'⟩ := hF.1 _ _ h
    exact absurd h' (hG _ _)
theorem swap_read_read {F G : Step} (hF : IsRead F) (hG : IsRead G) {w : World} {M : Value → Value → World → Prop} (h : F w fun v w' => G w' fun u w'' => M v u w'') :
    G w fun u w' => F w' fun v w'' => M v u w'' := by
  rcases hF w with ⟨v, hF, _⟩ | hF
  · rw [hF] at h
    rcases hG w with ⟨u, hG, _⟩ | hG
    · rw [hG] at h
      rw [hG, hF]; exact h
    · exact absurd h (hG _)
  · exact absurd h (hF _)
theorem swap_read_new {F G : Step} (hF : IsRead F) (hG : IsNew G) {w : World} {M : Value → Value → World → Prop} (h : F w fun v w' => G w' fun u w'' => M v u w'') :
    G w fun u w' => F w' fun v w'' => M v u w'' := by
  rcases hF w with ⟨v, hF, hA⟩ | hF
  · rw [hF] at h
    rcases hG with ⟨f, ob, hG⟩ | hG
    · rw [hG] at h
      rw [hG, hA]; exact h
    · exact absurd h (hG _ _)
  · exact absurd h (hF _)

def gd (ops : Array Oper) (a : Act) (o : Oper) : Bool :=
  match o.guard with
  | none => true
  | some (j, want) => yielded ops a.tmps j == some want
def xstep (P : Program) (ops : Array Oper) (o : Oper) (a : Act) : Step := fun w k =>
  match gd ops a o with
  | true => xop P o.op o.type a.eval w k
  | false => k undef w
theorem xop_pure {o : Op} {ty : TypeId} {ev : Operand → Value} (h : kindOf o = .pure) : IsPure fun w k => xop P o ty ev w k := by
  unfold xop
  simp only [h]
  cases hx : px P ev o with
  | none => exact .inr fun w k hk => hk
  | some v => exact .inl ⟨v, fun w k => Iff.rfl⟩
theorem rd1_alloc {v x : Value} {w : World} {ob : Obj} (h : rd1 v w = some x) : rd1 v (w.alloc ob) = some x := by
  unfold rd1 at h ⊢
  split at h
  case h_2 => cases h
  rename_i b o
  split at h
  case h_2 => cases h
  rename_i c e f hh
  have hlt : b < w.heap.size := by
    rcases Nat.lt_or_ge b w.heap.size with hl | hl
    · exact hl
    · simp [Array.getElem?_eq_none hl] at hh
  have : (w.alloc ob).heap[b]? = some (.cells c e f) := by
    simp only [World.alloc, Array.getElem?_push]; rw [if_neg (by omega)]; exact hh
  simp only [this]; exact h
theorem rdN_alloc {n : Nat} {v x : Value} {w : World} {ob : Obj} (h : rdN n v w = some x) : rdN n v (w.alloc ob) = some x := by
  unfold rdN at h ⊢
  split at h
  case h_2 => cases h
  rename_i b o
  split at h
  case h_2 => cases h
  rename_i c e f hh
  have hlt : b < w.heap.size := by
    rcases Nat.lt_or_ge b w.heap.size with hl | hl
    · exact hl
    · simp [Array.getElem?_eq_none hl] at hh
  have : (w.alloc ob).heap[b]? = some (.cells c e f) := by
    simp only [World.alloc, Array.getElem?_push]; rw [if_neg (by omega)]; exact hh
  simp only [this]; exact h
theorem rx_alloc {ev : Operand → Value} {w : World} {o : Op} {ob : Obj} {v : Value} (h : rx P ev w o = some v) : rx P ev (w.alloc ob) o = some v := by
  unfold rx at h ⊢
  split at h
  case h_2 => cases h
  split at h
  · exact rd1_alloc h
  · split at h
    · exact rdN_alloc h
    · cases h
  · cases h
theorem xop_read {o : Op} {ty : TypeId} {ev : Operand → Value} (h : kindOf o = .read) : IsRead fun w k => xop P o ty ev w k := by
  intro w
  unfold xop
  simp only [h]
  cases hx : rx P ev w o with
  | none => exact .inr fun k hk => hk
  | some v => exact .inl ⟨v, fun k => Iff.rfl, fun ob k => by rw [rx_alloc hx]; exact Iff.rfl⟩
theorem xop_new {o : Op} {ty : TypeId} {ev : Operand → Value} (h : kindOf o = .new) : IsNew fun w k => xop P o ty ev w k := by
  unfold xop
  simp only [h]
  cases hx : ax P ev o with
  | none => exact .inr fun w k hk => hk
  | some x => exact .inl ⟨x.2, x.1, fun w k => ⟨fun h => h _ _ rfl rfl, fun h => .mk h⟩⟩
theorem ek_reach {ev : Operand → Value} {ty : TypeId} {w : World} {k : Value → World → Prop} {o : Op} (h : ek P ev ty w k o) : ∃ v w', k v w' := by
  unfold ek at h
  split at h <;> try (obtain ⟨v, w', _, h2⟩ := h.out; exact ⟨_, _, h2⟩)
  · split at h <;> try (obtain ⟨v, w', _, h2⟩ := h.out; exact ⟨_, _, h2⟩)
    · unfold callF at h
      split at h
      · split at h
        · obtain ⟨e, w', fr, ⟨v, _, hv⟩, _⟩ := h []
          exact ⟨_, _, hv⟩
        · exact h.elim
      · exact h.elim
    · exact h.elim
  · exact h.elim
theorem xop_any {o : Op} {ty : TypeId} {ev : Operand → Value} : IsAny fun w k => xop P o ty ev w k := by
  refine ⟨fun w k h => ?_, fun w k k' h hk => xop_mono h hk⟩
  unfold xop at h
  split at h
  · obtain ⟨v, _, h2⟩ := h.out; exact ⟨_, _, h2⟩
  · obtain ⟨v, _, h2⟩ := h.out; exact ⟨_, _, h2⟩
  · obtain ⟨_, _, _, h2⟩ := h.out; exact ⟨_, _, h2⟩
  · exact ek_reach h
/-- may the first be exchanged with the second, which stands behind it? -/
def commK : Kind → Kind → Bool
  | .pure, _ => true
  | _, .pure => true
  | .read, .read => true
  | .read, .new => true
  | _, _ => false
theorem xstep_swap {ops : Array Oper} {oi oj : Oper} {a : Act} (h : commK (kindOf oi.op) (kindOf oj.op) = true) {w : World} {M : Value → Value → World → Prop}
    (hh : xstep P ops oi a w fun v w' => xstep P ops oj a w' fun u w'' => M v u w'') :
    xstep P ops oj a w fun u w' => xstep P ops oi a w' fun v w'' => M v u w'' := by
  have hskip : ∀ o : Oper, gd ops a o = false → IsPure (xstep P ops o a) := fun o ho => .inl ⟨undef, fun w k => by unfold xstep; rw [ho]⟩
  have hrun : ∀ o : Oper, gd ops a o = true → xstep P ops o a = fun w k => xop P o.op o.type a.eval w k := fun o ho => by funext w k; unfold xstep; rw [ho]
  have hany : ∀ o : Oper, IsAny (xstep P ops o a) := fun o => by
    cases hg : gd ops a o with
    | false => exact (hskip o hg).any
    | true => rw [hrun o hg]; exact xop_any
  cases hgi : gd ops a oi with
  | false => exact swap_pure_any (hskip oi hgi) (hany oj) hh
  | true =>
    cases hgj : gd ops a oj with
    | false => exact swap_any_pure (hany oi) (hskip oj hgj) hh
    | true =>
      rw [hrun oi hgi, hrun oj hgj] at *
      cases hi : kindOf oi.op <;> cases hj : kindOf oj.op <;> simp only [hi, hj, commK] at h <;> try cases h
      all_goals first
        | exact swap_pure_any (xop_pure hi) xop_any hh
        | exact swap_any_pure xop_any (xop_pure hj) hh
        | exact swap_read_read (xop_read hi) (xop_read hj) hh
        | exact swap_read_new (xop_read hi) (xop_new hj) hh
/-! ## The same, in a form that the kernel unfolds fast -/
def yop (P : Program) (o : Op) (ty : TypeId) (ev : Operand → Value) (w : World) (k : Value → World → Prop) : Prop :=
  match o with
  | .move x => k (ev x) w
  | .assign x => k (ev x) w
  | .load t a => O (rx P ev w (.load t a)) fun v => k v w
  | .alloc t => OA w k (ax P ev (.alloc t))
  | .box t x => OA w k (ax P ev (.box t x))
  | .buildSlice t l ps => OA w k (ax P ev (.buildSlice t l ps))
  | .makeSlice t l c => OA w k (ax P ev (.makeSlice t l c))
  | .makeMap t r => OA w k (ax P ev (.makeMap t r))
  | .store t a x => Rn P (Instr.storeAt t (ev a) (ev x)) w fun _ w' => k undef w'
  | .mapUpdate t m x y => Rn P (Instr.mapUpdate t (ev m) (ev x) (ev y)) w fun _ w' => k undef w'
  | .entryStore t m s x => Rn P (Instr.entryStore t (ev m) (ev s) (ev x)) w fun _ w' => k undef w'
  | .mapEntry t m x => Rn P (Instr.mapEntry t (ev m) (ev x)) w k
  | .lookup t x i ok => Rn P (Instr.lookup t (ev x) (ev i) ok) w k
  | .call c => match c.callee with
    | .builtin .len => O (px P ev (.call c)) fun v => k v w
    | .builtin .append => Rn P (Builtin.append_ c.argTypes ty (c.args.toList.map ev).toArray) w k
    | .value f => callF P c ev w k (ev f)
    | _ => False
  | o => O (px P ev o) fun v => k v w
theorem yop_xop {o : Op} {ty : TypeId} {ev : Operand → Value} {w : World} {k : Value → World → Prop} (h : yop P o ty ev w k) : xop P o ty ev w k := by
  unfold yop at h
  split at h <;> try exact h
  · rename_i c
    unfold xop
    split at h
    · rename_i hc
      have : kindOf (.call c) = .pure := by simp [kindOf, hc]
      rw [this]; exact h
    · rename_i hc
      have : kindOf (.call c) = .eff := by simp [kindOf, hc]
      rw [this]
      simp only [ek, hc]; exact h
    · rename_i hc
      have : kindOf (.call c) = .eff := by simp [kindOf, hc]
      rw [this]
      simp only [ek, hc]; exact h
    · exact h.elim
  · cases o <;> first
      | exact h
      | (simp only [px] at h; exact h.elim)
      | (exfalso; simp_all)
end
end Go.Proofs.Ytedcfkigfcobaaa
end
/- A region whose order Go leaves open, gone through in few orders. -/
section
namespace Go.Proofs.Ytedcfkigfcobaaa
open Go
section
variable {P : Program} {ops : Array Oper} {Q : Exit → Act → World → Prop}

def xwp (P : Program) (ops : Array Oper) (i : Nat) (K : Act → World → Prop) (a : Act) (w : World) : Prop :=
  match ops[i]? with
  | none => K a w
  | some o => xstep P ops o a w fun v w' => K (a.put o.dst v) w'
theorem xwp_sound {i : Nat} {K : Act → World → Prop} {a : Act} {w : World} (h : xwp P ops i K a w) : wpOp P ops Q i K a w := by
  unfold xwp at h
  unfold wpOp
  split at h
  · rename_i ho; simp only [ho]; exact h
  · rename_i o ho
    simp only [ho]
    unfold xstep at h
    have hw : Region.wanted o (yielded ops a.tmps) = gd ops a o := by
      unfold gd Region.wanted
      cases o.guard <;> rfl
    split at h
    · rename_i hg
      rw [hw, hg, if_pos rfl]
      exact .inl (xop_sound h fun v w' hk => hk)
    · rename_i hg
      rw [hw, hg]
      simp only [Bool.false_eq_true, if_false]
      exact h
theorem xwp_mono {i : Nat} {K K' : Act → World → Prop} {a : Act} {w : World} (hK : ∀ a w, K a w → K' a w) (h : xwp P ops i K a w) : xwp P ops i K' a w := by
  unfold xwp at h ⊢
  split at h
  · exact hK _ _ h
  · rename_i o ho
    unfold xstep at h ⊢
    split at h
    · exact xop_mono h fun v w' => hK _ _
    · exact hK _ _ h
def xAny (P : Program) (ops : Array Oper) (Q : Act → World → Prop) : Nat → Array Bool → Act → World → Prop
  | 0, listed, a, w => Region.ready .any ops listed = [] ∧ Q a w
  | fuel + 1, listed, a, w =>
    (Region.ready .any ops listed = [] → Q a w) ∧
    ∀ i ∈ Region.ready .any ops listed, xwp P ops i (xAny P ops Q fuel (listed.setIfInBounds i true)) a w
theorem xAny_sound {R : Act → World → Prop} (hR : ∀ a w, R a w → Q .normal a w) : ∀ (fuel : Nat) (listed : Array Bool) (a : Act) (w : World),
    xAny P ops R fuel listed a w → wpAny P .any ops Q fuel listed a w
  | 0, _, _, _, h => ⟨h.1, hR _ _ h.2⟩
  | fuel + 1, _, _, _, h => ⟨fun h0 => hR _ _ (h.1 h0), fun i hi => xwp_sound (xwp_mono (fun a w => xAny_sound hR fuel _ a w) (h.2 i hi))⟩

/-! ## Exchanging -/
theorem looks_eq {x : Oper} {a : Act} {d : Option Tmp} {v : Value} (h : ∀ t, d = some t → t ∉ x.looksAt ops) :
    (∀ y ∈ x.op.operands, (a.put d v).eval y = a.eval y) ∧ gd ops (a.put d v) x = gd ops a x := by
  refine ⟨fun y hy => Act.eval_put fun t ht e => h t ht ?_, ?_⟩
  · subst e
    unfold Oper.looksAt
    exact List.mem_append_left _ (List.mem_filterMap.2 ⟨.tmp t, by simpa using hy, rfl⟩)
  · unfold gd
    cases hg : x.guard with
    | none => rfl
    | some p =>
      obtain ⟨j, want⟩ := p
      simp only
      congr 1
      unfold yielded
      cases d with
      | none => rfl
      | some t =>
        cases hd : (ops[j]?).bind (·.dst) with
        | none => rfl
        | some u =>
          have hne : t ≠ u := by
            rintro rfl
            refine h t rfl ?_
            unfold Oper.looksAt
            refine List.mem_append_right _ ?_
            simp [hg, hd]
          simp [Act.put, Array.getElem?_setIfInBounds_ne hne]
theorem xstep_put {x : Oper} {a : Act} {d : Option Tmp} {v : Value} (h : ∀ t, d = some t → t ∉ x.looksAt ops) : xstep P ops x (a.put d v) = xstep P ops x a := by
  obtain ⟨h1, h2⟩ := looks_eq (a := a) (v := v) h
  funext w k
  unfold xstep
  rw [h2]
  split
  · exact xop_congr h1
  · rfl
def comm (ops : Array Oper) (oi oj : Oper) : Bool := oi.apart ops oj && commK (kindOf oi.op) (kindOf oj.op)
theorem xwp_swap {i j : Nat} {oi oj : Oper} (hi : ops[i]? = some oi) (hj : ops[j]? = some oj) (h : comm ops oi oj = true) {K : Act → World → Prop} {a : Act} {w : World}
    (hh : xwp P ops i (xwp P ops j K) a w) : xwp P ops j (xwp P ops i K) a w := by
  unfold comm at h
  rw [Bool.and_eq_true] at h
  obtain ⟨hap, hk⟩ := h
  obtain ⟨h1, h2, h3⟩ := Oper.apart_spec hap
  unfold xwp at hh ⊢
  simp only [hi, hj] at hh ⊢
  have e1 : ∀ v, xstep P ops oj (a.put oi.dst v) = xstep P ops oj a := fun v => xstep_put h1
  have e2 : ∀ u, xstep P ops oi (a.put oj.dst u) = xstep P ops oi a := fun u => xstep_put h3
  simp only [e1] at hh
  simp only [e2]
  have := xstep_swap hk (M := fun v u w'' => K ((a.put oi.dst v).put oj.dst u) w'') hh
  simpa only [Act.put_comm a _ _ h2] using this

/-! ## Who waits for whom -/
def preds (o : Oper) : List Nat := (o.after.toList.filter (Region.binds .any)).map (·.on)
/-- of each operation, the set (as a number's bits) of those that it waits for -/
abbrev Anc := List Nat
def predsM (A : Anc) (j : Nat) : List Nat → Nat → Nat
  | [], u => u
  | p :: l, u => match Nat.blt p j with
    | true => predsM A j l (Nat.lor u (Nat.lor (Nat.shiftLeft 1 p) (A.getD p 0)))
    | false => predsM A j l u
def ancOkFrom (A : Anc) : Nat → List Oper → Bool
  | _, [] => true
  | j, o :: l => match Nat.beq (Nat.land (A.getD j 0) (predsM A j (preds o) 0)) (A.getD j 0) with
    | true => ancOkFrom A (j + 1) l
    | false => false
def ancOk (ops : Array Oper) (A : Anc) : Bool := ancOkFrom A 0 ops.toList
theorem predsM_bit {A : Anc} {j i : Nat} : ∀ {l : List Nat} {u : Nat}, (predsM A j l u).testBit i = true → u.testBit i = true ∨ ∃ p ∈ l, p < j ∧ (p = i ∨ (A.getD p 0).testBit i = true) := by
  intro l
  induction l with
  | nil => intro u h; exact .inl h
  | cons p l ih =>
    intro u h
    unfold predsM at h
    split at h
    · rename_i hb
      rcases ih h with h' | ⟨q, hq, h'⟩
      · have e : Nat.lor u (Nat.lor (Nat.shiftLeft 1 p) (A.getD p 0)) = u ||| ((1 <<< p) ||| A.getD p 0) := rfl
        rw [e, Nat.testBit_or, Nat.testBit_or, Bool.or_eq_true, Bool.or_eq_true] at h'
        rcases h' with h' | h' | h'
        · exact .inl h'
        · refine .inr ⟨p, List.mem_cons_self, by simpa using hb, .inl ?_⟩
          rw [Nat.one_shiftLeft, Nat.testBit_two_pow] at h'
          simpa using h'
        · exact .inr ⟨p, List.mem_cons_self, by simpa using hb, .inr h'⟩
      · exact .inr ⟨q, List.mem_cons_of_mem _ hq, h'⟩
    · rcases ih h with h' | ⟨q, hq, h'⟩
      · exact .inl h'
      · exact .inr ⟨q, List.mem_cons_of_mem _ hq, h'⟩
theorem ancOkFrom_spec {A : Anc} : ∀ {l : List Oper} {k : Nat}, ancOkFrom A k l = true → ∀ (d : Nat) (o : Oper), l[d]? = some o → ∀ i, (A.getD (k + d) 0).testBit i = true → ∃ p ∈ preds o, p < k + d ∧ (p = i ∨ (A.getD p 0).testBit i = true) := by
  intro l
  induction l with
  | nil => intro k _ d o h; simp at h
  | cons o' l ih =>
    intro k h d o ho i hi
    unfold ancOkFrom at h
    split at h
    · rename_i hb
      cases d with
      | zero =>
        simp only [List.getElem?_cons_zero, Option.some.injEq] at ho
        subst ho
        have hb' := Nat.eq_of_beq_eq_true hb
        rw [Nat.add_zero] at hi ⊢
        rw [← hb'] at hi
        have e : Nat.land (A.getD k 0) (predsM A k (preds o') 0) = A.getD k 0 &&& predsM A k (preds o') 0 := rfl
        rw [e, Nat.testBit_and, Bool.and_eq_true] at hi
        rcases predsM_bit hi.2 with h' | h'
        · simp at h'
        · exact h'
      | succ d =>
        simp only [List.getElem?_cons_succ] at ho
        have := ih h d o ho i (by rw [show k + 1 + d = k + (d + 1) from by omega]; exact hi)
        rw [show k + 1 + d = k + (d + 1) from by omega] at this
        exact this
    · cases h
def Down (ops : Array Oper) (listed : Array Bool) : Prop :=
  ∀ j o, ops[j]? = some o → listed.getD j false = true → ∀ p ∈ preds o, listed.getD p false = true
theorem anc_listed {A : Anc} (hA : ancOk ops A = true) {listed : Array Bool} (hd : Down ops listed) : ∀ (j : Nat) (o : Oper), ops[j]? = some o →
    (∀ p ∈ preds o, listed.getD p false = true) → ∀ i, (A.getD j 0).testBit i = true → listed.getD i false = true := by
  intro j
  induction j using Nat.strongRecOn with
  | _ j ih =>
    intro o ho hp i hi
    have hjs : j < ops.size := by
      rcases Nat.lt_or_ge j ops.size with h | h
      · exact h
      · simp [Array.getElem?_eq_none h] at ho
    obtain ⟨p, hpm, hlt, h3⟩ := ancOkFrom_spec hA j o (by simpa using ho) i (by simpa using hi)
    rw [Nat.zero_add] at hlt
    have hpl := hp p hpm
    rcases h3 with rfl | h3
    · exact hpl
    · have hps : p < ops.size := by omega
      have hop : ops[p]? = some ops[p] := Array.getElem?_eq_getElem hps
      exact ih p hlt ops[p] hop (hd p _ hop hpl) i h3
theorem ready_spec {listed : Array Bool} {j : Nat} : j ∈ Region.ready .any ops listed ↔ listed.getD j true = false ∧ ∃ o, ops[j]? = some o ∧ ∀ p ∈ preds o, listed.getD p false = true := by
  rw [mem_ready]
  refine and_congr_right fun _ => ⟨fun ⟨o, h1, h2⟩ => ⟨o, h1, fun p hp => ?_⟩, fun ⟨o, h1, h2⟩ => ⟨o, h1, fun e he hb => h2 _ ?_⟩⟩
  · unfold preds at hp
    simp only [List.mem_map, List.mem_filter] at hp
    obtain ⟨e, ⟨he, hb⟩, rfl⟩ := hp
    exact h2 e (by simpa using he) hb
  · unfold preds
    simp only [List.mem_map, List.mem_filter]
    exact ⟨e, ⟨by simpa using he, hb⟩, rfl⟩
theorem down_set {listed : Array Bool} {j : Nat} (hd : Down ops listed) (hr : j ∈ Region.ready .any ops listed) : Down ops (listed.setIfInBounds j true) := by
  obtain ⟨hu, o, ho, hp⟩ := ready_spec.1 hr
  have up : ∀ p, listed.getD p false = true → (listed.setIfInBounds j true).getD p false = true := by
    intro p h
    by_cases hpj : j = p
    · subst hpj
      rcases Nat.lt_or_ge j listed.size with hl | hl
      · simp [hl]
      · simp [Array.getElem?_eq_none hl] at h
    · simpa [Array.getElem?_setIfInBounds_ne hpj] using h
  intro k ok hk hl p hpk
  by_cases hjk : j = k
  · subst hjk
    rw [ho] at hk
    cases hk
    exact up _ (hp p hpk)
  · refine up _ (hd k ok hk ?_ p hpk)
    simpa [Array.getElem?_setIfInBounds_ne hjk] using hl
/-- **an operation that may come up may be taken first**, where all that has not come up yet waits for it or may be exchanged with it. -/
theorem xAny_first {A : Anc} (hA : ancOk ops A = true) {R : Act → World → Prop} {i : Nat} {oi : Oper} (hi : ops[i]? = some oi) :
    ∀ (fuel : Nat) (listed : Array Bool) (a : Act) (w : World), Down ops listed →
      (∀ j oj, ops[j]? = some oj → j ≠ i → listed.getD j true = false → (A.getD j 0).testBit i = true ∨ comm ops oi oj = true) →
      i ∈ Region.ready .any ops listed →
      xwp P ops i (xAny P ops R fuel (listed.setIfInBounds i true)) a w → xAny P ops R (fuel + 1) listed a w := by
  intro fuel
  induction fuel with
  | zero =>
    intro listed a w hd hf hr H
    refine ⟨fun h => (by rw [h] at hr; cases hr), fun j hj => ?_⟩
    by_cases hji : j = i
    · subst hji; exact H
    · exfalso
      have h1 := ready_mono hj hji
      have hreach : ∃ a' w', xAny P ops R 0 (listed.setIfInBounds i true) a' w' := by
        unfold xwp at H
        rw [hi] at H
        simp only at H
        unfold xstep at H
        split at H
        · obtain ⟨v, w', h⟩ := xop_any.1 _ _ H; exact ⟨_, _, h⟩
        · exact ⟨_, _, H⟩
      obtain ⟨a', w', h2⟩ := hreach
      have h3 := h2.1
      rw [h3] at h1
      cases h1
  | succ fuel ih =>
    intro listed a w hd hf hr H
    refine ⟨fun h => (by rw [h] at hr; cases hr), fun j hj => ?_⟩
    by_cases hji : j = i
    · subst hji; exact H
    · have h1 : xwp P ops i (xwp P ops j (xAny P ops R fuel ((listed.setIfInBounds i true).setIfInBounds j true))) a w :=
        xwp_mono (fun a' w' h => h.2 j (ready_mono hj hji)) H
      obtain ⟨hju, oj, hoj, hpj⟩ := ready_spec.1 hj
      have hcomm : comm ops oi oj = true := by
        rcases hf j oj hoj hji hju with h | h
        · exfalso
          have hl := anc_listed hA hd j oj hoj hpj i h
          have hu := (ready_spec.1 hr).1
          rcases Nat.lt_or_ge i listed.size with h' | h'
          · simp [h'] at hl hu; rw [hl] at hu; cases hu
          · simp [Array.getElem?_eq_none h'] at hl
        · exact h
      have h2 := xwp_swap hi hoj hcomm h1
      refine xwp_mono (fun a' w' h3 => ih (listed.setIfInBounds j true) a' w' (down_set hd hj) ?_ (ready_mono hr (Ne.symm hji)) ?_) h2
      · intro k ok hk hki hun
        refine hf k ok hk hki ?_
        by_cases hjk : j = k
        · subst hjk; exact hju
        · rw [getD_set_ne true hjk] at hun; exact hun
      · rw [Array.setIfInBounds_comm _ _ hji]; exact h3

/-! ## Reads first, where all that is written lies in new blocks -/
def Hd (w w' : World) : Prop := ∀ b, b < w.heap.size → w'.heap[b]? = w.heap[b]?
theorem Hd.refl (w : World) : Hd w w := fun _ _ => rfl
def xAnyH (P : Program) (ops : Array Oper) (Q : Act → World → Prop) (S : World → Prop) : Nat → Array Bool → Act → World → Prop
  | 0, listed, a, w => Region.ready .any ops listed = [] ∧ Q a w
  | fuel + 1, listed, a, w =>
    (Region.ready .any ops listed = [] → Q a w) ∧
    ∀ i ∈ Region.ready .any ops listed, xwp P ops i (fun a' w' => S w' ∧ xAnyH P ops Q S fuel (listed.setIfInBounds i true) a' w') a w
theorem xAny_of_held {S : World → Prop} {R : Act → World → Prop} : ∀ (fuel : Nat) (listed : Array Bool) (a : Act) (w : World), xAnyH P ops R S fuel listed a w → xAny P ops R fuel listed a w
  | 0, _, _, _, h => h
  | fuel + 1, _, _, _, h => ⟨h.1, fun i hi => xwp_mono (fun a' w' hh => xAny_of_held fuel _ a' w' hh.2) (h.2 i hi)⟩
theorem xAnyH_first {A : Anc} (hA : ancOk ops A = true) {S : World → Prop} {R : Act → World → Prop} {i : Nat} {oi : Oper} (hi : ops[i]? = some oi) {v : Value} :
    ∀ (fuel : Nat) (listed : Array Bool) (a : Act) (w : World), Down ops listed →
      (∀ w, S w → ∀ k, k v w → xstep P ops oi a w k) →
      (∀ j oj, ops[j]? = some oj → j ≠ i → listed.getD j true = false → (A.getD j 0).testBit i = true ∨ oi.apart ops oj = true) →
      i ∈ Region.ready .any ops listed → S w →
      xAnyH P ops R S fuel (listed.setIfInBounds i true) (a.put oi.dst v) w → xAnyH P ops R S (fuel + 1) listed a w := by
  intro fuel
  induction fuel with
  | zero =>
    intro listed a w hd hy hf hr hS H
    refine ⟨fun h => (by rw [h] at hr; cases hr), fun j hj => ?_⟩
    by_cases hji : j = i
    · subst hji
      unfold xwp
      rw [hi]
      exact hy w hS _ ⟨hS, H⟩
    · exfalso
      have h1 := ready_mono hj hji
      rw [H.1] at h1
      cases h1
  | succ fuel ih =>
    intro listed a w hd hy hf hr hS H
    refine ⟨fun h => (by rw [h] at hr; cases hr), fun j hj => ?_⟩
    by_cases hji : j = i
    · subst hji
      unfold xwp
      rw [hi]
      exact hy w hS _ ⟨hS, H⟩
    · obtain ⟨hju, oj, hoj, hpj⟩ := ready_spec.1 hj
      have hap : oi.apart ops oj = true := by
        rcases hf j oj hoj hji hju with h | h
        · exfalso
          have hl := anc_listed hA hd j oj hoj hpj i h
          have hu := (ready_spec.1 hr).1
          rcases Nat.lt_or_ge i listed.size with h' | h'
          · simp [h'] at hl hu; rw [hl] at hu; cases hu
          · simp [Array.getElem?_eq_none h'] at hl
        · exact h
      obtain ⟨h1, h2, h3⟩ := Oper.apart_spec hap
      have hx := H.2 j (ready_mono hj hji)
      unfold xwp at hx ⊢
      simp only [hoj] at hx ⊢
      rw [xstep_put h1] at hx
      unfold xstep at hx ⊢
      have key : ∀ u w', (S w' ∧ xAnyH P ops R S fuel ((listed.setIfInBounds i true).setIfInBounds j true) ((a.put oi.dst v).put oj.dst u) w') →
          S w' ∧ xAnyH P ops R S (fuel + 1) (listed.setIfInBounds j true) (a.put oj.dst u) w' := by
        rintro u w' ⟨hs, hh⟩
        refine ⟨hs, ih (listed.setIfInBounds j true) _ w' (down_set hd hj) ?_ ?_ (ready_mono hr (Ne.symm hji)) hs ?_⟩
        · intro w hs k hk
          rw [xstep_put h3]
          exact hy w hs k hk
        · intro k ok hk hki hun
          refine hf k ok hk hki ?_
          by_cases hjk : j = k
          · subst hjk; exact hju
          · rw [getD_set_ne true hjk] at hun; exact hun
        · rw [Array.setIfInBounds_comm _ _ hji, ← Act.put_comm a _ _ h2]; exact hh
      split at hx
      · exact xop_mono hx key
      · exact key _ _ hx
end
end Go.Proofs.Ytedcfkigfcobaaa
end
/- A function's body as a plain statement: temporaries by name, no frames ('cw'); that it suffices for the model's rule. -/
section
namespace Go.Proofs.Ytedcfkigfcobaaa
open Go

/-! ## Orders of a region -/
inductive RT where
  | done
  | take (i : Nat) (t : RT)
  | alt (i : Nat) (t r : RT)
def RT.heads : RT → List Nat
  | .done => []
  | .take i _ => [i]
  | .alt i _ r => i :: r.heads
def RT.chain : Nat → Nat → RT
  | 0, _ => .done
  | n + 1, i => .take i (RT.chain n (i + 1))
section
variable {P : Program} {ops : Array Oper}
/-- bits for lists -/
def rdyM (o : Oper) (i L : Nat) : Bool := !(L.testBit i) && (preds o).all (L.testBit ·)
def readyFrom (L : Nat) : Nat → List Oper → List Nat
  | _, [] => []
  | i, o :: l => match rdyM o i L with
    | true => i :: readyFrom L (i + 1) l
    | false => readyFrom L (i + 1) l
def freeFrom (ops : Array Oper) (A : Anc) (rel : Oper → Oper → Bool) (oi : Oper) (i L : Nat) : Nat → List Oper → Bool
  | _, [] => true
  | j, o :: l => match Nat.beq j i || L.testBit j || (A.getD j 0).testBit i || rel oi o with
    | true => freeFrom ops A rel oi i L (j + 1) l
    | false => false
def setM (L i : Nat) : Nat := Nat.lor L (Nat.shiftLeft 1 i)
def okTake (ops : Array Oper) (A : Anc) (i L : Nat) : Bool :=
  match ops[i]? with
  | none => false
  | some oi => rdyM oi i L && freeFrom ops A (comm ops) oi i L 0 ops.toList
def eqL : List Nat → List Nat → Bool
  | [], [] => true
  | a :: l, b :: m => Nat.beq a b && eqL l m
  | _, _ => false
/-- the second: inside a list of alternatives -/
def okTree (ops : Array Oper) (A : Anc) : RT → Bool → Nat → Nat → Bool
  | .done, false, _, L => eqL (readyFrom L 0 ops.toList) []
  | .take i t, false, f + 1, L => okTake ops A i L && okTree ops A t false f (setM L i)
  | .take i t, true, f + 1, L => okTree ops A t false f (setM L i)
  | .alt i t r, b, f + 1, L => (b || eqL (readyFrom L 0 ops.toList) (i :: r.heads)) && okTree ops A t false f (setM L i) && okTree ops A r true (f + 1) L
  | _, _, _, _ => false
def regionOk (ops : Array Oper) (A : Anc) (t : RT) : Bool := ancOk ops A && okTree ops A t false ops.size 0
theorem eqL_eq : ∀ {l m : List Nat}, eqL l m = true → l = m
  | [], [], _ => rfl
  | a :: l, b :: m, h => by
    unfold eqL at h
    rw [Bool.and_eq_true] at h
    rw [Nat.eq_of_beq_eq_true h.1, eqL_eq h.2]
  | [], _ :: _, h => by cases h
  | _ :: _, [], h => by cases h
/-- an array of what is listed, and its bits -/
def Bits (n : Nat) (listed : Array Bool) (L : Nat) : Prop := listed.size = n ∧ (∀ k, listed.getD k false = L.testBit k)
theorem Bits.set {n : Nat} {listed : Array Bool} {L i : Nat} (h : Bits n listed L) (hi : i < n) : Bits n (listed.setIfInBounds i true) (setM L i) := by
  refine ⟨by simp [h.1], fun k => ?_⟩
  have e : setM L i = L ||| (1 <<< i) := rfl
  rw [e, Nat.testBit_or, Nat.one_shiftLeft, Nat.testBit_two_pow, ← h.2 k]
  by_cases hik : i = k
  · subst hik
    have : i < listed.size := by rw [h.1]; exact hi
    simp [this]
  · simp [Array.getElem?_setIfInBounds_ne hik, hik]
theorem Bits.getD_true {n : Nat} {listed : Array Bool} {L k : Nat} (h : Bits n listed L) (hk : k < n) : listed.getD k true = L.testBit k := by
  rw [← h.2 k]
  have : k < listed.size := by rw [h.1]; exact hk
  simp [this]
theorem mem_readyFrom {L : Nat} : ∀ {l : List Oper} {k i : Nat}, i ∈ readyFrom L k l ↔ k ≤ i ∧ ∃ o, l[i - k]? = some o ∧ rdyM o i L = true := by
  intro l
  induction l with
  | nil => intro k i; simp [readyFrom]
  | cons o l ih =>
    intro k i
    unfold readyFrom
    have tail : i ∈ readyFrom L (k + 1) l ↔ k + 1 ≤ i ∧ ∃ o', (o :: l)[i - k]? = some o' ∧ rdyM o' i L = true := by
      rw [ih]
      refine and_congr_right fun hk => ?_
      rw [show i - k = (i - (k + 1)) + 1 from by omega, List.getElem?_cons_succ]
    split
    · rename_i hr
      rw [List.mem_cons, tail]
      constructor
      · rintro (rfl | ⟨h1, h2⟩)
        · exact ⟨Nat.le_refl _, o, by simp, hr⟩
        · exact ⟨by omega, h2⟩
      · rintro ⟨h1, h2⟩
        by_cases hik : i = k
        · exact .inl hik
        · exact .inr ⟨by omega, h2⟩
    · rename_i hr
      rw [tail]
      constructor
      · rintro ⟨h1, h2⟩; exact ⟨by omega, h2⟩
      · rintro ⟨h1, o', h2, h3⟩
        by_cases hik : i = k
        · subst hik
          simp only [Nat.sub_self, List.getElem?_cons_zero, Option.some.injEq] at h2
          subst h2
          rw [h3] at hr
          cases hr
        · exact ⟨by omega, o', h2, h3⟩
theorem ready_bits {listed : Array Bool} {L i : Nat} (h : Bits ops.size listed L) : i ∈ Region.ready .any ops listed ↔ i ∈ readyFrom L 0 ops.toList := by
  rw [ready_spec, mem_readyFrom]
  simp only [Nat.zero_le, true_and, Nat.sub_zero, Array.getElem?_toList]
  constructor
  · rintro ⟨h1, o, ho, h2⟩
    refine ⟨o, ho, ?_⟩
    have hi : i < ops.size := by
      rcases Nat.lt_or_ge i ops.size with h' | h'
      · exact h'
      · simp [Array.getElem?_eq_none h'] at ho
    rw [h.getD_true hi] at h1
    unfold rdyM
    rw [h1]
    simp only [Bool.not_false, Bool.true_and, List.all_eq_true]
    intro p hp
    rw [← h.2 p]; exact h2 p hp
  · rintro ⟨o, ho, h2⟩
    have hi : i < ops.size := by
      rcases Nat.lt_or_ge i ops.size with h' | h'
      · exact h'
      · simp [Array.getElem?_eq_none h'] at ho
    unfold rdyM at h2
    rw [Bool.and_eq_true, Bool.not_eq_true', List.all_eq_true] at h2
    refine ⟨by rw [h.getD_true hi]; exact h2.1, o, ho, fun p hp => by rw [h.2 p]; exact h2.2 p hp⟩
theorem ready_nil {listed : Array Bool} {L : Nat} (h : Bits ops.size listed L) (h0 : eqL (readyFrom L 0 ops.toList) [] = true) : Region.ready .any ops listed = [] := by
  rw [List.eq_nil_iff_forall_not_mem]
  intro i hi
  rw [ready_bits h, eqL_eq h0] at hi
  cases hi
theorem freeFrom_spec {A : Anc} {rel : Oper → Oper → Bool} {oi : Oper} {i L : Nat} : ∀ {l : List Oper} {k : Nat}, freeFrom ops A rel oi i L k l = true → ∀ d o, l[d]? = some o →
    k + d = i ∨ L.testBit (k + d) = true ∨ (A.getD (k + d) 0).testBit i = true ∨ rel oi o = true := by
  intro l
  induction l with
  | nil => intro k _ d o h; simp at h
  | cons o' l ih =>
    intro k h d o ho
    unfold freeFrom at h
    split at h
    · rename_i hb
      cases d with
      | zero =>
        simp only [List.getElem?_cons_zero, Option.some.injEq] at ho
        subst ho
        simp only [Bool.or_eq_true] at hb
        rw [Nat.add_zero]
        rcases hb with ((hb | hb) | hb) | hb
        · exact .inl (Nat.eq_of_beq_eq_true hb)
        · exact .inr (.inl hb)
        · exact .inr (.inr (.inl hb))
        · exact .inr (.inr (.inr hb))
      | succ d =>
        simp only [List.getElem?_cons_succ] at ho
        have := ih h d o ho
        rw [show k + 1 + d = k + (d + 1) from by omega] at this
        exact this
    · cases h
theorem free_spec {A : Anc} {rel : Oper → Oper → Bool} {oi : Oper} {i L : Nat} {listed : Array Bool} (hb : Bits ops.size listed L) (h : freeFrom ops A rel oi i L 0 ops.toList = true) :
    ∀ j oj, ops[j]? = some oj → j ≠ i → listed.getD j true = false → (A.getD j 0).testBit i = true ∨ rel oi oj = true := by
  intro j oj hj hji hun
  have hjs : j < ops.size := by
    rcases Nat.lt_or_ge j ops.size with h' | h'
    · exact h'
    · simp [Array.getElem?_eq_none h'] at hj
  rw [hb.getD_true hjs] at hun
  have := freeFrom_spec h j oj (by simpa using hj)
  rw [Nat.zero_add] at this
  rcases this with h1 | h1 | h1 | h1
  · exact absurd h1 hji
  · rw [h1] at hun; cases hun
  · exact .inl h1
  · exact .inr h1
theorem rdy_lt {i : Nat} {o : Oper} (ho : ops[i]? = some o) : i < ops.size := by
  rcases Nat.lt_or_ge i ops.size with h' | h'
  · exact h'
  · simp [Array.getElem?_eq_none h'] at ho
theorem rdy_ready {listed : Array Bool} {i L : Nat} {o : Oper} (hb : Bits ops.size listed L) (ho : ops[i]? = some o) (h : rdyM o i L = true) : i ∈ Region.ready .any ops listed := by
  rw [ready_bits hb, mem_readyFrom]
  exact ⟨Nat.zero_le _, o, by simpa using ho, h⟩
def xtree (P : Program) (ops : Array Oper) (R : Act → World → Prop) : RT → Act → World → Prop
  | .done, a, w => R a w
  | .take i t, a, w => xwp P ops i (xtree P ops R t) a w
  | .alt i t r, a, w => xwp P ops i (xtree P ops R t) a w ∧ xtree P ops R r a w
theorem ready_set_lt {listed : Array Bool} {i : Nat} (h : i ∈ Region.ready .any ops listed) : i < ops.size := by
  obtain ⟨_, o, ho, _⟩ := ready_spec.1 h
  exact rdy_lt ho
theorem xtree_sound {A : Anc} (hA : ancOk ops A = true) {R : Act → World → Prop} : ∀ (t : RT),
    (∀ (fuel : Nat) (listed : Array Bool) (L : Nat) (a : Act) (w : World), Bits ops.size listed L → Down ops listed → okTree ops A t false fuel L = true → xtree P ops R t a w → xAny P ops R fuel listed a w) ∧
    (∀ (fuel : Nat) (listed : Array Bool) (L : Nat) (a : Act) (w : World), Bits ops.size listed L → Down ops listed → okTree ops A t true (fuel + 1) L = true → xtree P ops R t a w →
      ∀ k ∈ t.heads, k ∈ Region.ready .any ops listed → xwp P ops k (xAny P ops R fuel (listed.setIfInBounds k true)) a w) := by
  intro t
  induction t with
  | done =>
    refine ⟨fun fuel listed L a w hs hd ho h => ?_, fun fuel listed L a w hs hd ho h k hk => by cases hk⟩
    have ho' : eqL (readyFrom L 0 ops.toList) [] = true := by cases fuel <;> exact ho
    have := ready_nil hs ho'
    cases fuel with
    | zero => exact ⟨this, h⟩
    | succ fuel => exact ⟨fun _ => h, by rw [this]; simp⟩
  | take i t ih =>
    refine ⟨fun fuel listed L a w hs hd ho h => ?_, fun fuel listed L a w hs hd ho h k hk hr => ?_⟩
    · cases fuel with
      | zero => cases ho
      | succ fuel =>
        simp only [okTree, Bool.and_eq_true] at ho
        obtain ⟨h1, h2⟩ := ho
        unfold okTake at h1
        split at h1
        · cases h1
        · rename_i oi hi
          rw [Bool.and_eq_true] at h1
          have hr := rdy_ready hs hi h1.1
          exact xAny_first hA hi fuel listed a w hd (free_spec hs h1.2) hr (xwp_mono (fun a' w' hh => ih.1 _ _ _ a' w' (hs.set (rdy_lt hi)) (down_set hd hr) h2 hh) h)
    · simp only [okTree] at ho
      simp only [RT.heads, List.mem_cons, List.not_mem_nil, or_false] at hk
      subst hk
      exact xwp_mono (fun a' w' hh => ih.1 _ _ _ a' w' (hs.set (ready_set_lt hr)) (down_set hd hr) ho hh) h
  | alt i t r iht ihr =>
    have key : ∀ (b : Bool) (fuel : Nat) (listed : Array Bool) (L : Nat) (a : Act) (w : World), Bits ops.size listed L → Down ops listed → okTree ops A (.alt i t r) b (fuel + 1) L = true → xtree P ops R (.alt i t r) a w →
        ∀ k ∈ (RT.alt i t r).heads, k ∈ Region.ready .any ops listed → xwp P ops k (xAny P ops R fuel (listed.setIfInBounds k true)) a w := by
      intro b fuel listed L a w hs hd ho h k hk hr
      simp only [okTree, Bool.and_eq_true] at ho
      obtain ⟨⟨_, h2⟩, h3⟩ := ho
      simp only [RT.heads, List.mem_cons] at hk
      rcases hk with rfl | hk
      · exact xwp_mono (fun a' w' hh => iht.1 _ _ _ a' w' (hs.set (ready_set_lt hr)) (down_set hd hr) h2 hh) h.1
      · exact ihr.2 fuel listed L a w hs hd h3 h.2 k hk hr
    refine ⟨fun fuel listed L a w hs hd ho h => ?_, key true⟩
    cases fuel with
    | zero => cases ho
    | succ fuel =>
      have h1 := ho
      simp only [okTree, Bool.and_eq_true, Bool.false_or] at h1
      have hm : ∀ k, k ∈ Region.ready .any ops listed ↔ k ∈ (RT.alt i t r).heads := fun k => by rw [ready_bits hs, eqL_eq h1.1.1]; rfl
      refine ⟨fun h0 => ?_, fun k hk => key false fuel listed L a w hs hd ho h k ((hm k).1 hk) hk⟩
      have := (hm i).2 (by simp [RT.heads])
      rw [h0] at this; cases this
theorem bits0 (n : Nat) : Bits n (Array.replicate n false) 0 := by
  refine ⟨by simp, fun k => ?_⟩
  rcases Nat.lt_or_ge k n with h' | h' <;> simp [h']
theorem down0 (n : Nat) : Down ops (Array.replicate n false) := by
  intro j o hj hl
  exfalso
  have : (Array.replicate n false).getD j false = false := by
    rcases Nat.lt_or_ge j n with h' | h' <;> simp [h']
  rw [this] at hl
  cases hl
theorem wp_region_tree {id : Nat} {A : Anc} {t : RT} {a : Act} {w : World} {Q : Exit → Act → World → Prop} (hm : P.follows .mixedOrders = true) (ho : regionOk ops A t = true)
    (h : xtree P ops (fun a w => Q .normal a w) t a { w with drawn := w.drawn + 1 }) : (Code.region id ops true).wp P Q a w := by
  unfold regionOk at ho
  rw [Bool.and_eq_true] at ho
  exact wp_region_any hm (xAny_sound (R := fun a w => Q .normal a w) (fun _ _ h => h) _ _ _ _ ((xtree_sound ho.1 t).1 _ _ _ _ _ (bits0 _) (down0 _) ho.2 h))
theorem xtree_seq {R : Act → World → Prop} {Q : Exit → Act → World → Prop} (hQ : ∀ a w, R a w → Q .normal a w) : ∀ (n i : Nat) (a : Act) (w : World), xtree P ops R (RT.chain n i) a w →
    wpOps P ops Q (List.range' i n) a w := by
  intro n
  induction n with
  | zero => intro i a w h; exact hQ _ _ h
  | succ n ih =>
    intro i a w h
    rw [List.range'_succ, wpOps_cons]
    exact xwp_sound (xwp_mono (fun a w => ih (i + 1) a w) h)
theorem wp_region_text {id : Nat} {a : Act} {w : World} {Q : Exit → Act → World → Prop}
    (h : xtree P ops (fun a w => Q .normal a w) (RT.chain ops.size 0) a w) : (Code.region id ops false).wp P Q a w :=
  wp_region (by rw [List.range_eq_range']; exact xtree_seq (fun _ _ h => h) _ _ _ _ h)
def okTreeH (ops : Array Oper) : RT → Bool → Nat → Nat → Bool
  | .done, false, _, L => eqL (readyFrom L 0 ops.toList) []
  | .take i t, b, f + 1, L => (b || eqL (readyFrom L 0 ops.toList) [i]) && okTreeH ops t false f (setM L i)
  | .alt i t r, b, f + 1, L => (b || eqL (readyFrom L 0 ops.toList) (i :: r.heads)) && okTreeH ops t false f (setM L i) && okTreeH ops r true (f + 1) L
  | _, _, _, _ => false
def okHeld (ops : Array Oper) (A : Anc) : Nat → List Nat → RT → Nat → Bool
  | f, [], t, L => okTreeH ops t false f L
  | f + 1, i :: l, t, L => (match ops[i]? with
      | none => false
      | some oi => oi.guard.isNone && (kindOf oi.op == .pure || kindOf oi.op == .read) && rdyM oi i L && freeFrom ops A (fun x y => x.apart ops y) oi i L 0 ops.toList) && okHeld ops A f l t (setM L i)
  | 0, _ :: _, _, _ => false
def heldOk (ops : Array Oper) (A : Anc) (l : List Nat) (t : RT) : Bool := ancOk ops A && okHeld ops A ops.size l t 0
def xtreeH (P : Program) (ops : Array Oper) (S : World → Prop) (R : Act → World → Prop) : RT → Act → World → Prop
  | .done, a, w => R a w
  | .take i t, a, w => xwp P ops i (fun a' w' => S w' ∧ xtreeH P ops S R t a' w') a w
  | .alt i t r, a, w => xwp P ops i (fun a' w' => S w' ∧ xtreeH P ops S R t a' w') a w ∧ xtreeH P ops S R r a w
theorem xtreeH_sound {S : World → Prop} {R : Act → World → Prop} : ∀ (t : RT),
    (∀ (fuel : Nat) (listed : Array Bool) (L : Nat) (a : Act) (w : World), Bits ops.size listed L → okTreeH ops t false fuel L = true → xtreeH P ops S R t a w → xAnyH P ops R S fuel listed a w) ∧
    (∀ (fuel : Nat) (listed : Array Bool) (L : Nat) (a : Act) (w : World), Bits ops.size listed L → okTreeH ops t true (fuel + 1) L = true → xtreeH P ops S R t a w →
      ∀ k ∈ t.heads, k ∈ Region.ready .any ops listed → xwp P ops k (fun a' w' => S w' ∧ xAnyH P ops R S fuel (listed.setIfInBounds k true) a' w') a w) := by
  intro t
  induction t with
  | done =>
    refine ⟨fun fuel listed L a w hs ho h => ?_, fun fuel listed L a w hs ho h k hk => by cases hk⟩
    have ho' : eqL (readyFrom L 0 ops.toList) [] = true := by cases fuel <;> exact ho
    have := ready_nil hs ho'
    cases fuel with
    | zero => exact ⟨this, h⟩
    | succ fuel => exact ⟨fun _ => h, by rw [this]; simp⟩
  | take i t ih =>
    have key : ∀ (b : Bool) (fuel : Nat) (listed : Array Bool) (L : Nat) (a : Act) (w : World), Bits ops.size listed L → okTreeH ops (.take i t) b (fuel + 1) L = true → xtreeH P ops S R (.take i t) a w →
        ∀ k ∈ (RT.take i t).heads, k ∈ Region.ready .any ops listed → xwp P ops k (fun a' w' => S w' ∧ xAnyH P ops R S fuel (listed.setIfInBounds k true) a' w') a w := by
      intro b fuel listed L a w hs ho h k hk hr
      simp only [okTreeH, Bool.and_eq_true] at ho
      simp only [RT.heads, List.mem_cons, List.not_mem_nil, or_false] at hk
      subst hk
      exact xwp_mono (fun a' w' hh => ⟨hh.1, ih.1 _ _ _ a' w' (hs.set (ready_set_lt hr)) ho.2 hh.2⟩) h
    refine ⟨fun fuel listed L a w hs ho h => ?_, key true⟩
    cases fuel with
    | zero => cases ho
    | succ fuel =>
      have h1 := ho
      simp only [okTreeH, Bool.and_eq_true, Bool.false_or] at h1
      have hm : ∀ k, k ∈ Region.ready .any ops listed ↔ k ∈ (RT.take i t).heads := fun k => by rw [ready_bits hs, eqL_eq h1.1]; rfl
      refine ⟨fun h0 => ?_, fun k hk => key false fuel listed L a w hs ho h k ((hm k).1 hk) hk⟩
      have := (hm i).2 (by simp [RT.heads])
      rw [h0] at this; cases this
  | alt i t r iht ihr =>
    have key : ∀ (b : Bool) (fuel : Nat) (listed : Array Bool) (L : Nat) (a : Act) (w : World), Bits ops.size listed L → okTreeH ops (.alt i t r) b (fuel + 1) L = true → xtreeH P ops S R (.alt i t r) a w →
        ∀ k ∈ (RT.alt i t r).heads, k ∈ Region.ready .any ops listed → xwp P ops k (fun a' w' => S w' ∧ xAnyH P ops R S fuel (listed.setIfInBounds k true) a' w') a w := by
      intro b fuel listed L a w hs ho h k hk hr
      simp only [okTreeH, Bool.and_eq_true] at ho
      obtain ⟨⟨_, h2⟩, h3⟩ := ho
      simp only [RT.heads, List.mem_cons] at hk
      rcases hk with rfl | hk
      · exact xwp_mono (fun a' w' hh => ⟨hh.1, iht.1 _ _ _ a' w' (hs.set (ready_set_lt hr)) h2 hh.2⟩) h.1
      · exact ihr.2 fuel listed L a w hs h3 h.2 k hk hr
    refine ⟨fun fuel listed L a w hs ho h => ?_, key true⟩
    cases fuel with
    | zero => cases ho
    | succ fuel =>
      have h1 := ho
      simp only [okTreeH, Bool.and_eq_true, Bool.false_or] at h1
      have hm : ∀ k, k ∈ Region.ready .any ops listed ↔ k ∈ (RT.alt i t r).heads := fun k => by rw [ready_bits hs, eqL_eq h1.1.1]; rfl
      refine ⟨fun h0 => ?_, fun k hk => key false fuel listed L a w hs ho h k ((hm k).1 hk) hk⟩
      have := (hm i).2 (by simp [RT.heads])
      rw [h0] at this; cases this
def xheld (P : Program) (ops : Array Oper) (S : World → Prop) (R : Act → World → Prop) (t : RT) : List Nat → Act → World → Prop
  | [], a, w => xtreeH P ops S R t a w
  | i :: l, a, w => ∃ oi v, ops[i]? = some oi ∧ (∀ w, S w → ∀ k, k v w → xstep P ops oi a w k) ∧ xheld P ops S R t l (a.put oi.dst v) w
theorem xheld_sound {A : Anc} (hA : ancOk ops A = true) {S : World → Prop} {R : Act → World → Prop} {t : RT} : ∀ (l : List Nat) (fuel : Nat) (listed : Array Bool) (L : Nat) (a : Act) (w : World),
    Bits ops.size listed L → Down ops listed → okHeld ops A fuel l t L = true → S w → xheld P ops S R t l a w → xAnyH P ops R S fuel listed a w := by
  intro l
  induction l with
  | nil =>
    intro fuel listed L a w hs hd ho hS h
    have : okTreeH ops t false fuel L = true := by cases fuel <;> exact ho
    exact (xtreeH_sound t).1 fuel listed L a w hs this h
  | cons i l ih =>
    intro fuel listed L a w hs hd ho hS h
    obtain ⟨oi, v, hi, hy, hh⟩ := h
    cases fuel with
    | zero => cases ho
    | succ fuel =>
      simp only [okHeld, hi, Bool.and_eq_true] at ho
      obtain ⟨⟨⟨_, hr⟩, hall⟩, h2⟩ := ho
      have hr' := rdy_ready hs hi hr
      exact xAnyH_first hA hi fuel listed a w hd hy (free_spec hs hall) hr' hS (ih fuel _ _ _ w (hs.set (rdy_lt hi)) (down_set hd hr') h2 hS hh)
theorem wp_region_held' {id : Nat} {A : Anc} {l : List Nat} {t : RT} {a : Act} {w : World} {Q : Exit → Act → World → Prop} (hm : P.follows .mixedOrders = true) (ho : heldOk ops A l t = true)
    (h : xheld P ops (Hd { w with drawn := w.drawn + 1 }) (fun a w => Q .normal a w) t l a { w with drawn := w.drawn + 1 }) : (Code.region id ops true).wp P Q a w := by
  unfold heldOk at ho
  rw [Bool.and_eq_true] at ho
  exact wp_region_any hm (xAny_sound (R := fun a w => Q .normal a w) (fun _ _ h => h) _ _ _ _ (xAny_of_held _ _ _ _ (xheld_sound ho.1 l _ _ _ _ _ (bits0 _) (down0 _) ho.2 (Hd.refl _) h)))
end

/-! ## Named temporaries -/
/-- what a temporary holds; 'none': its operation was not wanted -/
abbrev Env := List (Nat × Option Value)
def vl : Option Value → Value
  | some v => v
  | none => undef
def lk : Env → Nat → Option (Option Value)
  | [], _ => none
  | (s, v) :: ρ, t => match Nat.beq s t with
    | true => some v
    | false => lk ρ t
def has : Env → Nat → Bool
  | [], _ => false
  | (s, _) :: ρ, t => match Nat.beq s t with
    | true => true
    | false => has ρ t
def ev (ρ : Env) : Operand → Value
  | .tmp t => match lk ρ t with | some v => vl v | none => undef
  | .const v => v
  | .global g => .pointer (some ⟨g, 0, none⟩)
  | .func f => .func (.func f) #[] #[]
def covers (ρ : Env) (o : Oper) : Bool := o.op.operands.toList.all fun | .tmp t => has ρ t | _ => true
def putE (ρ : Env) (d : Option Tmp) (v : Option Value) : Env :=
  match d with
  | some d => (d, v) :: ρ
  | none => ρ
def Bc (v : Value) (A B : Prop) : Prop :=
  match v with
  | .bool true => A
  | .bool false => B
  | _ => False
theorem Bc.out {v : Value} {A B : Prop} (h : Bc v A B) : (v = .bool true ∧ A) ∨ (v = .bool false ∧ B) := by
  unfold Bc at h
  split at h
  · exact .inl ⟨rfl, h⟩
  · exact .inr ⟨rfl, h⟩
  · exact h.elim
section
variable (P : Program)
def eop (ops : Array Oper) (o : Oper) (K : Env → World → Prop) (ρ : Env) (w : World) : Prop :=
  match covers ρ o with
  | false => False
  | true => match o.guard with
    | none => yop P o.op o.type (ev ρ) w fun v w' => K (putE ρ o.dst (some v)) w'
    | some (j, want) => match (ops[j]?).bind (·.dst) with
      | none => False
      | some d => match lk ρ d with
        | none => False
        | some none => K (putE ρ o.dst none) w
        | some (some x) => match want with
          | true => Bc x (yop P o.op o.type (ev ρ) w fun v w' => K (putE ((d, some (.bool true)) :: ρ) o.dst (some v)) w') (K (putE ((d, some (.bool false)) :: ρ) o.dst none) w)
          | false => Bc x (K (putE ((d, some (.bool true)) :: ρ) o.dst none) w) (yop P o.op o.type (ev ρ) w fun v w' => K (putE ((d, some (.bool false)) :: ρ) o.dst (some v)) w')
def etree (ops : Array Oper) (K : Env → World → Prop) : RT → Env → World → Prop
  | .done, ρ, w => K ρ w
  | .take i t, ρ, w => match ops[i]? with
    | some o => eop P ops o (etree ops K t) ρ w
    | none => False
  | .alt i t r, ρ, w => match ops[i]? with
    | some o => eop P ops o (etree ops K t) ρ w ∧ etree ops K r ρ w
    | none => False
def etreeH (ops : Array Oper) (w0 : World) (K : Env → World → Prop) : RT → Env → World → Prop
  | .done, ρ, w => K ρ w
  | .take i t, ρ, w => match ops[i]? with
    | some o => eop P ops o (fun ρ w => Hd w0 w ∧ etreeH ops w0 K t ρ w) ρ w
    | none => False
  | .alt i t r, ρ, w => match ops[i]? with
    | some o => eop P ops o (fun ρ w => Hd w0 w ∧ etreeH ops w0 K t ρ w) ρ w ∧ etreeH ops w0 K r ρ w
    | none => False
/-- what is pure, or read, first -/
def eheld (ops : Array Oper) (K : Env → World → Prop) (t : RT) : List Nat → Env → World → Prop
  | [], ρ, w => etreeH P ops w K t ρ w
  | i :: l, ρ, w => match ops[i]? with
    | none => False
    | some o => match covers ρ o with
      | false => False
      | true => match kindOf o.op with
        | .pure => O (px P (ev ρ) o.op) fun v => eheld ops K t l (putE ρ o.dst (some v)) w
        | .read => O (rx P (ev ρ) w o.op) fun v => eheld ops K t l (putE ρ o.dst (some v)) w
        | _ => False
def eseq (ops : Array Oper) (K : Env → World → Prop) : List Oper → Env → World → Prop
  | [], ρ, w => K ρ w
  | o :: l, ρ, w => eop P ops o (eseq ops K l) ρ w
end
structure Agr (n : Nat) (ρ : Env) (a : Act) : Prop where
  size : a.tmps.size = n
  none : a.defers = []
  at_ : ∀ t v, lk ρ t = some v → a.tmps[t]? = some (vl v)
theorem lk_cons {s t : Nat} {v : Option Value} {ρ : Env} : lk ((s, v) :: ρ) t = if s = t then some v else lk ρ t := by
  show (match Nat.beq s t with | true => some v | false => lk ρ t) = _
  by_cases h : s = t
  · subst h; simp
  · have : Nat.beq s t = false := by
      cases hb : Nat.beq s t with
      | true => exact absurd (Nat.eq_of_beq_eq_true hb) h
      | false => rfl
    rw [this, if_neg h]
theorem has_lk {ρ : Env} {t : Nat} (h : has ρ t = true) : ∃ v, lk ρ t = some v := by
  induction ρ with
  | nil => cases h
  | cons x ρ ih =>
    obtain ⟨s, v⟩ := x
    rw [lk_cons]
    by_cases hs : s = t
    · exact ⟨v, by simp [hs]⟩
    · have hb : Nat.beq s t = false := by
        cases hb : Nat.beq s t with
        | true => exact absurd (Nat.eq_of_beq_eq_true hb) hs
        | false => rfl
      simp only [has, hb] at h
      obtain ⟨u, hu⟩ := ih h
      exact ⟨u, by simp [hs, hu]⟩
theorem Agr.ev {n : Nat} {ρ : Env} {a : Act} (h : Agr n ρ a) {x : Operand} (hx : ∀ t, x = .tmp t → has ρ t = true) : Go.Proofs.Ytedcfkigfcobaaa.ev ρ x = a.eval x := by
  cases x with
  | tmp t =>
    obtain ⟨v, hv⟩ := has_lk (hx t rfl)
    have := h.at_ t v hv
    simp [Go.Proofs.Ytedcfkigfcobaaa.ev, hv, Act.eval, this]
  | _ => rfl
theorem covers_spec {n : Nat} {ρ : Env} {a : Act} (h : Agr n ρ a) {o : Oper} (hc : covers ρ o = true) : ∀ x ∈ o.op.operands, ev ρ x = a.eval x := by
  intro x hx
  unfold covers at hc
  rw [List.all_eq_true] at hc
  refine h.ev fun t ht => ?_
  subst ht
  exact hc (.tmp t) (by simpa using hx)
theorem Agr.put {n : Nat} {ρ : Env} {a : Act} (h : Agr n ρ a) {d : Option Tmp} {v : Option Value} (hd : ∀ t, d = some t → t < n) : Agr n (putE ρ d v) (a.put d (vl v)) := by
  cases d with
  | none => exact h
  | some d =>
    refine ⟨by simp [Act.put, h.size], h.none, fun t u hu => ?_⟩
    simp only [putE, lk_cons] at hu
    simp only [Act.put]
    by_cases hdt : d = t
    · subst hdt
      simp only [if_true, Option.some.injEq] at hu
      subst hu
      have h1 := hd d rfl
      rw [← h.size] at h1
      simp [h1]
    · rw [if_neg hdt] at hu
      rw [Array.getElem?_setIfInBounds_ne hdt]
      exact h.at_ t u hu
theorem Agr.learn {n : Nat} {ρ : Env} {a : Act} (h : Agr n ρ a) {d : Nat} {x v : Value} (hd : lk ρ d = some (some x)) (hv : x = v) : Agr n ((d, some v) :: ρ) a := by
  subst hv
  refine ⟨h.size, h.none, fun t u hu => ?_⟩
  rw [lk_cons] at hu
  by_cases hdt : d = t
  · subst hdt
    simp only [if_true, Option.some.injEq] at hu
    subst hu
    exact h.at_ d _ hd
  · rw [if_neg hdt] at hu
    exact h.at_ t u hu
def dstsOk (n : Nat) (ops : Array Oper) : Bool := ops.toList.all fun o => match o.dst with | some d => Nat.blt d n | none => true
theorem dstsOk_spec {n : Nat} {ops : Array Oper} (h : dstsOk n ops = true) {i : Nat} {o : Oper} (ho : ops[i]? = some o) : ∀ t, o.dst = some t → t < n := by
  intro t ht
  unfold dstsOk at h
  rw [List.all_eq_true] at h
  have := h o (by simpa using Array.mem_of_getElem? ho)
  rw [ht] at this
  simpa [Nat.blt_eq] using this
def wrOps (ops : Array Oper) : List Nat := ops.toList.filterMap (·.dst)
theorem put_other {a : Act} {d : Option Tmp} {v : Value} {s : Nat} (h : ∀ t, d = some t → t ≠ s) : (a.put d v).tmps[s]? = a.tmps[s]? := by
  cases d with
  | none => rfl
  | some d => simp [Act.put, Array.getElem?_setIfInBounds_ne (h d rfl)]
theorem mem_wrOps {ops : Array Oper} {i : Nat} {o : Oper} (ho : ops[i]? = some o) {t : Nat} (ht : o.dst = some t) : t ∈ wrOps ops :=
  List.mem_filterMap.2 ⟨o, by simpa using Array.mem_of_getElem? ho, ht⟩
def Post (n : Nat) (W : List Nat) (a : Act) (K : Env → World → Prop) (a' : Act) (w' : World) : Prop :=
  (∀ s, s ∉ W → a'.tmps[s]? = a.tmps[s]?) ∧ ∃ ρ', Agr n ρ' a' ∧ K ρ' w'
section
variable {P : Program} {n : Nat} {ops : Array Oper}
theorem eop_sound (hd : dstsOk n ops = true) {i : Nat} {o : Oper} (ho : ops[i]? = some o) {K : Env → World → Prop} {ρ : Env} {w : World} (h : eop P ops o K ρ w) {a : Act} (ha : Agr n ρ a) :
    xwp P ops i (Post n (wrOps ops) a K) a w := by
  have hdst := dstsOk_spec hd ho
  have hoth : ∀ v s, s ∉ wrOps ops → (a.put o.dst v).tmps[s]? = a.tmps[s]? := fun v s hs => put_other fun t ht e => hs (e ▸ mem_wrOps ho ht)
  unfold eop at h
  split at h
  · exact h.elim
  · rename_i hc
    have hev := covers_spec ha hc
    unfold xwp
    simp only [ho]
    unfold xstep gd
    split at h
    · rename_i hg
      simp only [hg]
      rw [← xop_congr hev]
      exact xop_mono (yop_xop h) fun v w' hk => ⟨hoth v, _, ha.put (v := some v) hdst, hk⟩
    · rename_i j want hg
      simp only [hg]
      split at h
      · exact h.elim
      · rename_i d hjd
        split at h
        · exact h.elim
        · rename_i hl
          have hax := ha.at_ d _ hl
          have hy : yielded ops a.tmps j = none := by
            unfold yielded
            rw [hjd]
            simp only [Option.bind_some, hax]
            rfl
          rw [hy]
          exact ⟨hoth _, _, ha.put (v := none) hdst, h⟩
        · rename_i x hl
          have hax := ha.at_ d _ hl
          have hy : ∀ b, x = .bool b → yielded ops a.tmps j = some b := by
            intro b hb
            unfold yielded
            rw [hjd]
            simp [hax, vl, hb]
          split at h
          · rcases h.out with ⟨hv, hk⟩ | ⟨hv, hk⟩
            · rw [hy _ hv]
              simp only [beq_self_eq_true]
              rw [← xop_congr hev]
              exact xop_mono (yop_xop hk) fun v w' hk => ⟨hoth v, _, (ha.learn hl hv).put (v := some v) hdst, hk⟩
            · rw [hy _ hv]
              exact ⟨hoth _, _, (ha.learn hl hv).put (v := none) hdst, hk⟩
          · rcases h.out with ⟨hv, hk⟩ | ⟨hv, hk⟩
            · rw [hy _ hv]
              exact ⟨hoth _, _, (ha.learn hl hv).put (v := none) hdst, hk⟩
            · rw [hy _ hv]
              simp only [beq_self_eq_true]
              rw [← xop_congr hev]
              exact xop_mono (yop_xop hk) fun v w' hk => ⟨hoth v, _, (ha.learn hl hv).put (v := some v) hdst, hk⟩
theorem Post.trans {W : List Nat} {a a' : Act} {K : Env → World → Prop} {a'' : Act} {w : World} (h : ∀ s, s ∉ W → a'.tmps[s]? = a.tmps[s]?) (h' : Post n W a' K a'' w) : Post n W a K a'' w :=
  ⟨fun s hs => (h'.1 s hs).trans (h s hs), h'.2⟩
theorem etree_sound (hd : dstsOk n ops = true) {K : Env → World → Prop} : ∀ (t : RT) (ρ : Env) (w : World) (a : Act), etree P ops K t ρ w → Agr n ρ a →
    xtree P ops (Post n (wrOps ops) a K) t a w := by
  have mono : ∀ (t : RT) (R R' : Act → World → Prop), (∀ a w, R a w → R' a w) → ∀ a w, xtree P ops R t a w → xtree P ops R' t a w := by
    intro t R R' hR
    induction t with
    | done => exact hR
    | take i t ih => exact fun a w h => xwp_mono ih h
    | alt i t r ih1 ih2 => exact fun a w h => ⟨xwp_mono ih1 h.1, ih2 a w h.2⟩
  intro t
  induction t with
  | done => exact fun ρ w a h ha => ⟨fun _ _ => rfl, ρ, ha, h⟩
  | take i t ih =>
    intro ρ w a h ha
    unfold etree at h
    split at h
    · rename_i o ho
      refine xwp_mono ?_ (eop_sound hd ho h ha)
      rintro a' w' ⟨h1, ρ', h2, h3⟩
      exact mono t _ _ (fun a'' w'' h4 => h4.trans h1) a' w' (ih ρ' w' a' h3 h2)
    · exact h.elim
  | alt i t r ih1 ih2 =>
    intro ρ w a h ha
    unfold etree at h
    split at h
    · rename_i o ho
      refine ⟨xwp_mono ?_ (eop_sound hd ho h.1 ha), ih2 ρ w a h.2 ha⟩
      rintro a' w' ⟨h1, ρ', h2, h3⟩
      exact mono t _ _ (fun a'' w'' h4 => h4.trans h1) a' w' (ih1 ρ' w' a' h3 h2)
    · exact h.elim
theorem eseq_sound (hd : dstsOk n ops = true) {K : Env → World → Prop} : ∀ (l : List Oper) (i : Nat), ops.toList.drop i = l → ∀ (ρ : Env) (w : World) (a : Act), eseq P ops K l ρ w → Agr n ρ a →
    xtree P ops (Post n (wrOps ops) a K) (RT.chain l.length i) a w := by
  have mono : ∀ (t : RT) (R R' : Act → World → Prop), (∀ a w, R a w → R' a w) → ∀ a w, xtree P ops R t a w → xtree P ops R' t a w := by
    intro t R R' hR
    induction t with
    | done => exact hR
    | take i t ih => exact fun a w h => xwp_mono ih h
    | alt i t r ih1 ih2 => exact fun a w h => ⟨xwp_mono ih1 h.1, ih2 a w h.2⟩
  intro l
  induction l with
  | nil => exact fun i _ ρ w a h ha => ⟨fun _ _ => rfl, ρ, ha, h⟩
  | cons o l ih =>
    intro i hi ρ w a h ha
    have ho : ops[i]? = some o := by
      have := congrArg (·[0]?) hi
      simpa using this
    have hi' : ops.toList.drop (i + 1) = l := by
      have := congrArg (List.drop 1) hi
      simpa [Nat.add_comm] using this
    refine xwp_mono ?_ (eop_sound hd ho h ha)
    rintro a' w' ⟨h1, ρ', h2, h3⟩
    exact mono _ _ _ (fun a'' w'' h4 => h4.trans h1) a' w' (ih (i + 1) hi' ρ' w' a' h3 h2)
theorem etreeH_sound (hd : dstsOk n ops = true) {w0 : World} {K : Env → World → Prop} : ∀ (t : RT) (ρ : Env) (w : World) (a : Act), etreeH P ops w0 K t ρ w → Agr n ρ a →
    xtreeH P ops (Hd w0) (Post n (wrOps ops) a K) t a w := by
  have mono : ∀ (t : RT) (R R' : Act → World → Prop), (∀ a w, R a w → R' a w) → ∀ a w, xtreeH P ops (Hd w0) R t a w → xtreeH P ops (Hd w0) R' t a w := by
    intro t R R' hR
    induction t with
    | done => exact hR
    | take i t ih => exact fun a w h => xwp_mono (fun a w hh => ⟨hh.1, ih a w hh.2⟩) h
    | alt i t r ih1 ih2 => exact fun a w h => ⟨xwp_mono (fun a w hh => ⟨hh.1, ih1 a w hh.2⟩) h.1, ih2 a w h.2⟩
  intro t
  induction t with
  | done => exact fun ρ w a h ha => ⟨fun _ _ => rfl, ρ, ha, h⟩
  | take i t ih =>
    intro ρ w a h ha
    unfold etreeH at h
    split at h
    · rename_i o ho
      refine xwp_mono ?_ (eop_sound hd ho h ha)
      rintro a' w' ⟨h1, ρ', h2, hS, h3⟩
      exact ⟨hS, mono t _ _ (fun a'' w'' h4 => h4.trans h1) a' w' (ih ρ' w' a' h3 h2)⟩
    · exact h.elim
  | alt i t r ih1 ih2 =>
    intro ρ w a h ha
    unfold etreeH at h
    split at h
    · rename_i o ho
      refine ⟨xwp_mono ?_ (eop_sound hd ho h.1 ha), ih2 ρ w a h.2 ha⟩
      rintro a' w' ⟨h1, ρ', h2, hS, h3⟩
      exact ⟨hS, mono t _ _ (fun a'' w'' h4 => h4.trans h1) a' w' (ih1 ρ' w' a' h3 h2)⟩
    · exact h.elim
theorem heap_lt {w : World} {b : Nat} {o : Obj} (h : w.heap[b]? = some o) : b < w.heap.size := by
  rcases Nat.lt_or_ge b w.heap.size with h' | h'
  · exact h'
  · simp [Array.getElem?_eq_none h'] at h
theorem rx_hd {ev : Operand → Value} {w w' : World} {o : Op} {v : Value} (hS : Hd w w') (h : rx P ev w o = some v) : rx P ev w' o = some v := by
  unfold rx at h ⊢
  split at h
  case h_2 => cases h
  split at h
  · unfold rd1 at h ⊢
    split at h
    case h_2 => cases h
    split at h
    case h_2 => cases h
    rename_i hh
    rw [hS _ (heap_lt hh), hh]; exact h
  · split at h
    · unfold rdN at h ⊢
      split at h
      case h_2 => cases h
      split at h
      case h_2 => cases h
      rename_i hh
      rw [hS _ (heap_lt hh), hh]; exact h
    · cases h
  · cases h
theorem eheld_sound (hd : dstsOk n ops = true) {A : Anc} {K : Env → World → Prop} {t : RT} : ∀ (l : List Nat) (f : Nat) (listed : Nat), okHeld ops A f l t listed = true →
    ∀ (ρ : Env) (w : World) (a : Act), eheld P ops K t l ρ w → Agr n ρ a → xheld P ops (Hd w) (Post n (wrOps ops) a K) t l a w := by
  have mono : ∀ (w0 : World) (l : List Nat) (R R' : Act → World → Prop), (∀ a w, R a w → R' a w) → ∀ a w, xheld P ops (Hd w0) R t l a w → xheld P ops (Hd w0) R' t l a w := by
    intro w0 l R R' hR
    induction l with
    | nil =>
      have m2 : ∀ (t : RT) a w, xtreeH P ops (Hd w0) R t a w → xtreeH P ops (Hd w0) R' t a w := by
        intro t
        induction t with
        | done => exact hR
        | take i t ih => exact fun a w h => xwp_mono (fun a w hh => ⟨hh.1, ih a w hh.2⟩) h
        | alt i t r ih1 ih2 => exact fun a w h => ⟨xwp_mono (fun a w hh => ⟨hh.1, ih1 a w hh.2⟩) h.1, ih2 a w h.2⟩
      exact m2 t
    | cons i l ih =>
      rintro a w ⟨oi, v, h1, h2, h3⟩
      exact ⟨oi, v, h1, h2, ih _ _ h3⟩
  intro l
  induction l with
  | nil => exact fun f listed ho ρ w a h ha => etreeH_sound hd t ρ w a h ha
  | cons i l ih =>
    intro f listed ho ρ w a h ha
    cases f with
    | zero => cases ho
    | succ f =>
      unfold eheld at h
      split at h
      · exact h.elim
      · rename_i o hi
        simp only [okHeld, hi, Bool.and_eq_true] at ho
        obtain ⟨⟨⟨⟨hg, _⟩, _⟩, _⟩, ho⟩ := ho
        have hg' : gd ops a o = true := by
          unfold gd
          cases hgd : o.guard with
          | none => rfl
          | some x => rw [hgd] at hg; cases hg
        have hdst := dstsOk_spec hd hi
        have hoth : ∀ v s, s ∉ wrOps ops → (a.put o.dst v).tmps[s]? = a.tmps[s]? := fun v s hs => put_other fun t ht e => hs (e ▸ mem_wrOps hi ht)
        split at h
        · exact h.elim
        · rename_i hc
          have hev := covers_spec ha hc
          split at h
          · rename_i hk
            obtain ⟨v, hv, h⟩ := h.out
            refine ⟨o, v, hi, fun w' _ k hk' => ?_, mono _ _ _ _ (fun a'' w'' h4 => h4.trans (hoth v)) _ _ (ih f _ ho _ w _ h (ha.put (v := some v) hdst))⟩
            unfold xstep
            rw [hg']
            simp only [xop, hk]
            rw [← px_congr hev, hv]; exact hk'
          · rename_i hk
            obtain ⟨v, hv, h⟩ := h.out
            refine ⟨o, v, hi, fun w' hS k hk' => ?_, mono _ _ _ _ (fun a'' w'' h4 => h4.trans (hoth v)) _ _ (ih f _ ho _ w _ h (ha.put (v := some v) hdst))⟩
            unfold xstep
            rw [hg']
            simp only [xop, hk]
            rw [← rx_congr hev, rx_hd hS hv]; exact hk'
          · exact h.elim
end
end Go.Proofs.Ytedcfkigfcobaaa
end
