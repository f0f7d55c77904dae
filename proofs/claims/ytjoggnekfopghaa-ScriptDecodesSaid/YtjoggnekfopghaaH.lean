/- The rules of the walk: slots as a list, one rule an operation. No program in sight. -/
import Derived.Test.YtjoggnekfopghaaSpec
import Derived.Test.YtjoggnekfopghaaG2
import Derived.Lib.SlBytesRow
namespace Gp
open Go

abbrev S (l : Bs) : Value := .string ⟨l.toArray⟩
abbrev I (n : Int) : Value := .int .i64 n
abbrev U (c : UInt8) : Value := .int .u8 c.toNat
abbrev Pt (b o : Nat) : Value := .pointer (some ⟨b, o, none⟩)
abbrev T_ (b : Bool) : Value := .bool b

theorem ltN {a b : Nat} (h : Nat.blt a b = true) : a < b := by simpa [Nat.blt_eq] using h

/-! ### slots -/
def lk : List (Nat × Value) → Nat → Option Value
  | [], _ => none
  | (k, v) :: r, n => bif Nat.beq k n then some v else lk r n
structure Fr (N : Nat) (a : Act) (L : List (Nat × Value)) : Prop where
  size : a.tmps.size = N
  defs : a.defers = []
  get : ∀ t v, lk L t = some v → a.tmps[t]? = some v
def opv (L : List (Nat × Value)) : Operand → Option Value
  | .tmp t => lk L t
  | .const v => some v
  | .global g => some (.pointer (some ⟨g, 0, none⟩))
  | .func f => some (.func (.func f) #[] #[])
def opvs (L : List (Nat × Value)) : List Operand → Option (List Value)
  | [] => some []
  | x :: r => match opv L x, opvs L r with
    | some v, some vs => some (v :: vs)
    | _, _ => none
section
variable {N : Nat} {a : Act} {L : List (Nat × Value)} {x : Operand} {v : Value}
theorem Fr.eval (h : Fr N a L) (hx : opv L x = some v) : a.eval x = v := by
  cases x with
  | tmp t => have := h.get t v hx; simp [Act.eval, Array.getD_eq_getD_getElem?, this]
  | const c => simpa [opv, Act.eval] using hx
  | global g => simpa [opv, Act.eval] using hx
  | func f => simpa [opv, Act.eval] using hx
theorem Fr.evals (h : Fr N a L) : ∀ {xs : List Operand} {vs : List Value}, opvs L xs = some vs → xs.map a.eval = vs
  | [], _, hx => by simp [opvs] at hx; simp [hx]
  | x :: r, vs, hx => by
    simp only [opvs] at hx
    split at hx
    · rename_i v ws h1 h2
      cases hx
      simp [h.eval h1, h.evals h2]
    · cases hx
theorem Fr.put (h : Fr N a L) {d : Nat} (hd : d < N) (v : Value) : Fr N (a.put (some d) v) ((d, v) :: L) := by
  refine ⟨by simpa [Act.put] using h.size, h.defs, fun t u hu => ?_⟩
  simp only [lk] at hu
  by_cases e : d = t
  · subst e
    have : Nat.beq d d = true := Nat.beq_refl d
    simp only [this, cond_true, Option.some.injEq] at hu
    subst hu
    have hs := h.size
    simp [Act.put, show d < a.tmps.size by omega]
  · have : Nat.beq d t = false := by
      cases hb : Nat.beq d t
      · rfl
      · exact absurd (Nat.eq_of_beq_eq_true hb) e
    simp only [this, cond_false] at hu
    have := h.get t u hu
    simp only [Act.put]
    rw [Array.getElem?_setIfInBounds_ne e]; exact this
theorem Fr.sub (h : Fr N a L) {L' : List (Nat × Value)} (hs : ∀ t ∈ L', lk L t.1 = some t.2) : Fr N a L' := by
  refine ⟨h.size, h.defs, fun t v hv => h.get t v ?_⟩
  induction L' with
  | nil => simp [lk] at hv
  | cons p r ih =>
    obtain ⟨k, u⟩ := p
    simp only [lk] at hv
    cases hb : Nat.beq k t
    · rw [hb] at hv
      exact ih (fun t ht => hs t (List.mem_cons_of_mem _ ht)) (by simpa using hv)
    · rw [hb] at hv
      have e := Nat.eq_of_beq_eq_true hb
      subst e
      simp only [cond_true, Option.some.injEq] at hv
      subst hv
      exact hs (k, u) List.mem_cons_self
/-- Only some slots are kept: by their numbers. -/
def keep (L : List (Nat × Value)) : List Nat → List (Nat × Value)
  | [] => []
  | t :: r => match lk L t with
    | some v => (t, v) :: keep L r
    | none => keep L r
theorem Fr.keep (h : Fr N a L) (ts : List Nat) : Fr N a (Gp.keep L ts) := by
  refine h.sub fun p hp => ?_
  induction ts with
  | nil => simp [Gp.keep] at hp
  | cons t r ih =>
    simp only [Gp.keep] at hp
    split at hp
    · rename_i v hv
      rcases List.mem_cons.1 hp with rfl | hp
      · exact hv
      · exact ih hp
    · exact ih hp
end

/-! ### what the tables say of a type -/
def tsz (P : Program) (t : TypeId) : Option Nat := (P.info? t).map (·.size)
def agk (P : Program) (t : TypeId) : Option Bool := (P.underlying t).map fun u => match u with | .struct _ | .array _ _ => true | _ => false
/-- The offset of a field that has cells. -/
def fo (P : Program) (t : TypeId) (f : Nat) : Option Nat := match P.underlying t with
  | some (.struct fs) => match fs[f]? with
    | some fd => match tsz P fd.type with
      | some (_ + 1) => some fd.offset
      | _ => none
    | none => none
  | _ => none
/-- A slice's element type, and its cells. -/
def sle (P : Program) (t : TypeId) : Option (TypeId × Nat) := match P.underlying t with
  | some (.slice e) => (tsz P e).map fun n => (e, n)
  | _ => none
theorem tsz_run {P : Program} {t : TypeId} {n : Nat} (h : tsz P t = some n) (w : World) : (Go.sizeOf t).run P w = .ok n w := by
  unfold tsz at h
  cases hi : P.info? t with
  | none => simp [hi] at h
  | some i =>
    simp [hi] at h
    simp [Go.sizeOf, typeInfo, hi, h]
theorem agk_run {P : Program} {t : TypeId} {b : Bool} (h : agk P t = some b) (w : World) : (isAgg t).run P w = .ok b w := by
  unfold agk at h
  cases hu : P.underlying t with
  | none => simp [hu] at h
  | some u =>
    simp only [hu, Option.map_some, Option.some.injEq] at h
    simp only [isAgg, Sem.run_bind, run_underlying hu, Result.andThen_ok]
    cases u <;> simp_all
theorem sle_run {P : Program} {t e : TypeId} {n : Nat} (h : sle P t = some (e, n)) : P.underlying t = some (.slice e) ∧ tsz P e = some n := by
  unfold sle at h
  split at h
  · rename_i e' hu
    cases ht : tsz P e' with
    | none => simp [ht] at h
    | some m =>
      simp [ht] at h
      obtain ⟨rfl, rfl⟩ := h
      exact ⟨hu, ht⟩
  · cases h
theorem fo_run {P : Program} {t : TypeId} {f n : Nat} (h : fo P t f = some n) (b o : Nat) (w : World) : (Instr.fieldAt t (.pointer (some ⟨b, o, none⟩)) f).run P w = .ok (.pointer (some ⟨b, o + n, none⟩)) w := by
  unfold fo at h
  split at h
  · rename_i fs hu
    split at h
    · rename_i fd hf
      split at h
      · rename_i m hm
        simp only [Option.some.injEq] at h
        subst h
        simp [Instr.fieldAt, run_underlying hu, hf, Instr.sureAddr, fieldPlace, tsz_run hm, Addr.add]
      · cases h
    · cases h
  · cases h

/-- In a frame that fits L, in this world, the operation yields v and leaves the world as it was. -/
def Pu (P : Program) (L : List (Nat × Value)) (o : Oper) (w : World) (v : Value) : Prop := ∀ N a, Fr N a L → (execOp a.eval o).run P w = .ok (.value v) w

section
variable {P : Program} {L : List (Nat × Value)} {w : World} {d : Option Nat} {ty : TypeId} {pos : String} {af : Array Edge} {g : Option (Nat × Bool)}

theorem p_mv {x : Operand} {v : Value} (hx : opv L x = some v) : Pu P L (Oper.mk d (.move x) ty pos af g) w v := fun _ a hF => by simp [execOp, hF.eval hx]
theorem p_as {x : Operand} {v : Value} (hx : opv L x = some v) : Pu P L (Oper.mk d (.assign x) ty pos af g) w v := fun _ a hF => by simp [execOp, hF.eval hx]
theorem p_pickT {c x y : Operand} {v : Value} (hc : opv L c = some (.bool true)) (hx : opv L x = some v) : Pu P L (Oper.mk d (.pick c x y) ty pos af g) w v := fun _ a hF => by
  simp [execOp, hF.eval hc, hF.eval hx, asBool]
theorem p_pickF {c x y : Operand} {v : Value} (hc : opv L c = some (.bool false)) (hy : opv L y = some v) : Pu P L (Oper.mk d (.pick c x y) ty pos af g) w v := fun _ a hF => by
  simp [execOp, hF.eval hc, hF.eval hy, asBool]

/-! #### integers -/
section
variable {k : IntKind} {m n : Int} {x y : Operand} {t t' : TypeId}
theorem p_lss (hx : opv L x = some (.int k m)) (hy : opv L y = some (.int k n)) : Pu P L (Oper.mk d (.binOp .lss t x y t') ty pos af g) w (.bool (decide (m < n))) := fun _ a hF => by simp [execOp, hF.eval hx, hF.eval hy, eqGuard, binOp, Op.intCmp]
theorem p_leq (hx : opv L x = some (.int k m)) (hy : opv L y = some (.int k n)) : Pu P L (Oper.mk d (.binOp .leq t x y t') ty pos af g) w (.bool (decide (m ≤ n))) := fun _ a hF => by simp [execOp, hF.eval hx, hF.eval hy, eqGuard, binOp, Op.intCmp]
theorem p_gtr (hx : opv L x = some (.int k m)) (hy : opv L y = some (.int k n)) : Pu P L (Oper.mk d (.binOp .gtr t x y t') ty pos af g) w (.bool (decide (n < m))) := fun _ a hF => by simp [execOp, hF.eval hx, hF.eval hy, eqGuard, binOp, Op.intCmp]
theorem p_geq (hx : opv L x = some (.int k m)) (hy : opv L y = some (.int k n)) : Pu P L (Oper.mk d (.binOp .geq t x y t') ty pos af g) w (.bool (decide (n ≤ m))) := fun _ a hF => by simp [execOp, hF.eval hx, hF.eval hy, eqGuard, binOp, Op.intCmp]
theorem p_ieq (hx : opv L x = some (.int k m)) (hy : opv L y = some (.int k n)) : Pu P L (Oper.mk d (.binOp .eql t x y t') ty pos af g) w (.bool (m == n)) := fun _ a hF => by simp [execOp, hF.eval hx, hF.eval hy, eqGuard, binOp, Op.intCmp]
theorem p_ine (hx : opv L x = some (.int k m)) (hy : opv L y = some (.int k n)) : Pu P L (Oper.mk d (.binOp .neq t x y t') ty pos af g) w (.bool (m != n)) := fun _ a hF => by simp [execOp, hF.eval hx, hF.eval hy, eqGuard, binOp, Op.intCmp]
theorem p_add {z : Int} (hx : opv L x = some (.int k m)) (hy : opv L y = some (.int k n)) (hz : k.wrap (m + n) = z) : Pu P L (Oper.mk d (.binOp .add t x y t') ty pos af g) w (.int k z) := fun _ a hF => by simp [execOp, hF.eval hx, hF.eval hy, eqGuard, binOp, Op.intArith, hz]
theorem p_sub {z : Int} (hx : opv L x = some (.int k m)) (hy : opv L y = some (.int k n)) (hz : k.wrap (m - n) = z) : Pu P L (Oper.mk d (.binOp .sub t x y t') ty pos af g) w (.int k z) := fun _ a hF => by simp [execOp, hF.eval hx, hF.eval hy, eqGuard, binOp, Op.intArith, hz]
theorem p_mul {z : Int} (hx : opv L x = some (.int k m)) (hy : opv L y = some (.int k n)) (hz : k.wrap (m * n) = z) : Pu P L (Oper.mk d (.binOp .mul t x y t') ty pos af g) w (.int k z) := fun _ a hF => by simp [execOp, hF.eval hx, hF.eval hy, eqGuard, binOp, Op.intArith, hz]
theorem p_quo {z : Int} (hx : opv L x = some (.int k m)) (hy : opv L y = some (.int k n)) (h0 : n ≠ 0) (hz : k.wrap (m.tdiv n) = z) : Pu P L (Oper.mk d (.binOp .quo t x y t') ty pos af g) w (.int k z) := fun _ a hF => by simp [execOp, hF.eval hx, hF.eval hy, eqGuard, binOp, Op.intDiv, hz, h0]
theorem p_rem {z : Int} (hx : opv L x = some (.int k m)) (hy : opv L y = some (.int k n)) (h0 : n ≠ 0) (hz : m.tmod n = z) : Pu P L (Oper.mk d (.binOp .rem t x y t') ty pos af g) w (.int k z) := fun _ a hF => by simp [execOp, hF.eval hx, hF.eval hy, eqGuard, binOp, Op.intDiv, hz, h0]
theorem p_bits {op : BinOp} {z : Int} (hop : op = .and ∨ op = .or ∨ op = .xor ∨ op = .andNot) (hx : opv L x = some (.int k m)) (hy : opv L y = some (.int k n)) (hz : bits op k m n = z) : Pu P L (Oper.mk d (.binOp op t x y t') ty pos af g) w (.int k z) := fun _ a hF => by
  subst hz
  rcases hop with rfl | rfl | rfl | rfl <;> simp [execOp, hF.eval hx, hF.eval hy, eqGuard, binOp, Op.intBits, bits]
theorem p_shl {k2 : IntKind} {z : Int} (hx : opv L x = some (.int k m)) (hy : opv L y = some (.int k2 n)) (h0 : 0 ≤ n) (hz : k.wrap (m * 2 ^ (min n.toNat k.bits)) = z) : Pu P L (Oper.mk d (.binOp .shl t x y t') ty pos af g) w (.int k z) := fun _ a hF => by
  simp [execOp, hF.eval hx, hF.eval hy, eqGuard, binOp, Op.shift, hz, Int.not_lt.2 h0]
theorem p_shr {k2 : IntKind} {z : Int} (hx : opv L x = some (.int k m)) (hy : opv L y = some (.int k2 n)) (h0 : 0 ≤ n) (hz : m.fdiv (2 ^ (min n.toNat k.bits)) = z) : Pu P L (Oper.mk d (.binOp .shr t x y t') ty pos af g) w (.int k z) := fun _ a hF => by
  simp [execOp, hF.eval hx, hF.eval hy, eqGuard, binOp, Op.shift, hz, Int.not_lt.2 h0]
theorem p_neg {z : Int} (hx : opv L x = some (.int k m)) (hz : k.wrap (0 - m) = z) : Pu P L (Oper.mk d (.unOp .neg t x) ty pos af g) w (.int k z) := fun _ a hF => by simp [execOp, hF.eval hx, Op.unary, Op.intArith, ← hz]
theorem p_com {z : Int} (hx : opv L x = some (.int k m)) (hz : bits .xor k (if k.signed then -1 else k.max) m = z) : Pu P L (Oper.mk d (.unOp .xor t x) ty pos af g) w (.int k z) := fun _ a hF => by simp [execOp, hF.eval hx, Op.unary, Op.intBits, ← hz, bits]
theorem p_conv {k' : IntKind} {z : Int} (hs : (P.underlying t).isSome = true) (hd : P.underlying t' = some (.int k')) (hx : opv L x = some (.int k m)) (hz : k'.wrap m = z) : Pu P L (Oper.mk d (.convert t t' x) ty pos af g) w (.int k' z) := fun _ a hF => by
  obtain ⟨u, hu⟩ := Option.isSome_iff_exists.1 hs
  subst hz
  simp [execOp, hF.eval hx, convert, run_underlying hd, run_underlying hu, Conv.intToInt]
theorem p_min2 {k' : IntKind} {ts : Array TypeId} (hx : opv L x = some (.int k m)) (hy : opv L y = some (.int k' n)) : Pu P L (Oper.mk d (.call { callee := .builtin .min, args := #[x, y], argTypes := ts }) ty pos af g) w (.int k (if n < m then n else m)) := fun _ a hF => by
  simp [execOp, resolve, invoke, builtin, hF.eval hx, hF.eval hy, run_min_int2]
theorem p_max2 {k' : IntKind} {ts : Array TypeId} (hx : opv L x = some (.int k m)) (hy : opv L y = some (.int k' n)) : Pu P L (Oper.mk d (.call { callee := .builtin .max, args := #[x, y], argTypes := ts }) ty pos af g) w (.int k (if n > m then n else m)) := fun _ a hF => by
  simp [execOp, resolve, invoke, builtin, hF.eval hx, hF.eval hy, run_max_int2]
end

/-! #### bools, strings -/
section
variable {x y : Operand} {t t' : TypeId} {p q : Bool} {l r : Bs}
theorem p_not (hx : opv L x = some (.bool p)) : Pu P L (Oper.mk d (.unOp .not t x) ty pos af g) w (.bool (!p)) := fun _ a hF => by simp [execOp, hF.eval hx, Op.unary]
theorem p_beq (ht : P.underlying t = some .bool) (hx : opv L x = some (.bool p)) (hy : opv L y = some (.bool q)) : Pu P L (Oper.mk d (.binOp .eql t x y t') ty pos af g) w (.bool (p == q)) := fun _ a hF => by
  simp [execOp, hF.eval hx, hF.eval hy, eqGuard, run_eql_bool w t p q ht]
theorem p_bne (ht : P.underlying t = some .bool) (hx : opv L x = some (.bool p)) (hy : opv L y = some (.bool q)) : Pu P L (Oper.mk d (.binOp .neq t x y t') ty pos af g) w (.bool (!(p == q))) := fun _ a hF => by
  simp [execOp, hF.eval hx, hF.eval hy, eqGuard, run_neq_bool w t p q ht]
theorem p_seq (hx : opv L x = some (S l)) (hy : opv L y = some (S r)) : Pu P L (Oper.mk d (.binOp .eql t x y t') ty pos af g) w (.bool (l == r)) := fun _ a hF => by
  simp [execOp, hF.eval hx, hF.eval hy, eqGuard, binOp_string_eql]
theorem p_sne (hx : opv L x = some (S l)) (hy : opv L y = some (S r)) : Pu P L (Oper.mk d (.binOp .neq t x y t') ty pos af g) w (.bool (!(l == r))) := fun _ a hF => by
  simp [execOp, hF.eval hx, hF.eval hy, eqGuard, binOp_string_neq]
theorem ba_app (l r : Bs) : (⟨l.toArray⟩ : ByteArray) ++ ⟨r.toArray⟩ = ⟨(l ++ r).toArray⟩ := by apply ByteArray.ext; simp
theorem ba_sz (l : Bs) : (⟨l.toArray⟩ : ByteArray).size = l.length := rfl
theorem p_cat (hb : l.length + r.length ≤ 9223372036854775807) (hx : opv L x = some (S l)) (hy : opv L y = some (S r)) : Pu P L (Oper.mk d (.binOp .add t x y t') ty pos af g) w (S (l ++ r)) := fun _ a hF => by
  have hc : ¬ ((l.length + r.length : Nat) : Int) > IntKind.i64.max := by
    show ¬ ((l.length + r.length : Nat) : Int) > 9223372036854775807
    omega
  simp only [execOp, hF.eval hx, hF.eval hy, eqGuard, binOp_string_add, Op.stringOp, ba_sz, ba_app, if_neg hc]
  rfl
theorem p_lens (ht : P.underlying t = some .string) (hx : opv L x = some (S l)) : Pu P L (Oper.mk d (.call { callee := .builtin .len, args := #[x], argTypes := #[t] }) ty pos af g) w (I l.length) := fun _ a hF => by
  simp [execOp, resolve, invoke, builtin, hF.eval hx, run_len_string w t ty _ ht, ba_sz, goInt]
theorem p_lensl {e : TypeId} {A : Option Addr} {n c : Nat} (ht : P.underlying t = some (.slice e)) (hx : opv L x = some (.slice A n c)) : Pu P L (Oper.mk d (.call { callee := .builtin .len, args := #[x], argTypes := #[t] }) ty pos af g) w (I n) := fun _ a hF => by
  simp [execOp, resolve, invoke, builtin, hF.eval hx, Builtin.len_, run_underlying ht, goInt]
theorem p_idx {k : IntKind} {n : Int} {i : Nat} {c : UInt8} (ht : P.underlying t = some .string) (hx : opv L x = some (S l)) (hy : opv L y = some (.int k n)) (hn : n = (i : Int)) (hc : l[i]? = some c) : Pu P L (Oper.mk d (.index t x y) ty pos af g) w (U c) := fun _ a hF => by
  subst hn
  obtain ⟨hi, rfl⟩ := List.getElem?_eq_some_iff.1 hc
  have h1 : (⟨l.toArray⟩ : ByteArray)[i]? = some l[i] := by
    rw [ByteArray.getElem?_lt' _ _ hi]; rfl
  simp [execOp, hF.eval hx, hF.eval hy, Instr.index, asIntOf, run_underlying ht, h1]
theorem p_same (ht : P.underlying t' = some .string) (hs : (P.underlying t).isSome = true) (hx : opv L x = some (S l)) : Pu P L (Oper.mk d (.convert t t' x) ty pos af g) w (S l) := fun _ a hF => by
  obtain ⟨u, hu⟩ := Option.isSome_iff_exists.1 hs
  simp [execOp, hF.eval hx, convert, run_underlying ht, run_underlying hu]
theorem p_sfrom {k : IntKind} {n : Int} {i : Nat} (ht : P.underlying t = some .string) (hx : opv L x = some (S l)) (hy : opv L y = some (.int k n)) (hn : n = (i : Int)) (hi : i ≤ l.length) : Pu P L (Oper.mk d (.slice t x (some y) none none) ty pos af g) w (S (l.drop i)) := fun _ a hF => by
  subst hn
  have e : (⟨l.toArray⟩ : ByteArray).extract i l.length = ⟨(l.drop i).toArray⟩ := by
    rw [ByteArray.extract_mk, List.take_of_length_le (by simp)]
  have hc : 0 ≤ (i : Int) ∧ (i : Int) ≤ (l.length : Int) := by omega
  simp [execOp, hF.eval hx, hF.eval hy, Instr.sliceAt, Instr.slice, run_underlying ht, Instr.sliceBounds, Instr.sliceBound, asIntOf, ba_sz, hc, e, hi]
theorem p_sto {k : IntKind} {n : Int} {j : Nat} (ht : P.underlying t = some .string) (hx : opv L x = some (S l)) (hy : opv L y = some (.int k n)) (hn : n = (j : Int)) (hj : j ≤ l.length) : Pu P L (Oper.mk d (.slice t x none (some y) none) ty pos af g) w (S (l.take j)) := fun _ a hF => by
  subst hn
  have e : (⟨l.toArray⟩ : ByteArray).extract 0 j = ⟨(l.take j).toArray⟩ := by
    rw [ByteArray.extract_mk]; simp
  simp [execOp, hF.eval hx, hF.eval hy, Instr.sliceAt, Instr.slice, run_underlying ht, Instr.sliceBounds, Instr.sliceBound, asIntOf, ba_sz, e, hj]
theorem p_sft {k k' : IntKind} {m n : Int} {i j : Nat} {z : Operand} (ht : P.underlying t = some .string) (hx : opv L x = some (S l)) (hy : opv L y = some (.int k m)) (hz : opv L z = some (.int k' n)) (hm : m = (i : Int)) (hn : n = (j : Int)) (hi : i ≤ j) (hj : j ≤ l.length) : Pu P L (Oper.mk d (.slice t x (some y) (some z) none) ty pos af g) w (S ((l.drop i).take (j - i))) := fun _ a hF => by
  subst hm hn
  simp [execOp, hF.eval hx, hF.eval hy, hF.eval hz, Instr.sliceAt, Instr.slice, run_underlying ht, Instr.sliceBounds, Instr.sliceBound, asIntOf, ba_sz, hj, hi, ByteArray.extract_mk]
end

/-! #### addresses, structs -/
section
variable {x y : Operand} {t t' : TypeId} {b o : Nat}
theorem p_nil (hx : opv L x = some (Pt b o)) : Pu P L (Oper.mk d (.nilCheck x) ty pos af g) w (Pt b o) := fun _ a hF => by simp [execOp, hF.eval hx]
theorem p_fld {f n : Nat} (ht : fo P t f = some n) (hx : opv L x = some (Pt b o)) : Pu P L (Oper.mk d (.fieldAddr t x f) ty pos af g) w (Pt b (o + n)) := fun _ a hF => by
  simp [execOp, hF.eval hx, fo_run ht]
theorem p_ext {i : Nat} {vs : Array Value} {v : Value} (hx : opv L x = some (.tuple vs)) (hv : vs[i]? = some v) : Pu P L (Oper.mk d (.extract x i) ty pos af g) w v := fun _ a hF => by simp [execOp, hF.eval hx, Instr.extract, hv]
theorem p_fn {fn : Fn} {xs cs : Array Operand} {vs us : List Value} (hx : opvs L xs.toList = some vs) (hc : opvs L cs.toList = some us) : Pu P L (Oper.mk d (.makeFunc fn xs cs) ty pos af g) w (.func fn vs.toArray us.toArray) := fun _ a hF => by
  have h1 := hF.evals hx
  have h2 := hF.evals hc
  simp only [execOp, Instr.makeFunc, Sem.run_bind, Sem.run_pure, Result.andThen_ok]
  have e : ∀ xs : Array Operand, (xs.toList.map a.eval).toArray = xs.map a.eval := fun xs => by apply Array.ext'; simp
  rw [← h1, ← h2, e, e]
theorem p_iface {v : Value} (ht : P.concrete t = true) (hx : opv L x = some v) : Pu P L (Oper.mk d (.makeInterface t x) ty pos af g) w (.iface t v) := fun _ a hF => by
  simp [execOp, hF.eval hx, run_makeInterface w t v ht]
theorem p_ixa {e : TypeId} {n c j s : Nat} {k : IntKind} {m : Int} (ht : sle P t = some (e, s)) (hx : opv L x = some (.slice (some ⟨b, o, none⟩) n c)) (hy : opv L y = some (.int k m)) (hm : m = (j : Int)) (hj : j < n) : Pu P L (Oper.mk d (.indexAddr t x y) ty pos af g) w (Pt b (o + j * s)) := fun _ a hF => by
  subst hm
  obtain ⟨h1, h2⟩ := sle_run ht
  simp [execOp, hF.eval hx, hF.eval hy, Instr.indexAt, asIntOf, run_underlying h1, hj, tsz_run h2, Addr.add]
end

/-! #### reading memory -/
section
variable {x : Operand} {t : TypeId} {b o : Nat}
theorem p_ld {v : Value} (ht : agk P t = some false) (hx : opv L x = some (Pt b o)) (hc : w.cell? ⟨b, o, none⟩ = some v) : Pu P L (Oper.mk d (.load t x) ty pos af g) w v := fun _ a hF => by
  simp [execOp, hF.eval hx, Instr.loadAt, Instr.sureAddr, loadVar, agk_run ht, run_load, hc]
theorem p_ldA {vs : List Value} {n : Nat} (ht : agk P t = some true) (hs : tsz P t = some n) (hn : n = vs.length) (hx : opv L x = some (Pt b o)) (hc : ∀ j v, vs[j]? = some v → w.cell? ⟨b, o + j, none⟩ = some v) : Pu P L (Oper.mk d (.load t x) ty pos af g) w (.agg vs.toArray) := fun _ a hF => by
  subst hn
  have hl : (loadCells ⟨b, o, none⟩ vs.length).run P w = .ok vs.toArray w := run_loadCells_list (P := P) w ⟨b, o, none⟩ vs (fun j v hv => by
    have := hc j v hv
    rw [show (⟨b, o, none⟩ : Addr).add j = ⟨b, o + j, none⟩ by unfold Addr.add; split <;> simp_all]
    exact this)
  simp [execOp, hF.eval hx, Instr.loadAt, Instr.sureAddr, loadVar, agk_run ht, tsz_run hs, hl]
/-- .. out of a block at hand. -/
theorem p_lb {w0 : World} {F : Nat → Prop} {G : Gh} {H H' : List Asrt} {cs : List Value} {e : TypeId} {v : Value} (HS : St w0 F G w H) (ht : agk P t = some false) (hx : opv L x = some (Pt b o)) (hp : Pick H (blk b cs e) H') (hc : cs[o]? = some v) : Pu P L (Oper.mk d (.load t x) ty pos af g) w v :=
  p_ld ht hx (by rw [cell_of_row w b o _ _ _ (HS.mem hp)]; simpa using hc)
theorem p_lbA {w0 : World} {F : Nat → Prop} {G : Gh} {H H' : List Asrt} {cs vs : List Value} {n : Nat} {e : TypeId} (HS : St w0 F G w H) (ht : agk P t = some true) (hs : tsz P t = some n) (hx : opv L x = some (Pt b o)) (hp : Pick H (blk b cs e) H') (hc : (cs.drop o).take n = vs) (hn : n = vs.length) : Pu P L (Oper.mk d (.load t x) ty pos af g) w (.agg vs.toArray) :=
  p_ldA ht hs hn hx (fun j v hv => by
    rw [cell_of_row w b (o + j) _ _ _ (HS.mem hp)]
    subst hc
    rw [List.getElem?_take] at hv
    split at hv
    · simpa using hv
    · cases hv)
end
end

/-! ### the walk of a region's list -/
section
variable {P : Program} {N : Nat} {a : Act} {L : List (Nat × Value)} {w : World} {ops : Array Oper} {Q : Exit → Act → World → Prop} {rest : List Oper} {o : Oper} {d : Nat} {v : Value}

theorem pl (HF : Fr N a L) (hp : Pu P L o w v) (hd : o.dst = some d) (hN : d < N) (hg : o.guard = none) (k : ∀ a', Fr N a' ((d, v) :: L) → wpList P ops Q rest a' w) : wpList P ops Q (o :: rest) a w := by
  refine wpList_plain hg fun K hK => ?_
  unfold Oper.wp
  rw [hp N a HF]
  simp only [Oper.upon, hd]
  exact hK _ _ (k _ (HF.put hN v))
/-- A guarded operation that is wanted. -/
theorem pw {j dj : Nat} {oj : Oper} {c : Bool} (HF : Fr N a L) (hp : Pu P L o w v) (hd : o.dst = some d) (hN : d < N) (hg : o.guard = some (j, c)) (hj : ops[j]? = some oj) (hdj : oj.dst = some dj) (hv : lk L dj = some (.bool c))
    (k : ∀ a', Fr N a' ((d, v) :: L) → wpList P ops Q rest a' w) : wpList P ops Q (o :: rest) a w := by
  have hw : Region.wanted o (yielded ops a.tmps) = true := by
    have := HF.get dj _ hv
    simp [Region.wanted, hg, yielded, hj, hdj, this]
  refine wpList_step fun K hK => ?_
  rw [if_pos hw]
  unfold Oper.wp
  rw [hp N a HF]
  simp only [Oper.upon, hd]
  exact hK _ _ (k _ (HF.put hN v))
/-- A guard's slot that does not hold this bool. -/
def notB : Value → Bool → Bool
  | .bool x, c => !(x == c)
  | _, _ => true
/-- One that is not. -/
theorem pn {j dj : Nat} {oj : Oper} {c : Bool} {u : Value} (HF : Fr N a L) (hd : o.dst = some d) (hN : d < N) (hg : o.guard = some (j, c)) (hj : ops[j]? = some oj) (hdj : oj.dst = some dj) (hv : lk L dj = some u) (hne : notB u c = true)
    (k : ∀ a', Fr N a' ((d, undef) :: L) → wpList P ops Q rest a' w) : wpList P ops Q (o :: rest) a w := by
  have hw : Region.wanted o (yielded ops a.tmps) = false := by
    have := HF.get dj _ hv
    cases u <;> simp_all [Region.wanted, yielded, notB]
  refine wpList_step fun K hK => ?_
  rw [if_neg (by rw [hw]; exact Bool.false_ne_true), hd]
  exact hK _ _ (k _ (HF.put hN undef))
theorem pe (k : Q .normal a w) : wpList P ops Q [] a w := wpList_nil k
end
end Gp
