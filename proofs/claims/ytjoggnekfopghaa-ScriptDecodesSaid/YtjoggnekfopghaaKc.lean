/- More rules: structs and arrays built, arrays indexed, structs compared. No program in sight. -/
import Derived.Test.YtjoggnekfopghaaKb
namespace Gp
open Go

/-- Where the parts of a struct or an array lie. -/
def plc (P : Program) (t : TypeId) : Option (List (Nat × Nat)) := match P.underlying t with
  | some (.struct fs) => fs.toList.mapM fun f => (tsz P f.type).map fun n => (f.offset, n)
  | some (.array n e) => (tsz P e).map fun s => (List.range n).map fun i => (i * s, s)
  | _ => none
def bfill (cs : List Value) (pl : List (Nat × Nat)) : List (Nat × Value) → Option (List Value)
  | [] => some cs
  | (i, v) :: r => match pl[i]? with
    | none => none
    | some (o, n) => if Nat.beq v.cells.size n && Nat.ble (o + n) cs.length then bfill (splice cs o v.cells.toList) pl r else none

theorem fill_bfill {place : Nat → Option (Nat × Nat)} {pl : List (Nat × Nat)} (hp : ∀ i q, pl[i]? = some q → place i = some q) : ∀ (ps : List (Nat × Value)) (cs out : List Value), bfill cs pl ps = some out → Instr.fill place cs.toArray ps = some out.toArray
  | [], cs, out, h => by simp only [bfill, Option.some.injEq] at h; subst h; rfl
  | (i, v) :: r, cs, out, h => by
    simp only [bfill] at h
    simp only [Instr.fill]
    cases hi : pl[i]? with
    | none => rw [hi] at h; cases h
    | some q =>
      obtain ⟨o, n⟩ := q
      rw [hi] at h
      rw [hp i _ hi]
      simp only at h ⊢
      split at h
      · rename_i hc
        simp only [Bool.and_eq_true] at hc
        have h1 := Nat.eq_of_beq_eq_true hc.1
        have h2 := Nat.le_of_ble_eq_true hc.2
        rw [if_neg (by simp; omega)]
        have hf := fold_set (cs.take o) v.cells.toList [] (cs.drop o) (by simp; omega)
        have ho : (cs.take o).length = o := by simp; omega
        simp only [List.length_nil, List.append_nil, ho, List.take_append_drop] at hf
        have e : (v.cells.zipIdx.foldl (fun (cs : Array Value) (x : Value × Nat) => cs.setIfInBounds (o + x.2) x.1) cs.toArray) = (splice cs o v.cells.toList).toArray := by
          rw [← Array.foldl_toList]
          simp only [Array.toList_zipIdx]
          rw [hf, splice_eq _ _ _ (by simp; omega)]
          simp
        rw [e]
        exact fill_bfill hp r _ _ h
      · cases h

section
variable {P : Program} {L : List (Nat × Value)} {w : World} {od : Option Nat} {ty : TypeId} {pos : String} {af : Array Edge} {g : Option (Nat × Bool)}

theorem mapM_opt {α β : Type} (fn : α → Sem β) (fo : α → Option β) (w : World) (hf : ∀ x y, fo x = some y → (fn x).run P w = .ok y w) : ∀ (l : List α) (out : List β), l.mapM fo = some out → (l.mapM fn).run P w = .ok out w
  | [], out, h => by simp at h; subst h; rfl
  | x :: r, out, h => by
    simp only [List.mapM_cons, Option.bind_eq_bind, Option.bind_eq_some_iff, Option.pure_def, Option.some.injEq] at h
    obtain ⟨y, hy, q, hq, rfl⟩ := h
    rw [List.mapM_cons]
    simp [hf x y hy, mapM_opt fn fo w hf r q hq]
theorem p_bd {t : TypeId} {ps : Array (Nat × Operand)} {pl : List (Nat × Nat)} {zs us cs : List Value} (hp : plc P t = some pl) (hz : zcells P t = some zs) (hx : opvs L (ps.toList.map (·.2)) = some us) (hb : bfill zs pl ((ps.toList.map (·.1)).zip us) = some cs) :
    Pu P L (Oper.mk od (.build t ps) ty pos af g) w (.agg cs.toArray) := fun N a HF => by
  obtain ⟨z, hz1, hz2⟩ := zero_run hz w
  have hps : (ps.map (fun (x : Nat × Operand) => (x.1, a.eval x.2))).toList = (ps.toList.map (·.1)).zip us := by
    rw [← HF.evals hx]
    simp [List.zip_map']
  have hfill : ∀ place : Nat → Option (Nat × Nat), (∀ i q, pl[i]? = some q → place i = some q) → Instr.fill place zs.toArray (ps.map (fun (x : Nat × Operand) => (x.1, a.eval x.2))).toList = some cs.toArray := fun place h => by
    rw [hps]; exact fill_bfill h _ _ _ hb
  have main : (Instr.build t (ps.map fun (x : Nat × Operand) => (x.1, a.eval x.2))).run P w = .ok (.agg cs.toArray) w := by
    unfold plc at hp
    split at hp
    · rename_i fs hu
      have hm := mapM_opt (P := P) (fun f : Field => (do pure (f.offset, ← Go.sizeOf f.type) : Sem (Nat × Nat))) (fun f => (tsz P f.type).map fun n => (f.offset, n)) w (fun f y hy => by
        simp only [Option.map_eq_some_iff] at hy
        obtain ⟨n, hn, rfl⟩ := hy
        simp [tsz_run hn]) fs.toList pl hp
      have hmA : (fs.mapM (m := Sem) fun f => do pure (f.offset, ← Go.sizeOf f.type)).run P w = .ok pl.toArray w := by
        rw [Array.mapM_eq_mapM_toList, Sem.run_map, hm]
        rfl
      simp only [Instr.build, Sem.run_bind, hz1, Result.andThen_ok, run_underlying hu, hmA, hz2]
      rw [hfill (fun i => pl.toArray[i]?) fun i q h => by simpa using h]
      rfl
    · rename_i n e hu
      cases hs : tsz P e with
      | none => simp [hs] at hp
      | some s =>
        simp only [hs, Option.map_some, Option.some.injEq] at hp
        subst hp
        simp only [Instr.build, Sem.run_bind, hz1, Result.andThen_ok, run_underlying hu, tsz_run hs, hz2]
        rw [hfill (fun i => some (i * s, s)) fun i q h => by
          simp only [List.getElem?_map, Option.map_eq_some_iff] at h
          obtain ⟨j, hj, rfl⟩ := h
          have := (List.getElem?_eq_some_iff.1 hj).2
          simp at this
          subst this; rfl]
        rfl
    · cases hp
  simp only [execOp, Sem.run_bind]
  rw [show (ps.map fun (x : Nat × Operand) => match x with | (i, x) => (i, a.eval x)) = ps.map (fun (x : Nat × Operand) => (x.1, a.eval x.2)) from rfl, main]
  rfl
/-- An array's element, of one cell. -/
theorem p_ixv {t e : TypeId} {x y : Operand} {n i : Nat} {k : IntKind} {m : Int} {cs : List Value} {v : Value} (ht : P.underlying t = some (.array n e)) (he : agk P e = some false) (hs : tsz P e = some 1) (hx : opv L x = some (.agg cs.toArray)) (hy : opv L y = some (.int k m)) (hm : m = (i : Int)) (hi : i < n) (hc : cs[i]? = some v) :
    Pu P L (Oper.mk od (.index t x y) ty pos af g) w v := fun N a HF => by
  subst hm
  simp [execOp, HF.eval hx, HF.eval hy, Instr.index, asIntOf, run_underlying ht, hi, tsz_run hs, part, agk_run he, hc]
/-- A comparison of structs, by whatever shows its outcome. -/
theorem p_eqA {t t' : TypeId} {x y : Operand} {xs ys : Array Value} {b : Bool} (hx : opv L x = some (.agg xs)) (hy : opv L y = some (.agg ys)) (hg : P.eqGuardType P.depth t = false) (he : ∀ w, (Op.equal t (.agg xs) (.agg ys)).run P w = .ok b w) : Pu P L (Oper.mk od (.binOp .eql t x y t') ty pos af g) w (.bool b) := fun N a HF => by
  simp [execOp, HF.eval hx, HF.eval hy, eqGuard, hg, binOp, he]
theorem p_neA {t t' : TypeId} {x y : Operand} {xs ys : Array Value} {b : Bool} (hx : opv L x = some (.agg xs)) (hy : opv L y = some (.agg ys)) (hg : P.eqGuardType P.depth t = false) (he : ∀ w, (Op.equal t (.agg xs) (.agg ys)).run P w = .ok b w) : Pu P L (Oper.mk od (.binOp .neq t x y t') ty pos af g) w (.bool (!b)) := fun N a HF => by
  simp [execOp, HF.eval hx, HF.eval hy, eqGuard, hg, binOp, he]

end

/-! ### structs of bools, integers and strings compared -/
inductive CK where
  | b | i | s
  deriving DecidableEq
def ceq : CK → Value → Value → Option Bool
  | .b, .bool a, .bool b => some (a == b)
  | .i, .int k a, .int k' b => if k = k' then some (a == b) else none
  | .s, .string a, .string b => some (a.toList == b.toList)
  | _, _, _ => none
/-- All cells, one by one. -/
def ceqs : List CK → List Value → List Value → Option Bool
  | [], [], [] => some true
  | k :: ks, x :: xs, y :: ys => match ceq k x y, ceqs ks xs ys with
    | some p, some q => some (p && q)
    | _, _ => none
  | _, _, _ => none
/-- The cells of a type that is made of bools, integers and strings alone. -/
def ckF (P : Program) (rec : TypeId → Option (List CK)) : Nat → List Field → Option (List CK)
  | _, [] => some []
  | o, f :: fs => if f.name = "_" ∨ f.offset ≠ o then none else match rec f.type with
    | some ks => if tsz P f.type = some ks.length then (ckF P rec (o + ks.length) fs).map (ks ++ ·) else none
    | none => none
def ck (P : Program) : Nat → TypeId → Option (List CK)
  | 0, _ => none
  | d + 1, t => match P.underlying t with
    | some .bool => some [.b]
    | some (.int _) => some [.i]
    | some .string => some [.s]
    | some (.struct fs) => if P.stoodInHeld t then none else ckF P (ck P d) 0 fs.toList
    | _ => none
/-- A value of type t out of its cells. -/
def vOf (P : Program) (t : TypeId) (cs : List Value) : Value := if agk P t = some true then .agg cs.toArray else cs.getD 0 undef

theorem ceqs_len : ∀ {ks : List CK} {xs ys : List Value} {r : Bool}, ceqs ks xs ys = some r → xs.length = ks.length ∧ ys.length = ks.length
  | [], [], [], _, _ => ⟨rfl, rfl⟩
  | k :: ks, x :: xs, y :: ys, r, h => by
    simp only [ceqs] at h
    split at h
    · rename_i p q _ hq
      have := ceqs_len hq
      simp [this]
    · cases h
  | [], [], _ :: _, _, h => by simp [ceqs] at h
  | [], _ :: _, _, _, h => by simp [ceqs] at h
  | _ :: _, [], _, _, h => by simp [ceqs] at h
  | _ :: _, _ :: _, [], _, h => by simp [ceqs] at h
theorem ceqs_split : ∀ (a b : List CK) (xs ys : List Value) (r : Bool), ceqs (a ++ b) xs ys = some r → ∃ p q, ceqs a (xs.take a.length) (ys.take a.length) = some p ∧ ceqs b (xs.drop a.length) (ys.drop a.length) = some q ∧ r = (p && q)
  | [], b, xs, ys, r, h => ⟨true, r, by simp [ceqs], by simpa using h, by simp⟩
  | k :: a, b, x :: xs, y :: ys, r, h => by
    simp only [List.cons_append, ceqs] at h
    split at h
    · rename_i p q hp hq
      simp only [Option.some.injEq] at h
      subst h
      obtain ⟨p', q', h1, h2, rfl⟩ := ceqs_split a b xs ys q hq
      exact ⟨p && p', q', by simp [ceqs, hp, h1], by simpa using h2, by simp [Bool.and_assoc]⟩
    · cases h
  | _ :: _, _, [], _, _, h => by simp [ceqs] at h
  | _ :: _, _, _ :: _, [], _, h => by simp [ceqs] at h

section
variable {P : Program} (w : World)
theorem part_run {t : TypeId} {n : Nat} {cs : List Value} {o : Nat} (hs : tsz P t = some n) (ha : (agk P t).isSome = true) (h1 : agk P t = some false → n = 1) (hle : o + n ≤ cs.length) :
    (part t cs.toArray o).run P w = .ok (vOf P t ((cs.drop o).take n)) w := by
  obtain ⟨b, hb⟩ := Option.isSome_iff_exists.1 ha
  cases b with
  | true =>
    simp only [part, Sem.run_bind, agk_run hb, Result.andThen_ok, Sem.run_ite, if_true, tsz_run hs, Sem.run_pure, vOf, hb]
    congr 1
    simp
  | false =>
    have hn := h1 hb
    subst hn
    have hc : cs[o]? = some cs[o] := by simp
    simp only [part, Sem.run_bind, agk_run hb, Result.andThen_ok, Sem.run_ite, Bool.false_eq_true, if_false, vOf, hb]
    have : cs.toArray[o]? = some cs[o] := by simp
    rw [this]
    simp only [Sem.run_pure, Option.some.injEq, Bool.false_eq_true, if_false]
    congr 1
    rw [List.getD_eq_getElem?_getD, List.getElem?_take]
    simp [hc]

theorem ck_ag {d : Nat} {t : TypeId} {ks : List CK} (h : ck P d t = some ks) : (agk P t).isSome = true ∧ (agk P t = some false → ks.length = 1) := by
  cases d with
  | zero => cases h
  | succ d =>
    simp only [ck] at h
    unfold agk
    split at h <;> rename_i hu
    · simp at h; simp [hu, ← h]
    · simp at h; simp [hu, ← h]
    · simp at h; simp [hu, ← h]
    · simp [hu]
    · cases h

theorem eqF_run {d : Nat} (ih : ∀ t ks, ck P d t = some ks → ∀ D, d ≤ D → ∀ xs ys b, ceqs ks xs ys = some b → (Op.equalIn D t (vOf P t xs) (vOf P t ys)).run P w = .ok b w) {D : Nat} (hD : d ≤ D) :
    ∀ (fs : List Field) (o : Nat) (ks : List CK), ckF P (ck P d) o fs = some ks → ∀ (xs ys : List Value) b, ceqs ks (xs.drop o) (ys.drop o) = some b → o ≤ xs.length → o ≤ ys.length → (Op.eqFields D xs.toArray ys.toArray fs).run P w = .ok b w
  | [], o, ks, h, xs, ys, b, hb, _, _ => by
    simp only [ckF, Option.some.injEq] at h
    subst h
    have hl := ceqs_len hb
    have hx : xs.drop o = [] := List.eq_nil_of_length_eq_zero hl.1
    have hy : ys.drop o = [] := List.eq_nil_of_length_eq_zero hl.2
    rw [hx, hy] at hb
    simp only [ceqs, Option.some.injEq] at hb
    subst hb
    rfl
  | f :: fs, o, ks, h, xs, ys, b, hb, hx, hy => by
    simp only [ckF] at h
    split at h
    · cases h
    · rename_i hf
      simp only [not_or, ne_eq, Decidable.not_not] at hf
      obtain ⟨hname, rfl⟩ := hf
      split at h
      · rename_i ks1 hm
        split at h
        · rename_i hs
          simp only [Option.map_eq_some_iff] at h
          obtain ⟨ks2, h, rfl⟩ := h
          have hag := ck_ag hm
          have hl := ceqs_len hb
          simp only [List.length_drop, List.length_append] at hl
          obtain ⟨p, q, hp, hq, rfl⟩ := ceqs_split _ _ _ _ _ hb
          have h1 := ih f.type ks1 hm D hD _ _ p hp
          rw [List.drop_drop, List.drop_drop] at hq
          have h2 := eqF_run ih hD fs _ _ h xs ys q hq (by omega) (by omega)
          simp only [Op.eqFields, ne_eq, hname, not_false_eq_true, if_true, Sem.run_bind, part_run w hs hag.1 hag.2 (show f.offset + ks1.length ≤ xs.length by omega), part_run w hs hag.1 hag.2 (show f.offset + ks1.length ≤ ys.length by omega), Result.andThen_ok, h1, Sem.run_ite]
          cases p
          · simp
          · simpa using h2
        · cases h
      · cases h

theorem ck_run : ∀ (d : Nat) (t : TypeId) (ks : List CK), ck P d t = some ks → ∀ D, d ≤ D → ∀ xs ys b, ceqs ks xs ys = some b → (Op.equalIn D t (vOf P t xs) (vOf P t ys)).run P w = .ok b w
  | 0, _, _, h, _, _, _, _, _, _ => by cases h
  | d + 1, t, n, h, 0, hD, _, _, _, _ => by omega
  | d + 1, t, ks, h, D + 1, hD, xs, ys, b, hb => by
    simp only [ck] at h
    have one : ∀ k : CK, ks = [k] → ∃ x y, xs = [x] ∧ ys = [y] ∧ ceq k x y = some b := by
      rintro k rfl
      have hl := ceqs_len hb
      match xs, ys, hl, hb with
      | [x], [y], _, hb =>
        simp only [ceqs] at hb
        split at hb
        · rename_i p q hp hq
          simp only [Option.some.injEq] at hb hq
          subst hq hb
          exact ⟨x, y, rfl, rfl, by simpa using hp⟩
        · cases hb
    split at h <;> rename_i hu
    · obtain ⟨x, y, rfl, rfl, hc⟩ := one .b (by simpa using h.symm)
      have ha : agk P t = some false := by simp [agk, hu]
      simp only [vOf, ha, Option.some.injEq, Bool.false_eq_true, if_false, List.getD_cons_zero]
      cases x <;> cases y <;> simp only [ceq, reduceCtorEq] at hc
      simp only [Option.some.injEq] at hc; subst hc; simp [Op.equalIn, run_underlying hu]
    · obtain ⟨x, y, rfl, rfl, hc⟩ := one .i (by simpa using h.symm)
      have ha : agk P t = some false := by simp [agk, hu]
      simp only [vOf, ha, Option.some.injEq, Bool.false_eq_true, if_false, List.getD_cons_zero]
      cases x <;> cases y <;> simp only [ceq, reduceCtorEq] at hc
      split at hc
      · rename_i hk
        subst hk
        simp only [Option.some.injEq] at hc; subst hc; simp [Op.equalIn, run_underlying hu]
      · cases hc
    · obtain ⟨x, y, rfl, rfl, hc⟩ := one .s (by simpa using h.symm)
      have ha : agk P t = some false := by simp [agk, hu]
      simp only [vOf, ha, Option.some.injEq, Bool.false_eq_true, if_false, List.getD_cons_zero]
      cases x <;> cases y <;> simp only [ceq, reduceCtorEq] at hc
      simp only [Option.some.injEq] at hc; subst hc; simp [Op.equalIn, run_underlying hu, beq_toListBytes]
    · rename_i fs
      split at h
      · cases h
      · rename_i hst
        have ha : agk P t = some true := by simp [agk, hu]
        simp only [vOf, ha, if_true]
        have hfs : P.fieldsOf t = fs := by simp [Program.fieldsOf, hu]
        rw [run_equalIn_struct w D t _ _ (by rw [hfs]; exact hu) (by simpa using hst), hfs]
        exact eqF_run w (fun t ks h D hD xs ys b hb => ck_run d t ks h D hD xs ys b hb) (by omega) fs.toList 0 ks h xs ys b (by simpa using hb) (Nat.zero_le _) (Nat.zero_le _)
    · cases h
/-- .. as the walk meets it. -/
theorem eq_agg {t : TypeId} {ks : List CK} {xs ys : List Value} {b : Bool} (h : ck P 9 t = some ks) (ha : agk P t = some true) (hb : ceqs ks xs ys = some b) (w : World) : (Op.equal t (.agg xs.toArray) (.agg ys.toArray)).run P w = .ok b w := by
  have := ck_run w 9 t ks h 10000 (by omega) xs ys b hb
  simp only [vOf, ha, if_true] at this
  exact this
end

section
variable {P : Program} {N : Nat} {a : Act} {L : List (Nat × Value)} {w0 w : World} {F : Nat → Prop} {G : Gh} {H H' H'' : List Asrt} {ops : Array Oper} {Q : Exit → Act → World → Prop} {rest : List Oper} {d : Nat} {v : Value} {ty : TypeId} {pos : String} {af : Array Edge}
/-- append of a slice that was just written out. -/
theorem g_app {t e : TypeId} {x y : Operand} {b size bytes n m c : Nat} {zs xs news : List Value} (HF : Fr N a L) (HS : St w0 F G w H) (ht : sle P t = some (e, size)) (hz : zcells P e = some zs) (hzs : zs.length = size) (hby : tby P e = some bytes) (hsz : Nat.blt 0 size = true)
    (hx : opv L x = some v) (hp : Pick H (own e size v n xs) H') (hy : opv L y = some (.slice (some ⟨b, 0, none⟩) m c)) (hq : Pick H' (blk b news e) H'') (hl : news.length = m * size) (h1 : news.all (fun u => u.oneCell') = true) (hb : (n + m) * bytes ≤ 140737488355328) (hm : n + m ≤ 140737488355328) (hN : d < N)
    (k : ∀ a' w' v', Fr N a' ((d, v') :: L) → St w0 F G w' (own e size v' (n + m) (xs ++ news) :: H'') → wpList P ops Q rest a' w') :
    wpList P ops Q (Oper.mk (some d) (.call { callee := .builtin .append, args := #[x, y], argTypes := #[t, t] }) ty pos af none :: rest) a w := by
  have hsrc : w.heap[b]? = some (.cells news.toArray e (0, 0)) := (HS.pick hp).drop.mem hq
  refine lE HF (e_app HS ht hz hzs hby (by simpa [Nat.blt_eq] using hsz) hx hp hy hl (fun _ => ⟨b, 0, rfl, fun j u hu => by rw [cell_of_row w b (0 + j) _ _ _ hsrc]; simpa using hu⟩) (fun _ => .inr ⟨b, 0, rfl⟩) (fun u hu => List.all_eq_true.1 h1 u hu) hb hm) rfl hN rfl fun v' w' HS' a' HF' => k a' w' v' HF' ?_
  refine Star.st HS' ?_
  rintro S ⟨S1, h1, h2, h3⟩
  refine ⟨S1, h1, h2, ?_⟩
  obtain ⟨S2, _, _, h4⟩ := hq.star h3
  exact h4.weak fun _ hk => hk.1
end
end Gp
