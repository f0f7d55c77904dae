/- More rules: slices written out, bytes to strings, appends. No program in sight. -/
import Derived.Test.YtjoggnekfopghaaK
namespace Gp
open Go

theorem fold_set (pre : List Value) : ∀ (l mid junk : List Value), l.length ≤ junk.length →
    (l.zipIdx mid.length).foldl (fun (cs : Array Value) (x : Value × Nat) => cs.setIfInBounds (pre.length + x.2) x.1) (pre ++ mid ++ junk).toArray = (pre ++ mid ++ l ++ junk.drop l.length).toArray
  | [], mid, junk, _ => by simp
  | v :: l, mid, [], h => by simp at h
  | v :: l, mid, u :: junk, h => by
    have e : ((pre ++ mid ++ u :: junk).toArray.setIfInBounds (pre.length + mid.length) v) = (pre ++ (mid ++ [v]) ++ junk).toArray := by
      simp only [List.setIfInBounds_toArray]
      congr 1
      rw [← List.length_append]
      rw [List.set_append_right _ _ (Nat.le_refl _)]
      simp
    have ih := fold_set pre l (mid ++ [v]) junk (by simpa using h)
    simp only [List.zipIdx_cons, List.foldl_cons, e]
    simp only [List.length_append, List.length_cons, List.length_nil, Nat.zero_add] at ih
    rw [ih]
    simp
theorem fill_run (s : Nat) : ∀ (vs : List Value) (k : Nat) (pre junk : List Value), pre.length = k * s → junk.length = vs.length * s → (∀ v ∈ vs, v.cells.size = s) →
    Instr.fill (fun i => some (i * s, s)) (pre ++ junk).toArray ((List.range' k vs.length).zip vs) = some (pre ++ vs.flatMap fun v => v.cells.toList).toArray
  | [], k, pre, junk, _, h2, _ => by
    have : junk = [] := List.eq_nil_of_length_eq_zero (by simpa using h2)
    subst this
    simp [Instr.fill]
  | v :: vs, k, pre, junk, h1, h2, h3 => by
    have hv := h3 v List.mem_cons_self
    have hle : s ≤ junk.length := by rw [h2]; simp only [List.length_cons, Nat.add_mul, Nat.one_mul]; omega
    simp only [List.length_cons, List.range'_succ, List.zip_cons_cons, Instr.fill, hv]
    rw [if_neg (by simp [h1]; omega)]
    have hf := fold_set pre v.cells.toList [] junk (by simpa [hv] using hle)
    have e : (v.cells.zipIdx.foldl (fun (cs : Array Value) (x : Value × Nat) => cs.setIfInBounds (k * s + x.2) x.1) (pre ++ junk).toArray) = (pre ++ v.cells.toList ++ junk.drop s).toArray := by
      simp only [List.length_nil, List.append_nil, Array.length_toList, hv, h1] at hf
      rw [← hf, ← Array.foldl_toList]
      simp
    rw [e]
    have ih := fill_run s vs (k + 1) (pre ++ v.cells.toList) (junk.drop s) (by simp [h1, hv, Nat.add_mul]) (by simp [h2, Nat.add_mul]) (fun v hv => h3 v (List.mem_cons_of_mem _ hv))
    rw [ih]
    simp

section
variable {P : Program} {N : Nat} {a : Act} {L : List (Nat × Value)} {w0 w : World} {F : Nat → Prop} {G : Gh} {H H' : List Asrt} {ops : Array Oper} {Q : Exit → Act → World → Prop} {rest : List Oper} {o : Oper} {d : Nat} {v : Value}
variable {od : Option Nat} {ty : TypeId} {pos : String} {af : Array Edge} {g : Option (Nat × Bool)}

theorem bsl_run {t e : TypeId} {s n : Nat} {zs vs : List Value} (ht : sle P t = some (e, s)) (hz : zcells P e = some zs) (h0 : 0 < n * s) (hlim : n * s ≤ 16777216) (hn : vs.length = n) (hvs : ∀ v ∈ vs, v.cells.size = s) (w : World) :
    (Instr.buildSlice t n ((List.range' 0 n).zip vs).toArray).run P w = .ok (.slice (some ⟨w.heap.size, 0, none⟩) n n) (w.alloc (.cells (vs.flatMap fun v => v.cells.toList).toArray e)) := by
  obtain ⟨h1, h2⟩ := sle_run ht
  obtain ⟨z, hz1, hz2⟩ := zero_run hz w
  subst hn
  have hne : ¬ (vs.length * s = 0) := by omega
  have hf := fill_run s vs 0 [] ((List.range (vs.length * s)).map fun i => zs.toArray[i % zs.toArray.size]!) (by simp) (by simp) hvs
  simp only [List.nil_append] at hf
  have hr : (Array.range (vs.length * s)).map (fun i => z.cells[i % z.cells.size]!) = ((List.range (vs.length * s)).map fun i => zs.toArray[i % zs.toArray.size]!).toArray := by
    rw [hz2]
    apply Array.ext'
    simp
  simp only [Instr.buildSlice, Sem.run_bind, run_underlying h1, Result.andThen_ok, tsz_run h2, Sem.run_ite, if_neg hne, if_neg (show ¬ vs.length * s > 2 ^ 24 by omega), hz1, Sem.run_pure, hr, hf, newRow, run_newObj]
  rfl
/-- A slice written out. -/
theorem g_bsl {t e : TypeId} {s n : Nat} {zs vs cs : List Value} {ps : Array (Nat × Operand)} (HF : Fr N a L) (HS : St w0 F G w H) (ht : sle P t = some (e, s)) (hz : zcells P e = some zs) (hc : (Nat.blt 0 (n * s) && Nat.ble (n * s) 1000) = true) (hi : ps.toList.map (·.1) = List.range' 0 n) (hx : opvs L (ps.toList.map (·.2)) = some vs)
    (hvs : vs.all (fun v => Nat.beq v.cells.size s) = true) (hcs : (vs.flatMap fun v => v.cells.toList) = cs) (hN : d < N) (k : ∀ a' w' b, Fr N a' ((d, .slice (some ⟨b, 0, none⟩) n n) :: L) → St w0 F G w' (blk b cs e :: H) → wpList P ops Q rest a' w') :
    wpList P ops Q (Oper.mk (some d) (.buildSlice t n ps) ty pos af none :: rest) a w := by
  simp only [Bool.and_eq_true, Nat.blt_eq, Nat.ble_eq] at hc
  obtain ⟨h0, hlim⟩ := hc
  have hl : vs.length = n := by
    have e1 := congrArg List.length (HF.evals hx)
    have e2 := congrArg List.length hi
    simp at e1 e2
    omega
  have hvs' : ∀ v ∈ vs, v.cells.size = s := fun v hv => Nat.eq_of_beq_eq_true (List.all_eq_true.1 hvs v hv)
  have hp : ps.map (fun (x : Nat × Operand) => (x.1, a.eval x.2)) = ((List.range' 0 n).zip vs).toArray := by
    apply Array.ext'
    rw [← hi, ← HF.evals hx]
    simp [List.zip_map']
  subst hcs
  refine gl (v := .slice (some ⟨w.heap.size, 0, none⟩) n n) (w' := w.alloc (.cells (vs.flatMap fun v => v.cells.toList).toArray e)) HF ?_ rfl hN rfl fun a' HF' => k a' _ w.heap.size HF' (HS.alloc _)
  have hb := bsl_run ht hz h0 (by omega) hl hvs' w
  simp only [execOp, Sem.run_bind]
  rw [show (ps.map fun (x : Nat × Operand) => match x with | (i, x) => (i, a.eval x)) = ((List.range' 0 n).zip vs).toArray from hp, hb]
  rfl

theorem foldl_push (l : Bs) : ∀ acc : ByteArray, (l.map fun c => (c.toNat : Int)).foldl (fun r n => r.push (UInt8.ofNat n.toNat)) acc = acc ++ ⟨l.toArray⟩ := by
  induction l with
  | nil => intro acc; apply ByteArray.ext; simp
  | cons c r ih =>
    intro acc
    simp only [List.map_cons, List.foldl_cons, Int.toNat_natCast, UInt8.ofNat_toNat]
    rw [ih]
    apply ByteArray.ext
    simp
/-- string(b): the bytes l lie at A. -/
theorem p_bstr {t t' e : TypeId} {x : Operand} {A : Option Addr} {n c : Nat} (l : Bs) (hs : P.underlying t = some (.slice e)) (he : P.underlying e = some (.int .u8)) (hd : P.underlying t' = some .string) (hx : opv L x = some (.slice A n c)) (hn : n = l.length)
    (h : A = none ∧ l = [] ∨ ∃ b o, A = some ⟨b, o, none⟩ ∧ ∀ j u, l[j]? = some u → w.cell? ⟨b, o + j, none⟩ = some (U u)) : Pu P L (Oper.mk od (.convert t t' x) ty pos af g) w (S l) := fun _ a hF => by
  subst hn
  simp only [execOp, hF.eval hx, Sem.run_bind]
  rw [run_convert_bytes_string w t t' e A _ c hs he hd]
  rcases h with ⟨rfl, rfl⟩ | ⟨b, o, rfl, h⟩
  · rfl
  · have hl : (loadCells ⟨b, o, none⟩ l.length).run P w = .ok ((l.map fun c => (c.toNat : Int)).map (Value.int .u8)).toArray w := by
      have := run_loadCells_list (P := P) w ⟨b, o, none⟩ ((l.map fun c => (c.toNat : Int)).map (Value.int .u8)) (fun j v hv => by
        rw [show (⟨b, o, none⟩ : Addr).add j = ⟨b, o + j, none⟩ by unfold Addr.add; split <;> simp_all]
        simp only [List.getElem?_map, Option.map_map, Option.map_eq_some_iff] at hv
        obtain ⟨u, hu, rfl⟩ := hv
        exact h j u hu)
      simpa using this
    rw [run_bytesToString w _ _ _ _ hl, foldl_push]
    simp only [Result.andThen_ok, Sem.run_pure]
    congr 3
/-- .. in a block at hand. -/
theorem p_bstrB {t t' e e' : TypeId} {x : Operand} {b n c : Nat} {cs : List Value} (l : Bs) (HS : St w0 F G w H) (hs : P.underlying t = some (.slice e)) (he : P.underlying e = some (.int .u8)) (hd : P.underlying t' = some .string) (hx : opv L x = some (.slice (some ⟨b, 0, none⟩) n c)) (hn : n = l.length)
    (hp : Pick H (blk b cs e') H') (hl : l.map U <+: cs) : Pu P L (Oper.mk od (.convert t t' x) ty pos af g) w (S l) :=
  p_bstr l hs he hd hx hn (.inr ⟨b, 0, rfl, fun j u hu => by
    rw [cell_of_row w b (0 + j) _ _ _ (HS.mem hp)]
    obtain ⟨r, rfl⟩ := hl
    obtain ⟨hj, rfl⟩ := List.getElem?_eq_some_iff.1 hu
    simp [List.getElem?_append, hj]⟩)

/-- []byte(s). -/
theorem e_sb {t t' e : TypeId} {x : Operand} {l : Bs} (HS : St w0 F G w H) (hs : P.underlying t = some .string) (hd : P.underlying t' = some (.slice e)) (he : P.underlying e = some (.int .u8)) (hx : opv L x = some (S l)) :
    Ef P L (Oper.mk od (.convert t t' x) ty pos af g) w fun v w' => ∃ (b c : Nat) (C : Array Value) (z : Nat × Nat), v = .slice (some ⟨b, 0, none⟩) l.length c ∧ l.length ≤ c ∧ (∀ (j : Nat) (u : UInt8), l[j]? = some u → C[j]? = some (U u)) ∧ C.size = c ∧ z = (c, c + 1) ∧ St w0 F G w' (ob b (.cells C e z) :: H) := by
  refine (Ef.of_run (v := .slice (some ⟨w.heap.size, 0, none⟩) l.length (grownCap w l.length 0 e)) (w' := w.drew.alloc (.cells (bytesRow ⟨l.toArray⟩ (grownCap w l.length 0 e)) e ((bytesRow ⟨l.toArray⟩ (grownCap w l.length 0 e)).size, (bytesRow ⟨l.toArray⟩ (grownCap w l.length 0 e)).size + 1))) fun N a HF => ?_).mono ?_
  · simp only [execOp, HF.eval hx, Sem.run_bind]
    rw [run_bytes_of_string w t t' e ⟨l.toArray⟩ hs hd he]
    rfl
  · rintro _ _ ⟨rfl, rfl⟩
    have hge := grownCap_ge w l.length 0 e
    have hsz : (bytesRow ⟨l.toArray⟩ (grownCap w l.length 0 e)).size = grownCap w l.length 0 e := by
      simp [bytesRow]
      show l.length + (grownCap w l.length 0 e - l.length) = _
      omega
    refine ⟨_, _, _, _, rfl, hge, fun j u hu => ?_, hsz, by rw [hsz], HS.drew.alloc _⟩
    obtain ⟨hj, rfl⟩ := List.getElem?_eq_some_iff.1 hu
    simp [bytesRow, Array.getElem?_append, hj]

def tby (P : Program) (t : TypeId) : Option Nat := (P.info? t).map (·.bytes)
theorem block_lt_own {e : TypeId} {size : Nat} {n : Nat} {xs : List Value} {w : World} {gk : Nat} (h : w.ownsRow 0 e size v n xs) (hv : v.ownBlock = some gk) : gk < w.heap.size := (h.lt gk hv).2
/-- append(x, y...) onto a row that is owned; y's cells lie somewhere. -/
theorem e_app {t e : TypeId} {x y : Operand} {size bytes n m c : Nat} {A : Option Addr} {zs xs news : List Value} (HS : St w0 F G w H) (ht : sle P t = some (e, size)) (hz : zcells P e = some zs) (hzs : zs.length = size) (hby : tby P e = some bytes) (hsz : 0 < size)
    (hx : opv L x = some v) (hp : Pick H (own e size v n xs) H') (hy : opv L y = some (.slice A m c)) (hl : news.length = m * size) (hA : news ≠ [] → ∃ b o, A = some ⟨b, o, none⟩ ∧ ∀ j u, news[j]? = some u → w.cell? ⟨b, o + j, none⟩ = some u) (h0 : news = [] → A = none ∨ ∃ b o, A = some ⟨b, o, none⟩)
    (h1 : ∀ u ∈ news, u.oneCell' = true) (hb : (n + m) * bytes ≤ 140737488355328) (hm : n + m ≤ 140737488355328) :
    Ef P L (Oper.mk od (.call { callee := .builtin .append, args := #[x, y], argTypes := #[t, t] }) ty pos af g) w fun v' w' => St w0 F G w' (own e size v' (n + m) (xs ++ news) :: H') := by
  obtain ⟨hu1, hu2⟩ := sle_run ht
  obtain ⟨i, hi, his⟩ : ∃ i, P.info? e = some i ∧ i.size = size := by
    unfold tsz at hu2
    cases h : P.info? e with
    | none => simp [h] at hu2
    | some i => exact ⟨i, rfl, by simpa [h] using hu2⟩
  have hib : i.bytes = bytes := by simpa [tby, hi] using hby
  obtain ⟨z, hiz, hzc⟩ : ∃ z, i.zero = some z ∧ z.cells.size = size := by
    unfold zcells at hz
    simp only [hi, Option.bind_some, Option.map_eq_some_iff] at hz
    obtain ⟨z, h1, h2⟩ := hz
    exact ⟨z, h1, by rw [← hzs, ← h2]; simp⟩
  have HS1 := HS.pick hp
  have hown := HS1.owns
  have key : ∃ v' w', (Builtin.append_ #[t, t] ty #[v, .slice A m c]).run P w = .ok v' w' ∧ w'.ownsRow 0 e size v' (n + m) (xs ++ news) ∧ w.grownBy w' v.ownBlock ∧ (v'.ownBlock = v.ownBlock ∨ v'.ownBlock = some w.heap.size) := by
    by_cases hn : news = []
    · subst hn
      have hm0 : m = 0 := by
        have : m * size = 0 := by simpa using hl.symm
        rcases Nat.mul_eq_zero.1 this with h | h
        · exact h
        · omega
      subst hm0
      rcases h0 rfl with rfl | ⟨b, o, rfl⟩
      · refine ⟨v, w, ?_, by simpa using hown, World.grownBy.refl w _, .inl rfl⟩
        rcases hown.2 with ⟨rfl, rfl⟩ | ⟨gk, cap, cur, rfl, _, _, hnc, _⟩
        · simp [Builtin.append_, run_underlying hu1, Go.sizeOf, typeInfo, hi, Builtin.lenOf, Builtin.firstCells]
        · simp [Builtin.append_, run_underlying hu1, Go.sizeOf, typeInfo, hi, Builtin.lenOf, Builtin.firstCells, hnc, storeCells]
      · obtain ⟨v', w', h2, h3, h4, _, h5⟩ := run_append_own_at (P := P) w 0 t ty e i z size bytes hu1 hi hiz his hib hzc hsz v n xs hown ⟨b, o, none⟩ 0 c [] (by simp) (fun j u hu => by simp at hu) (by simp) (by simp only [maxLen]; omega) hb (Nat.zero_le _)
        exact ⟨v', w', h2, h3, h4, h5⟩
    · obtain ⟨b, o, rfl, hc⟩ := hA hn
      obtain ⟨v', w', h2, h3, h4, _, h5⟩ := run_append_own_at (P := P) w 0 t ty e i z size bytes hu1 hi hiz his hib hzc hsz v n xs hown ⟨b, o, none⟩ m c news hl (fun j u hu => by
        rw [show (⟨b, o, none⟩ : Addr).add j = ⟨b, o + j, none⟩ by unfold Addr.add; split <;> simp_all]
        exact hc j u hu) h1 (by simp only [maxLen]; omega) hb (Nat.zero_le _)
      exact ⟨v', w', h2, h3, h4, h5⟩
  obtain ⟨v', w', hrun, hown', hgr, hat⟩ := key
  refine (Ef.of_run (v := v') (w' := w') fun N a HF => ?_).mono ?_
  · simp only [execOp, resolve, invoke, builtin, Sem.run_bind, Sem.run_pure, Result.andThen_ok, List.map_toArray, List.map_cons, List.map_nil, HF.eval hx, HF.eval hy, hrun]
  · rintro v' w' ⟨rfl, rfl⟩
    unfold own at HS1 ⊢
    refine HS1.turn hgr.os hgr.tape hgr.output hgr.size fun S hS => ⟨fun k hk hnS => hgr.block k hk fun e => hnS (hS.2 k e.symm), fun k => v'.ownBlock = some k, fun k hk => ?_, hown', fun _ h => h⟩
    rcases hat with h | h
    · exact .inl (hS.2 k (by rw [← h]; exact hk))
    · rw [h] at hk
      obtain rfl := Option.some.inj hk
      refine .inr ⟨Nat.le_refl _, ?_⟩
      exact block_lt_own hown' h
end
end Gp
