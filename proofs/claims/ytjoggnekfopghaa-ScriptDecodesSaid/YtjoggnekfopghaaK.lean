/- The rules of the walk that turn the world; calls, control, results. No program in sight. -/
import Derived.Test.YtjoggnekfopghaaH
namespace Gp
open Go

def zcells (P : Program) (t : TypeId) : Option (List Value) := ((P.info? t).bind (·.zero)).map (·.cells.toList)
def splice : List Value → Nat → List Value → List Value
  | cs, _, [] => cs
  | [], _, _ :: _ => []
  | _ :: cs, 0, v :: vs => v :: splice cs 0 vs
  | c :: cs, o + 1, v :: vs => c :: splice cs o (v :: vs)
theorem splice_eq : ∀ (cs : List Value) (o : Nat) (vs : List Value), o + vs.length ≤ cs.length → splice cs o vs = cs.take o ++ vs ++ cs.drop (o + vs.length)
  | cs, o, [], _ => by simp [splice]
  | [], o, _ :: _, h => by simp at h
  | c :: cs, 0, v :: vs, h => by
    have := splice_eq cs 0 vs (by simpa using h)
    simp [splice, this]
  | c :: cs, o + 1, v :: vs, h => by
    have := splice_eq cs o (v :: vs) (by simp only [List.length_cons] at h ⊢; omega)
    simp only [List.length_cons] at this
    simp only [splice, this, List.take_succ_cons, List.cons_append, List.length_cons]
    rw [show o + 1 + (vs.length + 1) = (o + (vs.length + 1)) + 1 by omega, List.drop_succ_cons]

/-- Function f is one of the program's own, with a body. -/
def Ent (P : Program) (f : FuncId) : Prop := ∃ fn, P.funcs[f]? = some fn ∧ (fn.name == "runtime.NumGoroutine") = false ∧ fn.body.isNone = false
theorem Ent.run {P : Program} {f : FuncId} (h : Ent P f) (args : Array Value) (w : World) : (callFunc f args).run P w = .ok (.enter f args) w := by
  obtain ⟨fn, h1, h2, h3⟩ := h
  have h2' : fn.name ≠ "runtime.NumGoroutine" := by simpa using h2
  have h3' : fn.body ≠ none := by intro e; rw [e] at h3; cases h3
  simp [callFunc, h1, h2', h3']

/-- A contract: the call returns a value and leaves a world of which R holds. -/
def Does (P : Program) (f : FuncId) (args : List Value) (w : World) (R : Value → World → Prop) : Prop := Calls P f args.toArray w fun e w' => ∃ v, e = .returned v ∧ R v w'
theorem Does.mono {P : Program} {f : FuncId} {args : List Value} {w : World} {R R' : Value → World → Prop} (h : Does P f args w R) (hr : ∀ v w', R v w' → R' v w') : Does P f args w R' :=
  Calls.mono h fun _ _ ⟨v, h1, h2⟩ => ⟨v, h1, hr _ _ h2⟩

section
variable {P : Program} {N : Nat} {a : Act} {L : List (Nat × Value)} {w0 w : World} {F : Nat → Prop} {G : Gh} {H H' : List Asrt} {ops : Array Oper} {Q : Exit → Act → World → Prop} {rest : List Oper} {o : Oper} {d : Nat} {v : Value}
variable {od : Option Nat} {ty : TypeId} {pos : String} {af : Array Edge} {g : Option (Nat × Bool)}

/-- What is run leaves this value and this world. -/
theorem gl {w' : World} (HF : Fr N a L) (hp : (execOp a.eval o).run P w = .ok (.value v) w') (hd : o.dst = some d) (hN : d < N) (hg : o.guard = none) (k : ∀ a', Fr N a' ((d, v) :: L) → wpList P ops Q rest a' w') : wpList P ops Q (o :: rest) a w := by
  refine wpList_plain hg fun K hK => ?_
  unfold Oper.wp
  rw [hp]
  simp only [Oper.upon, hd]
  exact hK _ _ (k _ (HF.put hN v))
theorem glS {w' : World} (hp : (execOp a.eval o).run P w = .ok .skip w') (hd : o.dst = none) (hg : o.guard = none) (k : wpList P ops Q rest a w') : wpList P ops Q (o :: rest) a w := by
  refine wpList_plain hg fun K hK => ?_
  unfold Oper.wp
  rw [hp]
  simp only [Oper.upon, hd, Act.put]
  exact hK _ _ k

theorem zero_run {t : TypeId} {zs : List Value} (hz : zcells P t = some zs) (w : World) : ∃ z, (zeroValue t).run P w = .ok z w ∧ z.cells = zs.toArray := by
  unfold zcells at hz
  cases hi : P.info? t with
  | none => simp [hi] at hz
  | some i =>
    simp only [hi, Option.bind_some, Option.map_eq_some_iff] at hz
    obtain ⟨z, hz, rfl⟩ := hz
    exact ⟨z, by simp [zeroValue, typeInfo, hi, hz], by simp⟩

/-- What an operation does, the frame but for its own slot untouched. -/
def Ef (P : Program) (L : List (Nat × Value)) (o : Oper) (w : World) (R : Value → World → Prop) : Prop :=
  ∀ N a, Fr N a L → ∀ (K : Act → World → Prop) (Q : Exit → Act → World → Prop), (∀ v w', R v w' → K (a.put o.dst v) w') → o.wp P a w K Q
theorem Ef.of_run {w' : World} (h : ∀ N a, Fr N a L → (execOp a.eval o).run P w = .ok (.value v) w') : Ef P L o w fun u w'' => u = v ∧ w'' = w' := fun N a HF K Q hK => by
  unfold Oper.wp
  rw [h N a HF]
  exact hK _ _ ⟨rfl, rfl⟩
theorem Ef.of_skip {w' : World} (h : ∀ N a, Fr N a L → (execOp a.eval o).run P w = .ok .skip w') : Ef P L o w fun u w'' => u = undef ∧ w'' = w' := fun N a HF K Q hK => by
  unfold Oper.wp
  rw [h N a HF]
  exact hK _ _ ⟨rfl, rfl⟩
theorem Ef.mono {R R' : Value → World → Prop} (h : Ef P L o w R) (hr : ∀ v w', R v w' → R' v w') : Ef P L o w R' := fun N a HF K Q hK => h N a HF K Q fun v w' h' => hK v w' (hr v w' h')
theorem lE {R : Value → World → Prop} (HF : Fr N a L) (he : Ef P L o w R) (hd : o.dst = some d) (hN : d < N) (hg : o.guard = none) (k : ∀ v w', R v w' → ∀ a', Fr N a' ((d, v) :: L) → wpList P ops Q rest a' w') : wpList P ops Q (o :: rest) a w := by
  refine wpList_plain hg fun K hK => he N a HF K Q fun v w' hR => hK _ _ ?_
  rw [hd]
  exact k v w' hR _ (HF.put hN v)
theorem lE0 {R : Value → World → Prop} (HF : Fr N a L) (he : Ef P L o w R) (hd : o.dst = none) (hg : o.guard = none) (k : ∀ v w', R v w' → wpList P ops Q rest a w') : wpList P ops Q (o :: rest) a w := by
  refine wpList_plain hg fun K hK => he N a HF K Q fun v w' hR => hK _ _ ?_
  rw [hd]
  exact k v w' hR
/-- .. under a guard that is met. -/
theorem lEw {R : Value → World → Prop} {j dj : Nat} {oj : Oper} {c : Bool} (HF : Fr N a L) (he : Ef P L o w R) (hd : o.dst = some d) (hN : d < N) (hg : o.guard = some (j, c)) (hj : ops[j]? = some oj) (hdj : oj.dst = some dj) (hv : lk L dj = some (.bool c))
    (k : ∀ v w', R v w' → ∀ a', Fr N a' ((d, v) :: L) → wpList P ops Q rest a' w') : wpList P ops Q (o :: rest) a w := by
  have hw : Region.wanted o (yielded ops a.tmps) = true := by
    have := HF.get dj _ hv
    simp [Region.wanted, hg, yielded, hj, hdj, this]
  refine wpList_step fun K hK => ?_
  rw [if_pos hw]
  refine he N a HF K Q fun v w' hR => hK _ _ ?_
  rw [hd]
  exact k v w' hR _ (HF.put hN v)

theorem e_alloc {e : TypeId} {zs : List Value} (HS : St w0 F G w H) (hz : zcells P e = some zs) : Ef P L (Oper.mk od (.alloc e) ty pos af g) w fun v w' => ∃ b, v = Pt b 0 ∧ St w0 F G w' (blk b zs e :: H) := by
  obtain ⟨z, hz1, hz2⟩ := zero_run hz w
  refine (Ef.of_run (v := Pt w.heap.size 0) (w' := w.alloc (.cells z.cells e)) fun N a HF => ?_).mono ?_
  · simp [execOp, Instr.alloc, hz1, newVar, newRow]
  · rintro _ _ ⟨rfl, rfl⟩
    exact ⟨_, rfl, by rw [hz2]; exact HS.alloc _⟩
theorem g_alloc {e : TypeId} {zs : List Value} (HF : Fr N a L) (HS : St w0 F G w H) (hz : zcells P e = some zs) (hN : d < N) (k : ∀ a' w' b, Fr N a' ((d, Pt b 0) :: L) → St w0 F G w' (blk b zs e :: H) → wpList P ops Q rest a' w') :
    wpList P ops Q (Oper.mk (some d) (.alloc e) ty pos af none :: rest) a w :=
  lE HF (e_alloc HS hz) rfl hN rfl fun _ w' ⟨b, hv, hS⟩ a' HF' => k a' w' b (hv ▸ HF') hS
theorem e_box {e : TypeId} {x : Operand} {vs : List Value} (HS : St w0 F G w H) (hx : opv L x = some v) (hv : v.cells = vs.toArray) : Ef P L (Oper.mk od (.box e x) ty pos af g) w fun v w' => ∃ b, v = Pt b 0 ∧ St w0 F G w' (blk b vs e :: H) := by
  refine (Ef.of_run (v := Pt w.heap.size 0) (w' := w.alloc (.cells v.cells e)) fun N a HF => ?_).mono ?_
  · simp [execOp, HF.eval hx, Instr.box, newVar, newRow]
  · rintro _ _ ⟨rfl, rfl⟩
    exact ⟨_, rfl, by rw [hv]; exact HS.alloc _⟩
theorem g_box {e : TypeId} {x : Operand} {vs : List Value} (HF : Fr N a L) (HS : St w0 F G w H) (hx : opv L x = some v) (hv : v.cells = vs.toArray) (hN : d < N) (k : ∀ a' w' b, Fr N a' ((d, Pt b 0) :: L) → St w0 F G w' (blk b vs e :: H) → wpList P ops Q rest a' w') :
    wpList P ops Q (Oper.mk (some d) (.box e x) ty pos af none :: rest) a w :=
  lE HF (e_box HS hx hv) rfl hN rfl fun _ w' ⟨b, hv, hS⟩ a' HF' => k a' w' b (hv ▸ HF') hS

/-- A store into a block at hand. -/
theorem e_st {t e : TypeId} {x y : Operand} {b q n : Nat} {cs cs' vs : List Value} (HS : St w0 F G w H) (hi : tsz P t = some n) (hs : n = vs.length) (hx : opv L x = some (Pt b q)) (hy : opv L y = some v) (hv : v.cells = vs.toArray)
    (h1 : vs.all (fun u => u.oneCell') = true) (hu : Upd H (blk b cs e) (blk b cs' e) H') (hcs : splice cs q vs = cs') (hq : Nat.ble (q + vs.length) cs.length = true) : Ef P L (Oper.mk od (.store t x y) ty pos af g) w fun _ w' => St w0 F G w' H' := by
  subst hcs
  have h1 : ∀ u ∈ vs, u.oneCell' = true := fun u hu => List.all_eq_true.1 h1 u hu
  have hq := Nat.le_of_ble_eq_true hq
  obtain ⟨Hr, p1, p2⟩ := hu.picks
  have hb := HS.mem p1
  have hst := run_storeCells_at P b q e vs 0 cs.toArray w hb (by simpa using hq) h1
  simp only [Nat.add_zero] at hst
  refine (Ef.of_skip (w' := w.setRow b (splice cs q vs).toArray) fun N a HF => ?_).mono ?_
  · simp [execOp, HF.eval hx, HF.eval hy, Instr.storeAt, Instr.sureAddr, storeVar, tsz_run hi, hs, hv, hst, splice_eq cs q vs hq]
  · rintro _ _ ⟨_, rfl⟩
    refine HS.upd hu fun Hr' h => ?_
    exact h.put rfl rfl rfl (by simp) (fun k hk => setRow_other w b k _ hk) (setRow_heap w b cs.toArray _ e _ h.ob_at)
theorem g_st {t e : TypeId} {x y : Operand} {b q n : Nat} {cs cs' vs : List Value} (HF : Fr N a L) (HS : St w0 F G w H) (hi : tsz P t = some n) (hs : n = vs.length) (hx : opv L x = some (Pt b q)) (hy : opv L y = some v) (hv : v.cells = vs.toArray)
    (h1 : vs.all (fun u => u.oneCell') = true) (hu : Upd H (blk b cs e) (blk b cs' e) H') (hcs : splice cs q vs = cs') (hq : Nat.ble (q + vs.length) cs.length = true) (k : ∀ w', St w0 F G w' H' → wpList P ops Q rest a w') :
    wpList P ops Q (Oper.mk none (.store t x y) ty pos af none :: rest) a w :=
  lE0 HF (e_st HS hi hs hx hy hv h1 hu hcs hq) rfl rfl fun _ w' hS => k w' hS

/-- A call of a Go function, by its contract. -/
theorem e_call {f : FuncId} {x : Operand} {xs : Array Operand} {ts : Array TypeId} {vs caps : List Value} {R : Value → World → Prop} (hx : opv L x = some (.func (.func f) #[] caps.toArray)) (hxs : opvs L xs.toList = some vs) (hen : Ent P f)
    (hc : Does P f (vs ++ caps) w R) : Ef P L (Oper.mk od (.call { callee := .value x, args := xs, argTypes := ts }) ty pos af g) w R := fun N a HF K Q hK => by
  have e1 : xs.map a.eval = vs.toArray := by rw [← HF.evals hxs]; apply Array.ext'; simp
  have hrun : (execOp a.eval (Oper.mk od (.call { callee := .value x, args := xs, argTypes := ts }) ty pos af g)).run P w = .ok (.enter f (vs ++ caps).toArray) w := by
    simp only [execOp, resolve, HF.eval hx, Deferred.ofValue, Sem.run_bind, Sem.run_pure, Result.andThen_ok, invoke, e1]
    rw [hen.run]
    simp
  unfold Oper.wp
  rw [hrun]
  simp only [Oper.upon]
  refine Calls.mono hc ?_
  rintro e w' ⟨v, rfl, hR⟩
  exact hK v w' hR
theorem g_call {f : FuncId} {x : Operand} {xs : Array Operand} {ts : Array TypeId} {vs caps : List Value} {R : Value → World → Prop} (HF : Fr N a L) (hx : opv L x = some (.func (.func f) #[] caps.toArray)) (hxs : opvs L xs.toList = some vs) (hen : Ent P f) (hN : d < N)
    (hc : Does P f (vs ++ caps) w R) (k : ∀ v w', R v w' → ∀ a', Fr N a' ((d, v) :: L) → wpList P ops Q rest a' w') :
    wpList P ops Q (Oper.mk (some d) (.call { callee := .value x, args := xs, argTypes := ts }) ty pos af none :: rest) a w :=
  lE HF (e_call hx hxs hen hc) rfl hN rfl k
theorem g_callw {f : FuncId} {x : Operand} {xs : Array Operand} {ts : Array TypeId} {vs caps : List Value} {R : Value → World → Prop} {j dj : Nat} {oj : Oper} {c : Bool} (HF : Fr N a L) (hj : ops[j]? = some oj) (hdj : oj.dst = some dj) (hv : lk L dj = some (.bool c)) (hx : opv L x = some (.func (.func f) #[] caps.toArray)) (hxs : opvs L xs.toList = some vs) (hen : Ent P f) (hN : d < N)
    (hc : Does P f (vs ++ caps) w R) (k : ∀ v w', R v w' → ∀ a', Fr N a' ((d, v) :: L) → wpList P ops Q rest a' w') :
    wpList P ops Q (Oper.mk (some d) (.call { callee := .value x, args := xs, argTypes := ts }) ty pos af (some (j, c)) :: rest) a w :=
  lEw HF (e_call hx hxs hen hc) rfl hN rfl hj hdj hv k
end

/-! ### control -/
section
variable {P : Program} {N : Nat} {a : Act} {L : List (Nat × Value)} {w : World} {Q : Exit → Act → World → Prop} {x y : Code} {c : Operand} {next : Act → World → Prop} {i j : Nat}
theorem c_if {t : Bool} (HF : Fr N a L) (hc : opv L c = some (.bool t)) (ht : t = true → x.wp P Q a w) (hf : t = false → y.wp P Q a w) : (Code.cond c x y).wp P Q a w := wp_cond_split (HF.eval hc) ht hf
theorem c_t (HF : Fr N a L) (hc : opv L c = some (.bool true)) (h : x.wp P Q a w) : (Code.cond c x y).wp P Q a w := wp_cond_true (HF.eval hc) h
theorem c_f (HF : Fr N a L) (hc : opv L c = some (.bool false)) (h : y.wp P Q a w) : (Code.cond c x y).wp P Q a w := wp_cond_false (HF.eval hc) h
theorem tn (h : next a w) : Exit.then next Q .normal a w := h
theorem tx (h : Q (.exit i) a w) : Exit.then next Q (.exit i) a w := h
theorem tr (h : Q .ret a w) : Exit.then next Q .ret a w := h
theorem bn (h : Q .normal a w) : Exit.inBlock i Q .normal a w := h
theorem bh (h : Q .normal a w) : Exit.inBlock i Q (.exit i) a w := by simpa [Exit.inBlock] using h
theorem bm (hij : j ≠ i) (h : Q (.exit j) a w) : Exit.inBlock i Q (.exit j) a w := by simpa [Exit.inBlock, hij] using h
theorem br (h : Q .ret a w) : Exit.inBlock i Q .ret a w := h
end

/-! ### results -/
def rvSem (a : Act) : ResultVar → Sem Value
  | .tmp t => pure (a.tmps.getD t undef)
  | .cell x t => do loadVar t (← asAddr (a.tmps.getD x undef))
def RV (P : Program) (L : List (Nat × Value)) (w : World) (r : ResultVar) (v : Value) : Prop := ∀ N a, Fr N a L → (rvSem a r).run P w = .ok v w
section
variable {P : Program} {N : Nat} {a : Act} {L : List (Nat × Value)} {w : World} {fn : Func} {R : Value → World → Prop} {u v z : Value} {r r1 r2 r3 : ResultVar}
theorem rv_t {t : Tmp} (h : lk L t = some v) : RV P L w (.tmp t) v := fun _ a HF => by
  have := HF.get t v h
  simp [rvSem, Array.getD_eq_getD_getElem?, this]
theorem rv_of {x : Tmp} {t : TypeId} (h : Pu P L (Oper.mk none (.load t (.tmp x)) 0 "" #[] none) w v) (hx : ∃ b q, lk L x = some (Pt b q)) : RV P L w (.cell x t) v := fun N a HF => by
  obtain ⟨b, q, hx⟩ := hx
  have h1 := h N a HF
  have h2 := HF.get x _ hx
  simp only [execOp, Instr.loadAt, Sem.run_bind] at h1
  simp only [rvSem, Array.getD_eq_getD_getElem?, h2, Option.getD_some, asAddr, Sem.run_bind, Sem.run_pure, Result.andThen_ok]
  have h3 : a.eval (.tmp x) = Pt b q := by simp [Act.eval, Array.getD_eq_getD_getElem?, h2]
  simp only [h3, Instr.sureAddr, Sem.run_pure, Result.andThen_ok] at h1
  cases hl : (loadVar t ⟨b, q, none⟩).run P w with
  | ok v' w' => rw [hl] at h1; simp only [Result.andThen_ok] at h1; cases h1; rfl
  | halt x w' => rw [hl] at h1; simp [Result.andThen] at h1
theorem results_rv (fn : Func) (a : Act) : results fn a.tmps = (do let vs ← fn.results.mapM (rvSem a); pure (if h : vs.size = 1 then vs[0] else .tuple vs)) := by
  unfold results
  congr
def post (P : Program) (fn : Func) (R : Value → World → Prop) : Exit → Act → World → Prop := bodyPost P fn fun e w' => ∃ v, e = .returned v ∧ R v w'
theorem ret1 (HF : Fr N a L) (hr : fn.results = #[r]) (h1 : RV P L w r v) (hR : R v w) : post P fn R .ret a w :=
  ⟨HF.defs, v, by rw [results_rv, hr]; simp [h1 N a HF], v, rfl, hR⟩
theorem ret2 (HF : Fr N a L) (hr : fn.results = #[r1, r2]) (h1 : RV P L w r1 u) (h2 : RV P L w r2 v) (hR : R (.tuple #[u, v]) w) : post P fn R .ret a w :=
  ⟨HF.defs, _, by rw [results_rv, hr]; simp [h1 N a HF, h2 N a HF], _, rfl, hR⟩
theorem ret3 (HF : Fr N a L) (hr : fn.results = #[r1, r2, r3]) (h1 : RV P L w r1 u) (h2 : RV P L w r2 v) (h3 : RV P L w r3 z) (hR : R (.tuple #[u, v, z]) w) : post P fn R .ret a w :=
  ⟨HF.defs, _, by rw [results_rv, hr]; simp [h1 N a HF, h2 N a HF, h3 N a HF], _, rfl, hR⟩
/-- No result. -/
theorem ret0 (HF : Fr N a L) (hr : fn.results = #[]) (hR : R (.tuple #[]) w) : post P fn R .ret a w := by
  refine ⟨HF.defs, _, ?_, _, rfl, hR⟩
  unfold results
  rw [hr]
  simp
theorem end0 (HF : Fr N a L) (hr : fn.results = #[]) (hR : R (.tuple #[]) w) : post P fn R .normal a w := ret0 HF hr hR

/-- Into a body. -/
def slots : Nat → List Value → List (Nat × Value)
  | _, [] => []
  | k, v :: r => (k, v) :: slots (k + 1) r
theorem enter {f : FuncId} {c : Code} {args : List Value} (hf : P.funcs[f]? = some fn) (hb : fn.body = some c) (hn : fn.ntmps = N) (hle : Nat.ble args.length N = true) (h : ∀ a, Fr N a (slots 0 args) → c.wp P (post P fn R) a w) : Does P f args w R := by
  have hle := Nat.le_of_ble_eq_true hle
  refine calls_of_wp hf hb (h _ ⟨by simp [hn]; omega, rfl, ?_⟩)
  intro t v hv
  have key : ∀ (l : List Value) (k : Nat), lk (slots k l) t = some v → k ≤ t ∧ l[t - k]? = some v := by
    intro l
    induction l with
    | nil => intro k h; simp [slots, lk] at h
    | cons u r ih =>
      intro k h
      simp only [slots, lk] at h
      cases hb : Nat.beq k t
      · rw [hb] at h
        obtain ⟨h1, h2⟩ := ih (k + 1) (by simpa using h)
        refine ⟨by omega, ?_⟩
        rw [show t - k = (t - (k + 1)) + 1 by omega]
        simpa using h2
      · rw [hb] at h
        have e := Nat.eq_of_beq_eq_true hb
        subst e
        simp only [cond_true, Option.some.injEq] at h
        simp [h]
  obtain ⟨_, h2⟩ := key args 0 hv
  simp only [Nat.sub_zero] at h2
  have hlt : t < args.length := (List.getElem?_eq_some_iff.1 h2).1
  simp [Array.getElem?_append, hlt]
  exact (List.getElem?_eq_some_iff.1 h2).2
end

/-! ### a region that draws its order, all of whose operations leave the state as it is -/
section
variable {P : Program} {N : Nat} {a : Act} {L : List (Nat × Value)} {w0 w : World} {F : Nat → Prop} {G : Gh} {H : List Asrt} {ops : Array Oper} {C : World → Prop} {K : Act → Prop} {Q : Exit → Act → World → Prop} {rest : List Oper} {o : Oper} {d : Nat} {v : Value}
theorem rq {id : Nat} {l : List Oper} (HS : St w0 F G w H) (hm : P.follows .mixedOrders = true) (hB : Region.lexB .any l.toArray = true)
    (h : wpQuiet P l.toArray (fun w' => St w0 F G w' H) (fun a' => ∀ w', St w0 F G w' H → Q .normal a' w') l a) : (Code.region id l.toArray true).wp P Q a w :=
  wp_region_quiet (C := fun w' => St w0 F G w' H) hm hB HS.drew (by simpa using h)
theorem ql (HF : Fr N a L) (hp : ∀ w, C w → Pu P L o w v) (hd : o.dst = some d) (hN : d < N) (hg : o.guard = none) (k : ∀ a', Fr N a' ((d, v) :: L) → wpQuiet P ops C K rest a') : wpQuiet P ops C K (o :: rest) a := by
  unfold wpQuiet
  rw [if_pos (by simp [Region.wanted, hg])]
  refine ⟨v, fun w hw => ?_, ?_⟩
  · unfold Oper.quietAt
    rw [hp w hw N a HF]
    exact ⟨rfl, rfl⟩
  · rw [hd]; exact k _ (HF.put hN v)
theorem qw {j dj : Nat} {oj : Oper} {c : Bool} (HF : Fr N a L) (hp : ∀ w, C w → Pu P L o w v) (hd : o.dst = some d) (hN : d < N) (hg : o.guard = some (j, c)) (hj : ops[j]? = some oj) (hdj : oj.dst = some dj) (hv : lk L dj = some (.bool c))
    (k : ∀ a', Fr N a' ((d, v) :: L) → wpQuiet P ops C K rest a') : wpQuiet P ops C K (o :: rest) a := by
  have hw : Region.wanted o (yielded ops a.tmps) = true := by
    have := HF.get dj _ hv
    simp [Region.wanted, hg, yielded, hj, hdj, this]
  unfold wpQuiet
  rw [if_pos hw]
  refine ⟨v, fun w hw => ?_, ?_⟩
  · unfold Oper.quietAt
    rw [hp w hw N a HF]
    exact ⟨rfl, rfl⟩
  · rw [hd]; exact k _ (HF.put hN v)
theorem qn {j dj : Nat} {oj : Oper} {c : Bool} {u : Value} (HF : Fr N a L) (hd : o.dst = some d) (hN : d < N) (hg : o.guard = some (j, c)) (hj : ops[j]? = some oj) (hdj : oj.dst = some dj) (hv : lk L dj = some u) (hne : notB u c = true)
    (k : ∀ a', Fr N a' ((d, undef) :: L) → wpQuiet P ops C K rest a') : wpQuiet P ops C K (o :: rest) a := by
  have hw : Region.wanted o (yielded ops a.tmps) = false := by
    have := HF.get dj _ hv
    cases u <;> simp_all [Region.wanted, yielded, notB]
  unfold wpQuiet
  rw [if_neg (by rw [hw]; exact Bool.false_ne_true), hd]
  exact k _ (HF.put hN undef)
theorem qe (k : K a) : wpQuiet P ops C K [] a := wpQuiet_nil k
theorem q_call {f : FuncId} {x : Operand} {xs : Array Operand} {ts : Array TypeId} {vs caps : List Value} {ty : TypeId} {pos : String} {af : Array Edge} (HF : Fr N a L) (hx : opv L x = some (.func (.func f) #[] caps.toArray)) (hxs : opvs L xs.toList = some vs) (hen : Ent P f) (hN : d < N)
    (hc : ∀ w, C w → Does P f (vs ++ caps) w fun v' w' => v' = v ∧ C w') (k : ∀ a', Fr N a' ((d, v) :: L) → wpQuiet P ops C K rest a') :
    wpQuiet P ops C K (Oper.mk (some d) (.call { callee := .value x, args := xs, argTypes := ts }) ty pos af none :: rest) a := by
  have e1 : xs.map a.eval = vs.toArray := by rw [← HF.evals hxs]; apply Array.ext'; simp
  have hrun : ∀ w, (execOp a.eval (Oper.mk (some d) (.call { callee := .value x, args := xs, argTypes := ts }) ty pos af none)).run P w = .ok (.enter f (vs ++ caps).toArray) w := fun w => by
    simp only [execOp, resolve, HF.eval hx, Deferred.ofValue, Sem.run_bind, Sem.run_pure, Result.andThen_ok, invoke, e1]
    rw [hen.run]
    simp
  unfold wpQuiet
  rw [if_pos (by simp [Region.wanted])]
  refine ⟨v, fun w hw => ?_, k _ (HF.put hN v)⟩
  unfold Oper.quietAt
  rw [hrun]
  refine ⟨rfl, Calls.mono (hc w hw) ?_⟩
  rintro e w' ⟨_, rfl, rfl, h⟩
  exact ⟨rfl, h⟩
theorem q_callw {j dj : Nat} {oj : Oper} {c : Bool} {f : FuncId} {x : Operand} {xs : Array Operand} {ts : Array TypeId} {vs caps : List Value} {ty : TypeId} {pos : String} {af : Array Edge} (HF : Fr N a L) (hj : ops[j]? = some oj) (hdj : oj.dst = some dj) (hv : lk L dj = some (.bool c)) (hx : opv L x = some (.func (.func f) #[] caps.toArray)) (hxs : opvs L xs.toList = some vs) (hen : Ent P f) (hN : d < N)
    (hc : ∀ w, C w → Does P f (vs ++ caps) w fun v' w' => v' = v ∧ C w') (k : ∀ a', Fr N a' ((d, v) :: L) → wpQuiet P ops C K rest a') :
    wpQuiet P ops C K (Oper.mk (some d) (.call { callee := .value x, args := xs, argTypes := ts }) ty pos af (some (j, c)) :: rest) a := by
  have e1 : xs.map a.eval = vs.toArray := by rw [← HF.evals hxs]; apply Array.ext'; simp
  have hrun : ∀ w, (execOp a.eval (Oper.mk (some d) (.call { callee := .value x, args := xs, argTypes := ts }) ty pos af (some (j, c)))).run P w = .ok (.enter f (vs ++ caps).toArray) w := fun w => by
    simp only [execOp, resolve, HF.eval hx, Deferred.ofValue, Sem.run_bind, Sem.run_pure, Result.andThen_ok, invoke, e1]
    rw [hen.run]
    simp
  unfold wpQuiet
  have hget := HF.get dj _ hv
  rw [if_pos (by simp [Region.wanted, yielded, hj, hdj, hget])]
  refine ⟨v, fun w hw => ?_, k _ (HF.put hN v)⟩
  unfold Oper.quietAt
  rw [hrun]
  refine ⟨rfl, Calls.mono (hc w hw) ?_⟩
  rintro e w' ⟨_, rfl, rfl, h⟩
  exact ⟨rfl, h⟩
theorem Fr.cut (h : Fr N a L) {L' : List (Nat × Value)} (ts : List Nat) (e : Gp.keep L ts = L') : Fr N a L' := e ▸ h.keep ts
theorem bsplit {p : Prop} {c : Bool} {d : Nat} (h : Fr N a ((d, .bool c) :: L)) (ht : c = true → Fr N a ((d, .bool true) :: L) → p) (hf : c = false → Fr N a ((d, .bool false) :: L) → p) : p := by
  cases c
  · exact hf rfl h
  · exact ht rfl h
end
end Gp
