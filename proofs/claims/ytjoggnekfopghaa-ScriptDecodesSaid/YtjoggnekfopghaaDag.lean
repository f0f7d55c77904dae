/- A region that draws its order, some of whose operations turn the world: each operation by its own triple, whatever the order. -/
import Derived.Test.YtjoggnekfopghaaReg
import Derived.Test.YtjoggnekfopghaaKb
namespace Gp
open Go

theorem Star.perm {G : Gh} {w : World} {L L' : List Asrt} (p : L.Perm L') : ∀ {S : Nat → Prop}, Star G w L S → Star G w L' S := by
  induction p with
  | nil => exact fun h => h
  | cons A _ ih => exact fun ⟨S1, h1, h2, h3⟩ => ⟨S1, h1, h2, ih h3⟩
  | swap A B L => exact fun h => Star.swap h
  | trans _ _ ih1 ih2 => exact fun h => ih2 (ih1 h)
theorem St.perm {w0 w : World} {F : Nat → Prop} {G : Gh} {L L' : List Asrt} (h : St w0 F G w L) (p : L.Perm L') : St w0 F G w L' := Star.st h (Star.perm p)

section
variable {P : Program} {ops : Array Oper} {Q : Exit → Act → World → Prop}

def upb (ld : Nat → Bool) (i : Nat) : Nat → Bool := fun k => if k = i then true else ld k
theorem lf_set {listed : Array Bool} {i : Nat} (h : i < listed.size) : (fun k => (listed.setIfInBounds i true).getD k false) = upb (fun k => listed.getD k false) i := by
  funext k
  unfold upb
  by_cases e : k = i
  · subst e
    rw [if_pos rfl]
    simp [Array.getD_eq_getD_getElem?, h]
  · rw [if_neg e]
    simp [Array.getD_eq_getD_getElem?, Array.getElem?_setIfInBounds_ne (Ne.symm e)]

theorem wp_region_inv {id : Nat} {a0 : Act} {w0 : World} (hm : P.follows .mixedOrders = true) (I : (Nat → Bool) → Act → World → Prop) (D : Nat → List Nat) (hD : closedB ops D = true)
    (h0 : I (fun _ => false) a0 { w0 with drawn := w0.drawn + 1 })
    (hs : ∀ ld a w i, i < ops.size → ld i = false → (∀ j ∈ D i, ld j = true) → (∀ j, ld j = true → j < ops.size) → (∀ j, ld j = true → ∀ k ∈ D j, ld k = true) → I ld a w → wpOp P ops Q i (I (upb ld i)) a w)
    (he : ∀ ld a w, (∀ i, i < ops.size → ld i = true) → I ld a w → Q .normal a w) : (Code.region id ops true).wp P Q a0 w0 := by
  have hB : ∀ i, i < ops.size → (∀ k ∈ depsOf ops i, k < i) ∧ ∀ j ∈ D i, j ∈ depsOf ops i ∨ ∃ k ∈ depsOf ops i, j ∈ D k := by
    intro i hi
    have := (List.all_eq_true.1 hD) i (List.mem_range.2 hi)
    simpa using this
  refine wp_region_any hm (wpAny_inv (fun listed a w => I (fun k => listed.getD k false) a w ∧ ∀ j, j < ops.size → listed.getD j false = true → ∀ k ∈ D j, listed.getD k false = true) ?_ ?_ ops.size _ a0 _ (by simp) (by simp [List.countP_replicate]) ⟨?_, ?_⟩)
  · rintro listed a w i hsz hi ⟨hI, hC⟩
    obtain ⟨hun, o, ho, hall⟩ := mem_ready.1 hi
    have hlt : i < ops.size := (Array.getElem?_eq_some_iff.1 ho).1
    have hdep : ∀ k ∈ depsOf ops i, listed.getD k false = true := by
      intro k hk
      simp only [depsOf, ho, Option.map_some, Option.getD_some, List.mem_map, List.mem_filter] at hk
      obtain ⟨e, ⟨hem, hb⟩, rfl⟩ := hk
      exact hall e (by simpa using hem) hb
    have hDl : ∀ j ∈ D i, listed.getD j false = true := by
      intro j hj
      rcases (hB i hlt).2 j hj with h | ⟨k, hk, hjk⟩
      · exact hdep j h
      · exact hC k (Nat.lt_trans ((hB i hlt).1 k hk) hlt) (hdep k hk) j hjk
    have hlts : ∀ j, listed.getD j false = true → j < ops.size := fun j h => by
      rcases Nat.lt_or_ge j listed.size with h' | h'
      · omega
      · simp [Array.getD_eq_getD_getElem?, Array.getElem?_eq_none h'] at h
    have hif : listed.getD i false = false := by
      simpa [Array.getD_eq_getD_getElem?, show i < listed.size by omega] using hun
    refine wpOp_mono ?_ (hs _ a w i hlt hif hDl hlts (fun j hj => hC j (hlts j hj) hj) hI)
    intro a' w' h'
    refine ⟨by rw [lf_set (by omega)]; exact h', fun j hj hl k hk => ?_⟩
    rcases getD_set_true hl with rfl | hl
    · exact set_getD_true (hDl k hk)
    · exact set_getD_true (hC j hj hl k hk)
  · rintro listed a w hsz hnil ⟨hI, _⟩
    refine he _ a w (fun i hi => ?_) hI
    induction i using Nat.strongRecOn with
    | ind i ih =>
      rcases hb : listed.getD i false with _ | _
      · exfalso
        have ho : ops[i]? = some ops[i] := by simp [hi]
        have hmem : i ∈ Region.ready .any ops listed := by
          refine mem_ready.2 ⟨?_, ops[i], ho, fun e he' hbi => ?_⟩
          · simpa [Array.getD_eq_getD_getElem?, show i < listed.size by omega] using hb
          · have hk : e.on ∈ depsOf ops i := by
              simp only [depsOf, ho, Option.map_some, Option.getD_some, List.mem_map, List.mem_filter]
              exact ⟨e, ⟨by simpa using he', hbi⟩, rfl⟩
            have hlt := (hB i hi).1 _ hk
            exact ih e.on hlt (Nat.lt_trans hlt hi)
        rw [hnil] at hmem
        cases hmem
      · rfl
  · have : (fun k => (Array.replicate ops.size false).getD k false) = fun _ => false := by
      funext k
      simp only [Array.getD_eq_getD_getElem?, Array.getElem?_replicate]
      split <;> rfl
    rw [this]; exact h0
  · intro j hj hl
    simp [Array.getD_eq_getD_getElem?, hj] at hl
end

/-- The ghost as it was, or (gk) one that has grown. -/
def GL (gk : Bool) (G G' : Gh) : Prop := G.le G' ∧ (gk = false → G' = G)
theorem GL.refl (gk : Bool) (G : Gh) : GL gk G G := ⟨Gh.le.refl G, fun _ => rfl⟩
theorem GL.trans {gk : Bool} {A B C : Gh} (h : GL gk A B) (k : GL gk B C) : GL gk A C := ⟨h.1.trans k.1, fun e => (k.2 e).trans (h.2 e)⟩
theorem GL.grow {A B : Gh} (h : A.le B) : GL true A B := ⟨h, fun e => by cases e⟩
/-! ### values, facts and resources by operation -/
abbrev Va := Nat → Value
def up (σ : Va) (i : Nat) (v : Value) : Va := fun k => if k = i then v else σ k

/-- What is said of one operation: what it waits for (closed), the slots that it may look at, the resources that it may use (its own ones to turn: those whose taker it is), a fact on its value, its resources, who takes them. -/
structure Dn where
  D : List Nat
  av : List Nat
  φ : Gh → Va → Prop
  R : Va → List Asrt
  c : Option Nat

section
variable (P : Program) (ops : List Oper) (N : Nat) (L0 : List (Nat × Value)) (T : List Dn) (w0 : World) (F : Nat → Prop) (gk : Bool) (G0 : Gh) (H : List Asrt)

def dn (i : Nat) : Dn := T.getD i ⟨[], [], fun _ _ => True, fun _ => [], none⟩
def dst (i : Nat) : Option Nat := (ops[i]?).bind (·.dst)
/-- A base slot that nobody writes but who comes behind i. -/
def baseOk (i : Nat) (t : Nat) : Bool := (List.range ops.length).all fun j => match dst ops j with
  | some d => !Nat.beq d t || (i == j) || ((dn T j).D.contains i)
  | none => true
/-- The slots that operation i sees. -/
def sees (i : Nat) (σ : Va) : List (Nat × Value) := ((dn T i).D.filterMap fun j => (dst ops j).map fun d => (d, σ j)) ++ L0.filter fun p => baseOk ops T i p.1
def ress (l : List Nat) (σ : Va) : List Asrt := l.flatMap fun k => (dn T k).R σ
def backs (i : Nat) : List Nat := (dn T i).av.filter fun k => !((dn T k).c == some i)

/-- The looks that pay: number T.length - 1 = ops.length is the start's own resources. -/
def dagB : Bool :=
  (T.length == ops.length + 1) && (dn T ops.length).D.isEmpty && (List.range ops.length).all (fun i => match ops[i]? with
    | some o => o.guard.isNone && (match o.dst with | some d => Nat.blt d N | none => true) &&
      ((List.range ops.length).all fun j => (i == j) || (dst ops j).isNone || !(dst ops j == o.dst)) | none => false) &&
  (List.range ops.length).all (fun i => (dn T i).D.all (fun j => Nat.blt j i) && decide ((dn T i).av.Nodup) && (dn T i).av.all (fun k => ((k == ops.length) || (dn T i).D.contains k) && (match (dn T k).c with
    | none => true
    | some j => (j == i) || (dn T j).D.contains i))) &&
  (List.range (ops.length + 1)).all fun k => match (dn T k).c with
    | none => true
    | some j => Nat.blt j ops.length && (dn T j).av.contains k

/-- The triple of operation i. -/
def Tri (i : Nat) (o : Oper) : Prop := ∀ a w σ (G : Gh) X, GL gk G0 G → Fr N a (sees ops L0 T i σ) → (∀ j ∈ (dn T i).D, (dn T j).φ G σ) → St w0 F G w (ress T (dn T i).av σ ++ (H ++ X)) →
  o.wp P a w (fun a' w' => ∃ v G', a' = a.put o.dst v ∧ GL gk G G' ∧ (dn T i).φ G' (up σ i v) ∧ St w0 F G' w' ((dn T i).R (up σ i v) ++ (ress T (backs T i) σ ++ (H ++ X)))) fun _ _ _ => False
def Tris : Nat → List Oper → Prop
  | _, [] => True
  | i, o :: r => Tri P ops N L0 T w0 F gk G0 H i o ∧ Tris (i + 1) r
/-- Facts and resources of an operation lean on what it waits for, and on itself. -/
def Locs : Prop := ∀ i, i ≤ ops.length → (∀ σ τ : Va, (∀ k, k = i ∨ k ∈ (dn T i).D → σ k = τ k) → (dn T i).R σ = (dn T i).R τ ∧ ∀ G, (dn T i).φ G σ → (dn T i).φ G τ) ∧ ∀ (G G' : Gh) σ, G.le G' → (dn T i).φ G σ → (dn T i).φ G' σ
end

theorem lk_mem {t : Nat} {v : Value} : ∀ {L : List (Nat × Value)}, lk L t = some v → (t, v) ∈ L
  | [], h => by simp [lk] at h
  | (k, u) :: r, h => by
    simp only [lk] at h
    cases hb : Nat.beq k t
    · rw [hb] at h
      exact List.mem_cons_of_mem _ (lk_mem (by simpa using h))
    · rw [hb] at h
      have e := Nat.eq_of_beq_eq_true hb
      subst e
      simp only [cond_true, Option.some.injEq] at h
      subst h
      exact List.mem_cons_self
theorem lk_append {t : Nat} : ∀ {A B : List (Nat × Value)}, lk (A ++ B) t = (lk A t).or (lk B t)
  | [], B => by simp [lk]
  | (k, u) :: r, B => by
    simp only [List.cons_append, lk]
    cases hb : Nat.beq k t
    · simpa using lk_append (A := r) (B := B)
    · simp
theorem lk_filter {t : Nat} (p : Nat → Bool) : ∀ {L : List (Nat × Value)}, lk (L.filter fun q => p q.1) t = if p t then lk L t else none
  | [] => by simp [lk]
  | (k, u) :: r => by
    simp only [List.filter_cons, lk]
    have ih := lk_filter p (t := t) (L := r)
    cases hb : Nat.beq k t
    · split
      · simpa [lk, hb] using ih
      · simpa using ih
    · have e := Nat.eq_of_beq_eq_true hb
      subst e
      split
      · rename_i h; simp [lk]
      · rename_i h; rw [ih]; simp [h]

section
variable {P : Program} {l : List Oper} {N : Nat} {L0 : List (Nat × Value)} {T : List Dn} {w0 : World} {F : Nat → Prop} {gk : Bool} {G0 : Gh} {H : List Asrt}

def pres (l : List Oper) (T : List Dn) (ld : Nat → Bool) (k : Nat) : Bool := ((k == l.length) || ld k) && (match (dn T k).c with
  | none => true
  | some j => !ld j)
def pl_ (l : List Oper) (T : List Dn) (ld : Nat → Bool) : List Nat := (List.range (l.length + 1)).filter (pres l T ld)

def DagI (l : List Oper) (N : Nat) (L0 : List (Nat × Value)) (T : List Dn) (w0 : World) (F : Nat → Prop) (gk : Bool) (G0 : Gh) (H : List Asrt) (ld : Nat → Bool) (a : Act) (w : World) : Prop :=
  ∃ σ G, GL gk G0 G ∧ a.tmps.size = N ∧ a.defers = [] ∧ (∀ t v, lk L0 t = some v → (∀ j, ld j = true → dst l j ≠ some t) → a.tmps[t]? = some v) ∧
    (∀ j, ld j = true → ∀ d, dst l j = some d → a.tmps[d]? = some (σ j)) ∧ (∀ j, ld j = true ∨ j = l.length → (dn T j).φ G σ) ∧ St w0 F G w (ress T (pl_ l T ld) σ ++ H)

theorem Tris.at {o : Oper} : ∀ {r : List Oper} {k i : Nat}, Tris P l N L0 T w0 F gk G0 H k r → r[i]? = some o → Tri P l N L0 T w0 F gk G0 H (k + i) o
  | [], _, _, _, h => by simp at h
  | o' :: r, k, 0, h, h' => by
    simp only [List.getElem?_cons_zero, Option.some.injEq] at h'
    subst h'
    exact h.1
  | o' :: r, k, i + 1, h, h' => by
    have := Tris.at (i := i) h.2 (by simpa using h')
    rwa [show k + 1 + i = k + (i + 1) by omega] at this

theorem ress_append (T : List Dn) (A B : List Nat) (σ : Va) : ress T (A ++ B) σ = ress T A σ ++ ress T B σ := by simp [ress]
theorem nodup_filter {p : Nat → Bool} {A : List Nat} (h : A.Nodup) : (A.filter p).Nodup := List.Sublist.nodup List.filter_sublist h

theorem dag_step {Q : Exit → Act → World → Prop} (hB : dagB l N T = true) (hloc : Locs l T) (ht : Tris P l N L0 T w0 F gk G0 H 0 l) (ld : Nat → Bool) (a : Act) (w : World) (i : Nat) (hi : i < l.length) (hld : ld i = false)
    (hD : ∀ j ∈ (dn T i).D, ld j = true) (hlt : ∀ j, ld j = true → j < l.length) (hC : ∀ j, ld j = true → ∀ k ∈ (dn T j).D, ld k = true) (hI : DagI l N L0 T w0 F gk G0 H ld a w) :
    wpOp P l.toArray Q i (DagI l N L0 T w0 F gk G0 H (upb ld i)) a w := by
  obtain ⟨σ, G, hG, hsz, hdf, hbase, hval, hfact, HS⟩ := hI
  simp only [dagB, Bool.and_eq_true, List.all_eq_true, List.mem_range, decide_eq_true_eq] at hB
  obtain ⟨⟨⟨⟨hlen, hDn⟩, hops⟩, havs⟩, hcs⟩ := hB
  have ho : l[i]? = some l[i] := by simp [hi]
  have hop := hops i hi
  rw [ho] at hop
  simp only [Bool.and_eq_true, List.all_eq_true, List.mem_range, Option.isNone_iff_eq_none] at hop
  obtain ⟨⟨hg, hdN⟩, huniq⟩ := hop
  obtain ⟨⟨hDlt, hnd⟩, hav⟩ := havs i hi
  have hdi : dst l i = l[i].dst := by simp [dst, ho]
  have hne : ∀ j, ld j = true → j ≠ i := fun j hj e => by subst e; rw [hld] at hj; cases hj
  -- the slots that it sees
  have HFr : Fr N a (sees l L0 T i σ) := by
    refine ⟨hsz, hdf, fun t v hv => ?_⟩
    unfold sees at hv
    rw [lk_append] at hv
    cases h1 : lk ((dn T i).D.filterMap fun j => (dst l j).map fun d => (d, σ j)) t with
    | some u =>
      rw [h1] at hv
      simp only [Option.some_or, Option.some.injEq] at hv
      subst hv
      have := lk_mem h1
      simp only [List.mem_filterMap, Option.map_eq_some_iff, Prod.mk.injEq] at this
      obtain ⟨j, hj, d, hd, rfl, rfl⟩ := this
      exact hval j (hD j hj) d hd
    | none =>
      rw [h1] at hv
      simp only [Option.none_or] at hv
      rw [lk_filter (fun t => baseOk l T i t)] at hv
      split at hv
      · rename_i hok
        refine hbase t v hv fun j hj he => ?_
        unfold baseOk at hok
        have := (List.all_eq_true.1 hok) j (List.mem_range.2 (hlt j hj))
        rw [he] at this
        simp only [Nat.beq_refl, Bool.not_true, Bool.false_or, Bool.or_eq_true, beq_iff_eq, List.contains_eq_mem, decide_eq_true_eq] at this
        rcases this with e | e
        · exact hne j hj e.symm
        · have := hC j hj i e
          rw [hld] at this; cases this
      · cases hv
  -- the resources at hand
  have hpav : ∀ k ∈ (dn T i).av, pres l T ld k = true := by
    intro k hk
    have h1 := hav k hk
    simp only [Bool.or_eq_true, beq_iff_eq, List.contains_eq_mem, decide_eq_true_eq] at h1
    simp only [pres, Bool.and_eq_true, Bool.or_eq_true, beq_iff_eq]
    refine ⟨h1.1.imp id (hD k), ?_⟩
    cases hc : (dn T k).c with
    | none => rfl
    | some j =>
      rw [hc] at h1
      simp only [Bool.or_eq_true, beq_iff_eq, decide_eq_true_eq] at h1
      show (!ld j) = true
      rcases h1.2 with rfl | h2
      · simp [hld]
      · cases hj : ld j with
        | false => rfl
        | true => have := hC j hj i h2; rw [hld] at this; cases this
  have hmem : ∀ k ∈ (dn T i).av, k < l.length + 1 := by
    intro k hk
    have h1 := hav k hk
    simp only [Bool.or_eq_true, beq_iff_eq, List.contains_eq_mem, decide_eq_true_eq] at h1
    rcases h1.1 with rfl | h2
    · omega
    · have := hlt k (hD k h2); omega
  have hp1 : (pl_ l T ld).Perm ((dn T i).av ++ (pl_ l T ld).filter fun k => !(dn T i).av.contains k) := by
    refine (List.perm_ext_iff_of_nodup (nodup_filter List.nodup_range) ?_).2 fun k => ?_
    · rw [List.nodup_append]
      refine ⟨hnd, nodup_filter (nodup_filter List.nodup_range), fun x hx y hy e => ?_⟩
      subst e
      simp only [List.mem_filter, Bool.not_eq_true', List.contains_eq_mem, decide_eq_false_iff_not] at hy
      exact hy.2 hx
    · constructor
      · intro hk
        by_cases h : k ∈ (dn T i).av
        · exact List.mem_append.2 (.inl h)
        · exact List.mem_append.2 (.inr (List.mem_filter.2 ⟨hk, by simpa using h⟩))
      · intro h
        rcases List.mem_append.1 h with hk | hk
        · exact List.mem_filter.2 ⟨List.mem_range.2 (hmem k hk), hpav k hk⟩
        · exact (List.mem_filter.1 hk).1
  have HS1 : St w0 F G w (ress T (dn T i).av σ ++ (H ++ ress T ((pl_ l T ld).filter fun k => !(dn T i).av.contains k) σ)) := by
    refine HS.perm ?_
    refine ((List.Perm.flatMap_right _ hp1).append_right H).trans ?_
    rw [← ress, ress_append, List.append_assoc]
    exact (List.perm_append_comm).append_left _
  have htri := Tris.at (i := i) ht ho
  rw [Nat.zero_add] at htri
  have hw := htri a w σ G _ hG HFr (fun j hj => hfact j (.inl (hD j hj))) HS1
  -- on
  unfold wpOp
  rw [show l.toArray[i]? = some l[i] by simp]
  show if Region.wanted l[i] (yielded l.toArray a.tmps) = true then _ else _
  rw [if_pos (by simp [Region.wanted, hg])]
  refine .inl ?_
  have hwe : (l[i]).wp P a w (DagI l N L0 T w0 F gk G0 H (upb ld i)) (fun _ _ _ => False) := by
    refine Oper.wp_mono ?_ hw
    rintro a' w' ⟨v, G', rfl, hle, hφ, HS'⟩
    have hσ : ∀ j, j ≠ i → up σ i v j = σ j := fun j hj => by simp [up, hj]
    have hloc' : ∀ j, (ld j = true ∨ j = l.length) → (dn T j).R σ = (dn T j).R (up σ i v) ∧ ∀ G, (dn T j).φ G σ → (dn T j).φ G (up σ i v) := by
      intro j hj
      have hjle : j ≤ l.length := by
        rcases hj with h | rfl
        · exact Nat.le_of_lt (hlt j h)
        · exact Nat.le_refl _
      refine (hloc j hjle).1 _ _ fun k hk => (hσ k ?_).symm
      rcases hk with rfl | hk
      · rcases hj with h | rfl
        · exact hne k h
        · omega
      · rintro rfl
        rcases hj with h | rfl
        · have := hC j h k hk; rw [hld] at this; cases this
        · rw [List.isEmpty_iff.1 hDn] at hk; cases hk
    refine ⟨up σ i v, G', hG.trans hle, ?_, ?_, ?_, ?_, ?_, ?_⟩
    · cases hd : (l[i]).dst <;> simp [Act.put, hsz]
    · cases hd : (l[i]).dst <;> simp [Act.put, hdf]
    · intro t u hu hno
      have h1 := hbase t u hu fun j hj => hno j (by unfold upb; split <;> simp_all)
      have h2 : dst l i ≠ some t := hno i (by simp [upb])
      rw [hdi] at h2
      cases hd : (l[i]).dst with
      | none => simpa [Act.put] using h1
      | some d =>
        simp only [Act.put]
        rw [Array.getElem?_setIfInBounds_ne (fun e => h2 (by rw [hd, e]))]
        exact h1
    · intro j hj d hd
      by_cases e : j = i
      · subst e
        rw [hdi] at hd
        rw [hd] at hdN ⊢
        simp only [Nat.blt_eq] at hdN
        simp [Act.put, up, show d < a.tmps.size by omega]
      · have hj' : ld j = true := by simpa [upb, e] using hj
        rw [hσ j e]
        have h1 := hval j hj' d hd
        cases hd' : (l[i]).dst with
        | none => simpa [Act.put] using h1
        | some d' =>
          simp only [Act.put]
          have h2 := huniq j (hlt j hj')
          rw [hd, hd'] at h2
          simp only [Option.isNone_some, Bool.or_false, Bool.or_eq_true, beq_iff_eq, Bool.not_eq_true', beq_eq_false_iff_ne, ne_eq, Option.some.injEq] at h2
          rw [Array.getElem?_setIfInBounds_ne (fun e' => (h2.resolve_left (Ne.symm e)) e'.symm)]
          exact h1
    · intro j hj
      by_cases e : j = i
      · subst e; exact hφ
      · have hj' : ld j = true ∨ j = l.length := hj.imp (fun h => by simpa [upb, e] using h) id
        exact (hloc j (by rcases hj' with h | rfl; exact Nat.le_of_lt (hlt j h); exact Nat.le_refl _)).2 _ _ _ hle.1 ((hloc' j hj').2 _ (hfact j hj'))
    · -- the resources behind it
      have hEq : ∀ {A : List Nat}, (∀ k ∈ A, ld k = true ∨ k = l.length) → ress T A σ = ress T A (up σ i v) := by
        intro A hA
        unfold ress
        induction A with
        | nil => rfl
        | cons k r ih =>
          simp only [List.flatMap_cons]
          rw [(hloc' k (hA k List.mem_cons_self)).1, ih fun k hk => hA k (List.mem_cons_of_mem _ hk)]
      have hpr : ∀ k, pres l T ld k = true → ld k = true ∨ k = l.length := fun k hk => by
        simp only [pres, Bool.and_eq_true, Bool.or_eq_true, beq_iff_eq] at hk
        exact hk.1.symm
      rw [hEq (A := backs T i) fun k hk => hpr k (hpav k (List.mem_filter.1 hk).1), hEq (A := (pl_ l T ld).filter fun k => !(dn T i).av.contains k) fun k hk => hpr k (List.mem_filter.1 (List.mem_filter.1 hk).1).2] at HS'
      refine HS'.perm ?_
      have hp2 : (i :: (backs T i ++ (pl_ l T ld).filter fun k => !(dn T i).av.contains k)).Perm (pl_ l T (upb ld i)) := by
        have hni : ∀ k, pres l T ld k = true → k ≠ i := fun k hk e => by
          subst e
          rcases hpr k hk with h | h
          · rw [hld] at h; cases h
          · omega
        refine (List.perm_ext_iff_of_nodup ?_ (nodup_filter List.nodup_range)).2 fun k => ?_
        · rw [List.nodup_cons, List.nodup_append]
          refine ⟨fun h => ?_, nodup_filter hnd, nodup_filter (nodup_filter List.nodup_range), fun x hx y hy e => ?_⟩
          · rcases List.mem_append.1 h with h | h
            · exact hni i (hpav i (List.mem_filter.1 h).1) rfl
            · exact hni i (List.mem_filter.1 (List.mem_filter.1 h).1).2 rfl
          · subst e
            simp only [List.mem_filter, Bool.not_eq_true', List.contains_eq_mem, decide_eq_false_iff_not] at hy
            exact hy.2 (List.mem_filter.1 hx).1
        · simp only [List.mem_cons, List.mem_append, backs, pl_, List.mem_filter, List.mem_range, Bool.not_eq_true', List.contains_eq_mem, decide_eq_false_iff_not, beq_eq_false_iff_ne, ne_eq]
          constructor
          · rintro (rfl | ⟨hk, hc⟩ | ⟨⟨hk, hpk⟩, hna⟩)
            · refine ⟨by omega, ?_⟩
              simp only [pres, upb, Bool.and_eq_true, Bool.or_eq_true, beq_iff_eq, if_true]
              refine ⟨.inr trivial, ?_⟩
              cases hc : (dn T k).c with
              | none => rfl
              | some j =>
                show (!if j = k then true else ld j) = true
                have hj := hcs k (by omega)
                rw [hc] at hj
                simp only [Bool.and_eq_true, Nat.blt_eq, List.contains_eq_mem, decide_eq_true_eq] at hj
                have hkd := (havs j hj.1).2 k hj.2
                simp only [Bool.or_eq_true, beq_iff_eq, List.contains_eq_mem, decide_eq_true_eq] at hkd
                have hkD : k ∈ (dn T j).D := hkd.1.resolve_left (by omega)
                have hne' : j ≠ k := by
                  rintro rfl
                  have := (havs j hi).1.1 j hkD
                  simp [Nat.blt_eq] at this
                rw [if_neg hne']
                cases hj' : ld j with
                | false => rfl
                | true => have := hC j hj' k hkD; rw [hld] at this; cases this
            · refine ⟨hmem k hk, ?_⟩
              have hpk := hpav k hk
              simp only [pres, Bool.and_eq_true, Bool.or_eq_true, beq_iff_eq] at hpk ⊢
              refine ⟨hpk.1.imp id fun h => by simp [upb, h], ?_⟩
              cases hc' : (dn T k).c with
              | none => rfl
              | some j =>
                rw [hc'] at hpk hc
                show (!upb ld i j) = true
                have : j ≠ i := fun e => hc (by rw [e])
                simpa [upb, this] using hpk.2
            · refine ⟨hk, ?_⟩
              simp only [pres, Bool.and_eq_true, Bool.or_eq_true, beq_iff_eq] at hpk ⊢
              refine ⟨hpk.1.imp id fun h => by simp [upb, h], ?_⟩
              cases hc' : (dn T k).c with
              | none => rfl
              | some j =>
                rw [hc'] at hpk
                show (!upb ld i j) = true
                have : j ≠ i := by
                  rintro rfl
                  have hj := hcs k hk
                  rw [hc'] at hj
                  simp only [Bool.and_eq_true, List.contains_eq_mem, decide_eq_true_eq] at hj
                  exact hna hj.2
                simpa [upb, this] using hpk.2
          · rintro ⟨hk, hpk⟩
            by_cases e : k = i
            · exact .inl e
            · refine .inr ?_
              have hpo : pres l T ld k = true ∧ (dn T k).c ≠ some i := by
                simp only [pres, Bool.and_eq_true, Bool.or_eq_true, beq_iff_eq] at hpk ⊢
                refine ⟨⟨hpk.1.imp id fun h => by simpa [upb, e] using h, ?_⟩, ?_⟩
                · cases hc' : (dn T k).c with
                  | none => rfl
                  | some j =>
                    rw [hc'] at hpk
                    have h2 : (!upb ld i j) = true := hpk.2
                    show (!ld j) = true
                    simp only [upb] at h2
                    split at h2
                    · cases h2
                    · exact h2
                · intro hc'
                  rw [hc'] at hpk
                  have h2 : (!upb ld i i) = true := hpk.2
                  simp [upb] at h2
              by_cases h : k ∈ (dn T i).av
              · exact .inl ⟨h, hpo.2⟩
              · exact .inr ⟨⟨hk, hpo.1⟩, h⟩
      have hp3 := (List.Perm.flatMap_right (fun k => (dn T k).R (up σ i v)) hp2).append_right H
      refine List.Perm.trans ?_ hp3
      simp only [List.flatMap_cons, List.flatMap_append, List.append_assoc, ress]
      exact ((List.perm_append_comm (l₁ := H)).append_left _).append_left _
  unfold Oper.wp at hwe ⊢
  generalize (execOp a.eval l[i]).run P w = r at hwe ⊢
  cases r with
  | ok n w' =>
    cases n <;> simp only [Oper.upon] at hwe ⊢ <;> first
      | exact hwe
      | exact Calls.mono hwe (fun e w'' he => by cases e <;> first | exact he | exact he.elim | (obtain ⟨_, _, h⟩ := he; exact h.elim))
  | halt x w' => cases x <;> simp only [Oper.upon] at hwe ⊢ <;> exact hwe.elim

/-- **A REGION THAT DRAWS ITS ORDER, BY THE TRIPLES OF ITS OPERATIONS.** -/
theorem dag {id : Nat} {a : Act} {w : World} {Q : Exit → Act → World → Prop} {G : Gh} (T : List Dn) (hm : P.follows .mixedOrders = true) (hD : closedB l.toArray (fun i => (dn T i).D) = true) (hB : dagB l N T = true) (hloc : Locs l T)
    (σ0 : Va) (HF : Fr N a L0) (hφ : (dn T l.length).φ G σ0) (HS : St w0 F G w ((dn T l.length).R σ0 ++ H)) (gk : Bool) (ht : Tris P l N L0 T w0 F gk G H 0 l)
    (fin : ∀ a w σ (G' : Gh), GL gk G G' → Fr N a (((List.range l.length).filterMap fun j => (dst l j).map fun d => (d, σ j)) ++ L0.filter fun p => (List.range l.length).all fun j => !(dst l j == some p.1)) → (∀ i, i ≤ l.length → (dn T i).φ G' σ) →
      St w0 F G' w (ress T ((List.range (l.length + 1)).filter fun k => (dn T k).c.isNone) σ ++ H) → Q .normal a w) : (Code.region id l.toArray true).wp P Q a w := by
  refine wp_region_inv hm (DagI l N L0 T w0 F gk G H) (fun i => (dn T i).D) hD ?_ ?_ ?_
  · have hB' := hB
    simp only [dagB, Bool.and_eq_true, List.all_eq_true, List.mem_range, decide_eq_true_eq] at hB'
    obtain ⟨⟨⟨⟨_, _⟩, _⟩, _⟩, hcs⟩ := hB'
    refine ⟨σ0, G, GL.refl gk G, HF.size, HF.defs, fun t v hv _ => HF.get t v hv, fun j hj => (by cases hj), fun j hj => ?_, ?_⟩
    · rcases hj with h | rfl
      · cases h
      · exact hφ
    · have : pl_ l T (fun _ => false) = [l.length] := by
        unfold pl_
        rw [List.range_succ, List.filter_append]
        have h1 : (List.range l.length).filter (pres l T fun _ => false) = [] := by
          rw [List.filter_eq_nil_iff]
          intro k hk
          have := List.mem_range.1 hk
          simp [pres, show ¬ k = l.length by omega]
        have h2 : pres l T (fun _ => false) l.length = true := by
          simp only [pres, BEq.rfl, Bool.true_or, Bool.true_and]
          cases (dn T l.length).c <;> rfl
        rw [h1, List.filter_cons, h2]
        rfl
      rw [this]
      have HS' := HS.drew
      simpa [ress] using HS'
  · intro ld a w i hi hld hD' hlt hC hI
    exact dag_step hB hloc ht ld a w i (by simpa using hi) hld hD' (fun j hj => by simpa using hlt j hj) hC hI
  · rintro ld a w hall ⟨σ, G', hG, hsz, hdf, hbase, hval, hfact, HS'⟩
    have hB' := hB
    simp only [dagB, Bool.and_eq_true, List.all_eq_true, List.mem_range, decide_eq_true_eq] at hB'
    obtain ⟨⟨⟨⟨_, _⟩, _⟩, _⟩, hcs⟩ := hB'
    have hall' : ∀ i, i < l.length → ld i = true := fun i hi => hall i (by simpa using hi)
    refine fin a w σ G' hG ⟨hsz, hdf, fun t v hv => ?_⟩ (fun i hi => ?_) ?_
    · rw [lk_append] at hv
      cases h1 : lk ((List.range l.length).filterMap fun j => (dst l j).map fun d => (d, σ j)) t with
      | some u =>
        rw [h1] at hv
        simp only [Option.some_or, Option.some.injEq] at hv
        subst hv
        have := lk_mem h1
        simp only [List.mem_filterMap, Option.map_eq_some_iff, Prod.mk.injEq, List.mem_range] at this
        obtain ⟨j, hj, d, hd, rfl, rfl⟩ := this
        exact hval j (hall' j hj) d hd
      | none =>
        rw [h1] at hv
        simp only [Option.none_or] at hv
        rw [lk_filter (fun t => (List.range l.length).all fun j => !(dst l j == some t))] at hv
        split at hv
        · rename_i hok
          refine hbase t v hv fun j hj he => ?_
          rcases Nat.lt_or_ge j l.length with h | h
          · have := (List.all_eq_true.1 hok) j (List.mem_range.2 h)
            rw [he] at this
            simp at this
          · have : dst l j = none := by simp [dst, List.getElem?_eq_none h]
            rw [this] at he; cases he
        · cases hv
    · rcases Nat.lt_or_ge i l.length with h | h
      · exact hfact i (.inl (hall' i h))
      · exact hfact i (.inr (by omega))
    · have : pl_ l T ld = (List.range (l.length + 1)).filter fun k => (dn T k).c.isNone := by
        unfold pl_
        refine List.filter_congr fun k hk => ?_
        have hk := List.mem_range.1 hk
        have h1 : (k == l.length || ld k) = true := by
          rcases Nat.lt_or_ge k l.length with h | h
          · simp [hall' k h]
          · have : k = l.length := by omega
            simp [this]
        unfold pres
        rw [h1]
        cases hc : (dn T k).c with
        | none => rfl
        | some j =>
          have hj := hcs k hk
          rw [hc] at hj
          simp only [Bool.and_eq_true, Nat.blt_eq] at hj
          simp [hall' j hj.1]
      rw [← this]; exact HS'

theorem Tri.ef {i : Nat} {o : Oper} (h : ∀ w σ (G : Gh) X, GL gk G0 G → (∀ j ∈ (dn T i).D, (dn T j).φ G σ) → St w0 F G w (ress T (dn T i).av σ ++ (H ++ X)) →
    Ef P (sees l L0 T i σ) o w fun v w' => ∃ G', GL gk G G' ∧ (dn T i).φ G' (up σ i v) ∧ St w0 F G' w' ((dn T i).R (up σ i v) ++ (ress T (backs T i) σ ++ (H ++ X)))) : Tri P l N L0 T w0 F gk G0 H i o := by
  intro a w σ G X hG HF hφ HS
  refine h w σ G X hG hφ HS N a HF _ _ ?_
  rintro v w' ⟨G', h1, h2, h3⟩
  exact ⟨v, G', rfl, h1, h2, h3⟩
theorem Ef.pu {L : List (Nat × Value)} {o : Oper} {w : World} {v : Value} (h : Pu P L o w v) : Ef P L o w fun u w' => u = v ∧ w' = w := Ef.of_run h
/-- A quiet one: it owns nothing and takes nothing. -/
theorem Tri.pu {i : Nat} {o : Oper} (hav : (dn T i).av = []) (hR : ∀ σ, (dn T i).R σ = []) (h : ∀ w σ (G : Gh) X, GL gk G0 G → (∀ j ∈ (dn T i).D, (dn T j).φ G σ) → St w0 F G w (H ++ X) → ∃ v, Pu P (sees l L0 T i σ) o w v ∧ (dn T i).φ G (up σ i v)) : Tri P l N L0 T w0 F gk G0 H i o := by
  refine Tri.ef fun w σ G X hG hφ HS => ?_
  rw [hav] at HS
  obtain ⟨v, h1, h2⟩ := h w σ G X hG hφ HS
  refine (Ef.pu h1).mono ?_
  rintro _ _ ⟨rfl, rfl⟩
  refine ⟨G, GL.refl gk G, h2, ?_⟩
  rw [hR, show backs T i = [] by simp [backs, hav]]
  exact HS
theorem up_same (σ : Va) (i : Nat) (v : Value) : up σ i v i = v := by simp [up]
def pb : Value → Nat
  | .pointer (some a) => a.block
  | _ => 0
end
end Gp
