/- A region that draws its order, by what holds behind each of its operations: whatever order the tape picks, each operation comes up with the facts of those that it waits for. -/
import Derived.RegionTactic
import Derived.Deep.Draws
namespace Gp
open Go

theorem countP_set {l : List Bool} : ∀ {i : Nat}, l[i]? = some false → (l.set i true).countP id = l.countP id + 1 := by
  induction l with
  | nil => intro i h; simp at h
  | cons b r ih =>
    intro i h
    cases i with
    | zero => simp at h; subst h; simp
    | succ i =>
      have := ih (i := i) (by simpa using h)
      cases b <;> simp [this]

section
variable {P : Program} {ops : Array Oper} {Q : Exit → Act → World → Prop}

theorem wpAny_inv (I : Array Bool → Act → World → Prop)
    (hs : ∀ listed a w i, listed.size = ops.size → i ∈ Region.ready .any ops listed → I listed a w → wpOp P ops Q i (I (listed.setIfInBounds i true)) a w)
    (he : ∀ listed a w, listed.size = ops.size → Region.ready .any ops listed = [] → I listed a w → Q .normal a w) :
    ∀ (fuel : Nat) (listed : Array Bool) (a : Act) (w : World), listed.size = ops.size → listed.toList.countP id + fuel = ops.size → I listed a w → wpAny P .any ops Q fuel listed a w
  | 0, listed, a, w, hsz, hc, h => by
    have hall : ∀ x ∈ listed.toList, x = true := by
      have : listed.toList.countP id = listed.toList.length := by simpa [hsz] using hc
      simpa using List.countP_eq_length.1 this
    have hnil : Region.ready .any ops listed = [] := by
      rcases hr : Region.ready .any ops listed with _ | ⟨i, r⟩
      · rfl
      · have hi : i ∈ Region.ready .any ops listed := by rw [hr]; exact List.mem_cons_self
        have h1 := (mem_ready.1 hi).1
        rcases Nat.lt_or_ge i listed.size with hlt | hge
        · have h2 := hall listed[i] (by simp)
          simp [Array.getD, hlt, h2] at h1
        · simp [Array.getD, Nat.not_lt.2 hge] at h1
    exact ⟨hnil, he listed a w hsz hnil h⟩
  | fuel + 1, listed, a, w, hsz, hc, h => by
    refine ⟨fun hn => he listed a w hsz hn h, fun i hi => wpOp_mono (fun a' w' h' => ?_) (hs listed a w i hsz hi h)⟩
    have h1 := (mem_ready.1 hi).1
    have hlt : i < listed.size := by
      rcases Nat.lt_or_ge i listed.size with hlt | hge
      · exact hlt
      · simp [Array.getD, Nat.not_lt.2 hge] at h1
    have h2 : listed.toList[i]? = some false := by
      simp [Array.getD, hlt] at h1
      simp [hlt, h1]
    refine wpAny_inv I hs he fuel _ a' w' (by simpa using hsz) ?_ h'
    have := countP_set h2
    simp only [Array.toList_setIfInBounds]
    omega

/-- What operation i waits for, by its own edges. -/
def depsOf (ops : Array Oper) (i : Nat) : List Nat := ((ops[i]?).map fun o => (o.after.toList.filter (Region.binds .any)).map (·.on)).getD []

/-- .. and all that those wait for. -/
def closeD (ops : Array Oper) : Nat → Array (List Nat)
  | 0 => #[]
  | n + 1 => let acc := closeD ops n; acc.push ((depsOf ops n ++ (depsOf ops n).flatMap fun k => acc.getD k []).eraseDups)

/-- The look that pays for what follows: edges lead back; the closure is one. -/
def closedB (ops : Array Oper) (D : Nat → List Nat) : Bool :=
  (List.range ops.size).all fun i => (depsOf ops i).all (· < i) && (D i).all fun j => (depsOf ops i).contains j || (depsOf ops i).any fun k => (D k).contains j

/-- Each operation, in the order of the text, from the facts of those that it waits for. -/
def StepsOk (P : Program) (ops : Array Oper) (Q : Exit → Act → World → Prop) (G : Act → World → Prop) (Φ : Nat → Act → World → Prop) (D : Nat → List Nat) : List Nat → Prop
  | [] => True
  | i :: r => (∀ a w, G a w → (∀ j ∈ D i, Φ j a w) → wpOp P ops Q i (fun a' w' => G a' w' ∧ Φ i a' w' ∧ ∀ j, j < ops.size → Φ j a w → Φ j a' w') a w) ∧ StepsOk P ops Q G Φ D r

theorem StepsOk.at {G : Act → World → Prop} {Φ : Nat → Act → World → Prop} {D : Nat → List Nat} : ∀ {l : List Nat}, StepsOk P ops Q G Φ D l → ∀ i ∈ l,
    ∀ a w, G a w → (∀ j ∈ D i, Φ j a w) → wpOp P ops Q i (fun a' w' => G a' w' ∧ Φ i a' w' ∧ ∀ j, j < ops.size → Φ j a w → Φ j a' w') a w
  | i :: r, h, j, hj => by
    rcases List.mem_cons.1 hj with rfl | hj
    · exact h.1
    · exact StepsOk.at h.2 j hj

theorem getD_set_true {listed : Array Bool} {i j : Nat} (h : (listed.setIfInBounds i true).getD j false = true) : j = i ∨ listed.getD j false = true := by
  by_cases e : i = j
  · exact .inl e.symm
  · refine .inr ?_
    simpa [Array.getD_eq_getD_getElem?, Array.getElem?_setIfInBounds_ne e] using h

theorem set_getD_true {listed : Array Bool} {i j : Nat} (h : listed.getD j false = true) : (listed.setIfInBounds i true).getD j false = true := by
  by_cases e : i = j
  · subst e
    by_cases hlt : i < listed.size
    · simp [Array.getD_eq_getD_getElem?, hlt]
    · simp [Array.getD_eq_getD_getElem?, Array.getElem?_eq_none (Nat.not_lt.1 hlt)] at h
  · simpa [Array.getD_eq_getD_getElem?, Array.getElem?_setIfInBounds_ne e] using h

theorem wp_region_facts {id : Nat} {a0 : Act} {w0 : World} (hm : P.follows .mixedOrders = true) (G : Act → World → Prop) (Φ : Nat → Act → World → Prop) (D : Nat → List Nat) (hD : closedB ops D = true)
    (h0 : G a0 { w0 with drawn := w0.drawn + 1 }) (hs : StepsOk P ops Q G Φ D (List.range ops.size)) (he : ∀ a w, G a w → (∀ i, i < ops.size → Φ i a w) → Q .normal a w) :
    (Code.region id ops true).wp P Q a0 w0 := by
  have hB : ∀ i, i < ops.size → (∀ k ∈ depsOf ops i, k < i) ∧ ∀ j ∈ D i, j ∈ depsOf ops i ∨ ∃ k ∈ depsOf ops i, j ∈ D k := by
    intro i hi
    have := (List.all_eq_true.1 hD) i (List.mem_range.2 hi)
    simpa using this
  refine wp_region_any hm (wpAny_inv (fun listed a w => G a w ∧ (∀ j, j < ops.size → listed.getD j false = true → Φ j a w) ∧ ∀ j, j < ops.size → listed.getD j false = true → ∀ k ∈ D j, listed.getD k false = true) ?_ ?_ ops.size _ a0 _ (by simp) (by simp [List.countP_replicate]) ⟨h0, ?_, ?_⟩)
  · rintro listed a w i hsz hi ⟨hG, hF, hC⟩
    obtain ⟨hun, o, ho, hall⟩ := mem_ready.1 hi
    have hlt : i < ops.size := (Array.getElem?_eq_some_iff.1 ho).1
    have hdep : ∀ k ∈ depsOf ops i, listed.getD k false = true := by
      intro k hk
      simp only [depsOf, ho, Option.map_some, Option.getD_some, List.mem_map, List.mem_filter] at hk
      obtain ⟨e, ⟨hem, hb⟩, rfl⟩ := hk
      exact hall e (by simpa using hem) hb
    have hDl : ∀ j ∈ D i, listed.getD j false = true := by
      intro j hj
      rcases (hB i hlt).2 j hj with h | ⟨k, hk, hjk⟩
      · exact hdep j h
      · exact hC k (Nat.lt_trans ((hB i hlt).1 k hk) hlt) (hdep k hk) j hjk
    have hDlt : ∀ j ∈ D i, j < ops.size := by
      intro j hj
      have h := hDl j hj
      rcases Nat.lt_or_ge j listed.size with h' | h'
      · omega
      · simp [Array.getD_eq_getD_getElem?, Array.getElem?_eq_none h'] at h
    refine wpOp_mono ?_ (hs.at i (List.mem_range.2 hlt) a w hG fun j hj => hF j (hDlt j hj) (hDl j hj))
    rintro a' w' ⟨hG', hi', hk'⟩
    refine ⟨hG', fun j hj hl => ?_, fun j hj hl k hk => ?_⟩
    · rcases getD_set_true hl with rfl | hl
      · exact hi'
      · exact hk' j hj (hF j hj hl)
    · rcases getD_set_true hl with rfl | hl
      · exact set_getD_true (hDl k hk)
      · exact set_getD_true (hC j hj hl k hk)
  · rintro listed a w hsz hnil ⟨hG, hF, _⟩
    refine he a w hG fun i hi => hF i hi ?_
    induction i using Nat.strongRecOn with
    | ind i ih =>
      rcases hb : listed.getD i false with _ | _
      · exfalso
        have ho : ops[i]? = some ops[i] := by simp [hi]
        have hmem : i ∈ Region.ready .any ops listed := by
          refine mem_ready.2 ⟨?_, ops[i], ho, fun e he' hbi => ?_⟩
          · simpa [Array.getD_eq_getD_getElem?, show i < listed.size by omega] using hb
          · have hk : e.on ∈ depsOf ops i := by
              simp only [depsOf, ho, Option.map_some, Option.getD_some, List.mem_map, List.mem_filter]
              exact ⟨e, ⟨by simpa using he', hbi⟩, rfl⟩
            have hlt := (hB i hi).1 _ hk
            exact ih e.on hlt (Nat.lt_trans hlt hi)
        rw [hnil] at hmem
        cases hmem
      · rfl
  · intro j hj hl
    simp [Array.getD_eq_getD_getElem?, hj] at hl
  · intro j hj hl
    simp [Array.getD_eq_getD_getElem?, hj] at hl

end
end Gp
