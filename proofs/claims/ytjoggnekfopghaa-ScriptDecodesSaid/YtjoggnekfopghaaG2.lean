/- The assertions: a block, a row that is owned, and their like; how they are frozen. -/
import Derived.Test.YtjoggnekfopghaaG
namespace Gp
open Go

/-- Block b is the object o. -/
def ob (b : Nat) (o : Obj) : Asrt := ⟨fun _ w S => S b ∧ w.heap[b]? = some o, fun _ _ _ _ _ h => h, fun _ _ _ _ hk h => ⟨h.1, (hk b h.1).trans h.2⟩⟩
/-- Block b is a row of cells. -/
abbrev blk (b : Nat) (cs : List Value) (t : TypeId) : Asrt := ob b (.cells cs.toArray t (0, 0))
/-- The slice v owns the row of cells xs: n elements of the type e, of size cells each. -/
def own (e : TypeId) (size : Nat) (v : Value) (n : Nat) (xs : List Value) : Asrt :=
  ⟨fun _ w S => w.ownsRow 0 e size v n xs ∧ ∀ g, v.ownBlock = some g → S g, fun _ _ _ _ _ h => h, fun _ w w' S hk h => by
    refine ⟨⟨h.1.1, ?_⟩, h.2⟩
    rcases h.1.2 with hn | ⟨g, cap, cur, rfl, hb, hgg, rest⟩
    · exact .inl hn
    · exact .inr ⟨g, cap, cur, rfl, hb, (hk g (h.2 g rfl)).trans hgg, rest⟩⟩
/-- Two, side by side. -/
def sep (A B : Asrt) : Asrt :=
  ⟨fun G w S => ∃ S1 : Nat → Prop, (∀ k, S1 k → S k) ∧ A.holds G w S1 ∧ B.holds G w (fun k => S k ∧ ¬ S1 k), by
    rintro G G' w S hG ⟨S1, h1, h2, h3⟩
    exact ⟨S1, h1, A.mono _ _ _ _ hG h2, B.mono _ _ _ _ hG h3⟩, by
    rintro G w w' S hk ⟨S1, h1, h2, h3⟩
    exact ⟨S1, h1, A.frame _ _ _ _ (fun k h => hk k (h1 k h)) h2, B.frame _ _ _ _ (fun k h => hk k h.1) h3⟩⟩
def exA {α : Type} (f : α → Asrt) : Asrt :=
  ⟨fun G w S => ∃ x, (f x).holds G w S, fun _ _ _ _ hG ⟨x, h⟩ => ⟨x, (f x).mono _ _ _ _ hG h⟩, fun _ _ _ _ hk ⟨x, h⟩ => ⟨x, (f x).frame _ _ _ _ hk h⟩⟩
/-- A fact on the ghost, or on nothing. -/
def fact (p : Gh → Prop) (hp : ∀ G G' : Gh, G.le G' → p G → p G') : Asrt := ⟨fun G _ _ => p G, fun G G' _ _ hG h => hp G G' hG h, fun _ _ _ _ _ h => h⟩

section
variable {w0 w w' : World} {F : Nat → Prop} {G : Gh} {H L : List Asrt}

theorem St.ob_at {b : Nat} {o : Obj} (h : St w0 F G w (ob b o :: H)) : w.heap[b]? = some o := by
  obtain ⟨_, _, h2, _⟩ := h.star
  exact h2.2
theorem St.mem {b : Nat} {o : Obj} (h : St w0 F G w L) (p : Pick L (ob b o) H) : w.heap[b]? = some o := (h.pick p).ob_at

/-- The block gets another object. -/
theorem St.put {b : Nat} {o o' : Obj} (h : St w0 F G w (ob b o :: H)) (hos : w'.os = w.os) (htape : w'.tape = w.tape) (hout : w'.output = w.output) (hsize : w'.heap.size = w.heap.size)
    (hkeep : ∀ k, k ≠ b → w'.heap[k]? = w.heap[k]?) (hb : w'.heap[b]? = some o') : St w0 F G w' (ob b o' :: H) := by
  refine h.turn hos htape hout (Nat.le_of_eq hsize.symm) fun S hS => ⟨fun k _ hk => hkeep k fun e => hk (e ▸ hS.1), S, fun k hk => .inl hk, hS.1, hb⟩

theorem St.alloc (h : St w0 F G w H) (o : Obj) : St w0 F G (w.alloc o) (ob w.heap.size o :: H) :=
  h.fresh rfl rfl rfl (by simp) (fun k hk => heap_alloc_old w o hk) ⟨(· = w.heap.size), fun k hk => ⟨Nat.le_of_eq hk.symm, by subst hk; simp⟩, rfl, heap_alloc_new w o⟩

theorem St.setCell {b i : Nat} {cs : List Value} {t : TypeId} (h : St w0 F G w (blk b cs t :: H)) (v : Value) : St w0 F G (w.setCell ⟨b, i, none⟩ v) (blk b (cs.set i v) t :: H) := by
  refine h.put rfl rfl rfl (by simp) (fun k hk => heap_setCell_other w _ k v hk) ?_
  have := heap_setCell_same w b i cs.toArray t v h.ob_at
  simpa using this

theorem St.nil_own (h : St w0 F G w H) (e : TypeId) (size : Nat) : St w0 F G w (own e size (.slice none 0 0) 0 [] :: H) :=
  h.fresh rfl rfl rfl (Nat.le_refl _) (fun _ _ => rfl) ⟨fun _ => False, fun _ h => h.elim, World.ownsRow_nil w 0 e size, fun g hg => by simp [Value.ownBlock] at hg⟩

theorem St.owns {e : TypeId} {size : Nat} {v : Value} {n : Nat} {xs : List Value} (h : St w0 F G w (own e size v n xs :: H)) : w.ownsRow 0 e size v n xs := by
  obtain ⟨_, _, h2, _⟩ := h.star
  exact h2.1

theorem St.own_shape {e : TypeId} {size : Nat} {v : Value} {n : Nat} {xs : List Value} (h : St w0 F G w (own e size v n xs :: H)) : ∃ A c, v = .slice A n c ∧ n ≤ c := by
  rcases h.owns.2 with ⟨rfl, rfl⟩ | ⟨g, cap, cur, rfl, _, _, hnc, _⟩
  · exact ⟨none, 0, rfl, Nat.le_refl _⟩
  · exact ⟨_, cap, rfl, hnc⟩
theorem St.sep_ {A B : Asrt} : St w0 F G w (sep A B :: H) ↔ St w0 F G w (A :: B :: H) := by
  constructor
  · intro h
    refine Star.st h ?_
    rintro S ⟨S1, h1, ⟨S2, h2, h3, h4⟩, h5⟩
    exact ⟨S2, fun k hk => h1 k (h2 k hk), h3, fun k => S1 k ∧ ¬ S2 k, fun k hk => ⟨h1 k hk.1, hk.2⟩, h4, h5.weak fun k hk => ⟨⟨hk.1, fun h' => hk.2 (h2 k h')⟩, fun h' => hk.2 h'.1⟩⟩
  · intro h
    refine Star.st h ?_
    rintro S ⟨S1, h1, h2, S2, h3, h4, h5⟩
    refine ⟨fun k => S1 k ∨ S2 k, fun k hk => hk.elim (h1 k) fun h' => (h3 k h').1, ⟨S1, fun k hk => .inl hk, h2, ?_⟩, h5.weak fun k hk => ⟨hk.1.1, fun h' => h'.elim hk.1.2 hk.2⟩⟩
    have : (fun k => (S1 k ∨ S2 k) ∧ ¬ S1 k) = S2 := by
      funext k
      apply propext
      constructor
      · rintro ⟨h' | h', h''⟩
        · exact (h'' h').elim
        · exact h'
      · exact fun h' => ⟨.inr h', (h3 k h').2⟩
    rw [this]; exact h4
theorem St.ex_ {α : Type} {f : α → Asrt} : St w0 F G w (exA f :: H) ↔ ∃ x, St w0 F G w (f x :: H) := by
  constructor
  · intro h
    obtain ⟨S1, h1, ⟨x, h2⟩, h3⟩ := h.star
    exact ⟨x, h.os, h.tape, h.output, h.size, h.old, h.gh, S1, h1, h2, h3⟩
  · rintro ⟨x, h⟩
    obtain ⟨S1, h1, h2, h3⟩ := h.star
    exact ⟨h.os, h.tape, h.output, h.size, h.old, h.gh, S1, h1, ⟨x, h2⟩, h3⟩
theorem St.fact_ {p : Gh → Prop} {hp : ∀ G G' : Gh, G.le G' → p G → p G'} : St w0 F G w (fact p hp :: H) ↔ p G ∧ St w0 F G w H := by
  constructor
  · intro h
    obtain ⟨S1, h1, h2, h3⟩ := h.star
    exact ⟨h2, h.drop⟩
  · rintro ⟨hp', h⟩
    exact ⟨h.os, h.tape, h.output, h.size, h.old, h.gh, fun _ => False, fun _ h => h.elim, hp', h.star.weak fun k hk => ⟨hk, fun h => h⟩⟩

/-- A block is frozen. -/
theorem St.freeze {b : Nat} {o : Obj} (h : St w0 F G w (ob b o :: H)) : ∃ G' : Gh, G.le G' ∧ G' b = some o ∧ St w0 F G' w H := by
  obtain ⟨S1, h1, ⟨h2, h4⟩, h3⟩ := h.star
  have hle : G.le (fun k => if k = b then some o else G k) := fun k o' hk => by
    show (if k = b then some o else G k) = some o'
    split
    · rename_i e
      subst e
      rw [(h1 k h2).2.2] at hk; cases hk
    · exact hk
  refine ⟨fun k => if k = b then some o else G k, hle, by simp, h.os, h.tape, h.output, h.size, h.old, fun k o' hk => ?_, (h3.mono hle).weak fun k hk => ⟨hk.1.1, hk.1.2.1, ?_⟩⟩
  · change (if k = b then some o else G k) = some o' at hk
    split at hk
    · rename_i e; subst e; rw [← hk]; exact h4
    · exact h.gh k o' hk
  · show (if k = b then some o else G k) = none
    rw [if_neg fun e : k = b => hk.2 (e ▸ h2)]
    exact hk.1.2.2

/-- The start of a walk at which nothing may be written and some memory is known. -/
theorem St.start (w : World) (G : Gh) (hG : G.sub w) : St w (fun _ => False) G w [] := ⟨rfl, rfl, rfl, Nat.le_refl _, fun _ _ _ => rfl, hG, trivial⟩
end

/-! ### readings of frozen data -/
/-- At A (a slice's address) lie the cells vs, frozen. -/
def RC (G : Gh) (A : Option Addr) (vs : List Value) : Prop := vs ≠ [] → ∃ b o cs t z, A = some ⟨b, o, none⟩ ∧ G b = some (.cells cs t z) ∧ ∀ j v, vs[j]? = some v → cs[o + j]? = some v
theorem RC.mono {G G' : Gh} (hG : G.le G') {A : Option Addr} {vs : List Value} (h : RC G A vs) : RC G' A vs := fun hne =>
  let ⟨b, o, cs, t, z, h1, h2, h3⟩ := h hne
  ⟨b, o, cs, t, z, h1, hG _ _ h2, h3⟩
/-- v is a slice of n elements of size cells each, vs, frozen. -/
def RS (G : Gh) (size : Nat) (v : Value) (n : Nat) (vs : List Value) : Prop := ∃ A c, v = .slice A n c ∧ n ≤ c ∧ vs.length = n * size ∧ RC G A vs
theorem RS.mono {G G' : Gh} (hG : G.le G') {size : Nat} {v : Value} {n : Nat} {vs : List Value} (h : RS G size v n vs) : RS G' size v n vs :=
  let ⟨A, c, h1, h2, h3, h4⟩ := h
  ⟨A, c, h1, h2, h3, h4.mono hG⟩
theorem RS.nil (G : Gh) (size : Nat) : RS G size (.slice none 0 0) 0 [] := ⟨none, 0, rfl, Nat.le_refl _, by simp, fun h => (h rfl).elim⟩

section
variable {w0 w w' : World} {F : Nat → Prop} {G : Gh} {H L : List Asrt}
/-- An owned row is frozen. -/
theorem St.freezeOwn {e : TypeId} {size : Nat} {v : Value} {n : Nat} {xs : List Value} (h : St w0 F G w (own e size v n xs :: H)) : ∃ G' : Gh, G.le G' ∧ RS G' size v n xs ∧ St w0 F G' w H := by
  have ho := h.owns
  rcases ho.2 with ⟨rfl, rfl⟩ | ⟨g, cap, cur, rfl, _, hg, hnc, _, hcs, ht⟩
  · have hx : xs = [] := List.eq_nil_of_length_eq_zero (by simpa using ho.1)
    subst hx
    exact ⟨G, Gh.le.refl G, RS.nil G size, h.drop⟩
  · have h' : St w0 F G w (ob g (.cells cur e (0, 0)) :: H) := h.imp fun S hS => ⟨S, fun _ hk => hk, hS.2 g rfl, hg⟩
    obtain ⟨G', h1, h2, h3⟩ := h'.freeze
    refine ⟨G', h1, ⟨_, cap, rfl, hnc, ho.1, fun _ => ⟨g, 0, cur, e, (0, 0), rfl, h2, fun j u hu => ?_⟩⟩, h3⟩
    rw [← ht, List.getElem?_take] at hu
    split at hu
    · simpa using hu
    · cases hu
/-- A frozen cell, read now. -/
theorem St.gcell (h : St w0 F G w H) {b i : Nat} {cs : Array Value} {t : TypeId} {z : Nat × Nat} {v : Value} (hG : G b = some (.cells cs t z)) (hv : cs[i]? = some v) : w.cell? ⟨b, i, none⟩ = some v := by
  rw [cell_of_row w b i cs t z (h.gh b _ hG)]; exact hv
theorem St.rc (h : St w0 F G w H) {A : Option Addr} {vs : List Value} (hr : RC G A vs) {j : Nat} {v : Value} (hv : vs[j]? = some v) : ∃ b o, A = some ⟨b, o, none⟩ ∧ w.cell? ⟨b, o + j, none⟩ = some v := by
  obtain ⟨b, o, cs, t, z, h1, h2, h3⟩ := hr (fun e => by subst e; simp at hv)
  exact ⟨b, o, h1, h.gcell h2 (h3 j v hv)⟩
end
attribute [irreducible] ob own sep exA fact
end Gp
