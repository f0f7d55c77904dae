/- Memory as resources: a list of assertions with disjoint footprints, a ghost of frozen blocks, and what of the entry's world is kept. No program in sight. -/
import Derived.WalkKit
import Derived.Deep.LoopGhost
import Derived.Deep.Quiet
import Derived.Maps.AppendAt
namespace Gp
open Go

/-- The frozen blocks: what they hold, for good. -/
abbrev Gh := Nat → Option Obj
def Gh.le (G G' : Gh) : Prop := ∀ k o, G k = some o → G' k = some o
def Gh.sub (G : Gh) (w : World) : Prop := ∀ k o, G k = some o → w.heap[k]? = some o
theorem Gh.le.refl (G : Gh) : G.le G := fun _ _ h => h
theorem Gh.le.trans {A B C : Gh} (h : A.le B) (k : B.le C) : A.le C := fun _ _ e => k _ _ (h _ _ e)

structure Asrt where
  holds : Gh → World → (Nat → Prop) → Prop
  mono : ∀ G G' w S, G.le G' → holds G w S → holds G' w S
  frame : ∀ G w w' S, (∀ k, S k → w'.heap[k]? = w.heap[k]?) → holds G w S → holds G w' S

/-- All of them, one beside the other, within S. -/
def Star (G : Gh) (w : World) : List Asrt → (Nat → Prop) → Prop
  | [], _ => True
  | A :: L, S => ∃ S1, (∀ k, S1 k → S k) ∧ A.holds G w S1 ∧ Star G w L (fun k => S k ∧ ¬ S1 k)

theorem Star.weak {G : Gh} {w : World} : ∀ {L : List Asrt} {S S' : Nat → Prop}, (∀ k, S k → S' k) → Star G w L S → Star G w L S'
  | [], _, _, _, _ => trivial
  | _ :: _, _, _, h, ⟨S1, h1, h2, h3⟩ => ⟨S1, fun k hk => h k (h1 k hk), h2, Star.weak (fun k hk => ⟨h k hk.1, hk.2⟩) h3⟩
theorem Star.mono {G G' : Gh} {w : World} (hG : G.le G') : ∀ {L : List Asrt} {S : Nat → Prop}, Star G w L S → Star G' w L S
  | [], _, _ => trivial
  | A :: _, _, ⟨S1, h1, h2, h3⟩ => ⟨S1, h1, A.mono _ _ _ _ hG h2, Star.mono hG h3⟩
theorem Star.frame {G : Gh} {w w' : World} : ∀ {L : List Asrt} {S : Nat → Prop}, (∀ k, S k → w'.heap[k]? = w.heap[k]?) → Star G w L S → Star G w' L S
  | [], _, _, _ => trivial
  | A :: _, _, h, ⟨S1, h1, h2, h3⟩ => ⟨S1, h1, A.frame _ _ _ _ (fun k hk => h k (h1 k hk)) h2, Star.frame (fun k hk => h k hk.1) h3⟩

/-- The state of a walk: entered in w0 with leave to write F; G is frozen; w is the world now, H what is at hand in it. -/
structure St (w0 : World) (F : Nat → Prop) (G : Gh) (w : World) (H : List Asrt) : Prop where
  os : w.os = w0.os
  tape : w.tape = w0.tape
  output : w.output = w0.output
  size : w0.heap.size ≤ w.heap.size
  old : ∀ k, k < w0.heap.size → ¬ F k → w.heap[k]? = w0.heap[k]?
  gh : G.sub w
  star : Star G w H (fun k => k < w.heap.size ∧ (F k ∨ w0.heap.size ≤ k) ∧ G k = none)

section
variable {w0 w w' : World} {F : Nat → Prop} {G : Gh} {H : List Asrt} {A B : Asrt}

theorem St.drew (h : St w0 F G w H) : St w0 F G w.drew H := ⟨h.os, h.tape, h.output, h.size, h.old, h.gh, (h.star.frame (w := w) (w' := w.drew) fun _ _ => rfl : Star G w.drew H _)⟩
theorem St.drewN (h : St w0 F G w H) (n : Nat) : St w0 F G (w.drewN n) H := ⟨h.os, h.tape, h.output, h.size, h.old, h.gh, (h.star.frame (w := w) (w' := w.drewN n) fun _ _ => rfl : Star G (w.drewN n) H _)⟩

/-- THE STEP: the resource at the head turns, nothing else does but what is new. -/
theorem St.turn (h : St w0 F G w (A :: H)) (hos : w'.os = w.os) (htape : w'.tape = w.tape) (hout : w'.output = w.output) (hsize : w.heap.size ≤ w'.heap.size)
    (hB : ∀ S, A.holds G w S → (∀ k, k < w.heap.size → ¬ S k → w'.heap[k]? = w.heap[k]?) ∧ ∃ S', (∀ k, S' k → S k ∨ (w.heap.size ≤ k ∧ k < w'.heap.size)) ∧ B.holds G w' S') : St w0 F G w' (B :: H) := by
  obtain ⟨S, hS, hA, hrest⟩ := h.star
  obtain ⟨hkeep, S', hS', hB'⟩ := hB S hA
  have hgh : G.sub w' := fun k o ho => by
    have hk := h.gh k o ho
    have hlt : k < w.heap.size := by
      rcases Nat.lt_or_ge k w.heap.size with h' | h'
      · exact h'
      · rw [Array.getElem?_eq_none h'] at hk; cases hk
    rw [hkeep k hlt (fun hs => by have := (hS k hs).2.2; rw [ho] at this; cases this)]
    exact hk
  have hnone : ∀ k, w.heap.size ≤ k → G k = none := fun k hk => by
    rcases hg : G k with _ | o
    · rfl
    · have := h.gh k o hg
      rw [Array.getElem?_eq_none hk] at this; cases this
  refine ⟨hos.trans h.os, htape.trans h.tape, hout.trans h.output, Nat.le_trans h.size hsize, fun k hk hF => ?_, hgh, S', fun k hk => ?_, hB', ?_⟩
  · rw [hkeep k (Nat.lt_of_lt_of_le hk h.size) (fun hs => ?_)]
    · exact h.old k hk hF
    · rcases (hS k hs).2.1 with h' | h'
      · exact hF h'
      · omega
  · rcases hS' k hk with h' | ⟨h', h''⟩
    · exact ⟨Nat.lt_of_lt_of_le (hS k h').1 hsize, (hS k h').2⟩
    · exact ⟨h'', .inr (Nat.le_trans h.size h'), hnone k h'⟩
  · refine Star.weak (S := fun k => (k < w.heap.size ∧ (F k ∨ w0.heap.size ≤ k) ∧ G k = none) ∧ ¬ S k) ?_ (hrest.frame fun k hk => hkeep k hk.1.1 hk.2)
    rintro k ⟨⟨h1, h2, h3⟩, h4⟩
    refine ⟨⟨Nat.lt_of_lt_of_le h1 hsize, h2, h3⟩, fun h5 => ?_⟩
    rcases hS' k h5 with h' | ⟨h', _⟩
    · exact h4 h'
    · omega

/-- Nothing of old turns, something new comes. -/
theorem St.fresh (h : St w0 F G w H) (hos : w'.os = w.os) (htape : w'.tape = w.tape) (hout : w'.output = w.output) (hsize : w.heap.size ≤ w'.heap.size)
    (hkeep : ∀ k, k < w.heap.size → w'.heap[k]? = w.heap[k]?) (hB : ∃ S', (∀ k, S' k → w.heap.size ≤ k ∧ k < w'.heap.size) ∧ B.holds G w' S') : St w0 F G w' (B :: H) := by
  let E : Asrt := ⟨fun _ _ S => ∀ k, ¬ S k, fun _ _ _ _ _ h => h, fun _ _ _ _ _ h => h⟩
  have h' : St w0 F G w (E :: H) := ⟨h.os, h.tape, h.output, h.size, h.old, h.gh, fun _ => False, fun _ h => h.elim, fun _ h => h, h.star.weak fun k hk => ⟨hk, fun h => h⟩⟩
  refine h'.turn hos htape hout hsize fun S hS => ⟨fun k hk _ => hkeep k hk, ?_⟩
  obtain ⟨S', h1, h2⟩ := hB
  exact ⟨S', fun k hk => .inr (h1 k hk), h2⟩

theorem St.imp (h : St w0 F G w (A :: H)) (hB : ∀ S, A.holds G w S → ∃ S', (∀ k, S' k → S k) ∧ B.holds G w S') : St w0 F G w (B :: H) := by
  refine h.turn rfl rfl rfl (Nat.le_refl _) fun S hS => ⟨fun _ _ _ => rfl, ?_⟩
  obtain ⟨S', h1, h2⟩ := hB S hS
  exact ⟨S', fun k hk => .inl (h1 k hk), h2⟩

theorem St.drop (h : St w0 F G w (A :: H)) : St w0 F G w H := by
  obtain ⟨S1, _, _, h3⟩ := h.star
  exact ⟨h.os, h.tape, h.output, h.size, h.old, h.gh, h3.weak fun _ hk => hk.1⟩

theorem Star.swap {S : Nat → Prop} (h : Star G w (A :: B :: H) S) : Star G w (B :: A :: H) S := by
  obtain ⟨S1, h1, h2, S2, h3, h4, h5⟩ := h
  exact ⟨S2, fun k hk => (h3 k hk).1, h4, S1, fun k hk => ⟨h1 k hk, fun h' => (h3 k h').2 hk⟩, h2, h5.weak fun k hk => ⟨⟨hk.1.1, hk.2⟩, hk.1.2⟩⟩
end

/-- L is A and H', in whatever order A stands among them. -/
inductive Pick : List Asrt → Asrt → List Asrt → Prop
  | here {A : Asrt} {H : List Asrt} : Pick (A :: H) A H
  | there {A B : Asrt} {H H' : List Asrt} : Pick H A H' → Pick (B :: H) A (B :: H')
theorem Pick.star {G : Gh} {w : World} {L H : List Asrt} {A : Asrt} (p : Pick L A H) : ∀ {S : Nat → Prop}, Star G w L S → Star G w (A :: H) S := by
  induction p with
  | here => exact fun h => h
  | there p ih =>
    intro S h
    obtain ⟨S1, h1, h2, h3⟩ := h
    exact Star.swap ⟨S1, h1, h2, ih h3⟩
theorem Pick.back {G : Gh} {w : World} {L H : List Asrt} {A : Asrt} (p : Pick L A H) : ∀ {S : Nat → Prop}, Star G w (A :: H) S → Star G w L S := by
  induction p with
  | here => exact fun h => h
  | there p ih =>
    intro S h
    obtain ⟨S1, h1, h2, h3⟩ := Star.swap h
    exact ⟨S1, h1, h2, ih h3⟩
theorem Star.st {w0 w : World} {F : Nat → Prop} {G : Gh} {L L' : List Asrt} (h : St w0 F G w L) (hs : ∀ {S : Nat → Prop}, Star G w L S → Star G w L' S) : St w0 F G w L' :=
  ⟨h.os, h.tape, h.output, h.size, h.old, h.gh, hs h.star⟩
theorem St.pick {w0 w : World} {F : Nat → Prop} {G : Gh} {L H : List Asrt} {A : Asrt} (h : St w0 F G w L) (p : Pick L A H) : St w0 F G w (A :: H) := Star.st h p.star
theorem St.back {w0 w : World} {F : Nat → Prop} {G : Gh} {L H : List Asrt} {A : Asrt} (h : St w0 F G w (A :: H)) (p : Pick L A H) : St w0 F G w L := Star.st h p.back

/-- In place: L holds A somewhere; L' is L with B there. -/
inductive Upd : List Asrt → Asrt → Asrt → List Asrt → Prop
  | here {A B : Asrt} {H : List Asrt} : Upd (A :: H) A B (B :: H)
  | there {A B C : Asrt} {H H' : List Asrt} : Upd H A B H' → Upd (C :: H) A B (C :: H')
theorem Upd.picks {L L' : List Asrt} {A B : Asrt} (u : Upd L A B L') : ∃ H, Pick L A H ∧ Pick L' B H := by
  induction u with
  | here => exact ⟨_, .here, .here⟩
  | there _ ih => obtain ⟨H, h1, h2⟩ := ih; exact ⟨_, .there h1, .there h2⟩
theorem St.upd {w0 w w' : World} {F : Nat → Prop} {G : Gh} {L L' : List Asrt} {A B : Asrt} (h : St w0 F G w L) (u : Upd L A B L') (hh : ∀ H, St w0 F G w (A :: H) → St w0 F G w' (B :: H)) : St w0 F G w' L' := by
  obtain ⟨H, h1, h2⟩ := u.picks
  exact (hh H (h.pick h1)).back h2
/-- L' is what is left of L when some go. -/
inductive Wk : List Asrt → List Asrt → Prop
  | refl {H : List Asrt} : Wk H H
  | cons {A : Asrt} {H H' : List Asrt} : Wk H H' → Wk (A :: H) (A :: H')
  | skip {A : Asrt} {H H' : List Asrt} : Wk H H' → Wk (A :: H) H'
theorem Wk.star {G : Gh} {w : World} {L L' : List Asrt} (p : Wk L L') : ∀ {S : Nat → Prop}, Star G w L S → Star G w L' S := by
  induction p with
  | refl => exact fun h => h
  | cons _ ih => exact fun ⟨S1, h1, h2, h3⟩ => ⟨S1, h1, h2, ih h3⟩
  | skip _ ih => exact fun ⟨_, _, _, h3⟩ => ih (h3.weak fun _ hk => hk.1)
theorem St.wk {w0 w : World} {F : Nat → Prop} {G : Gh} {L L' : List Asrt} (h : St w0 F G w L) (p : Wk L L') : St w0 F G w L' := Star.st h p.star
end Gp
