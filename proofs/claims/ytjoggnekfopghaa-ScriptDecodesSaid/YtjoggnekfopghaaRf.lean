/- Frozen bytes that a cell walks along (the reference's Decode). No program in sight. -/
import Derived.Test.YtjoggnekfopghaaM
import Derived.Test.YtjoggnekfopghaaRd
namespace Gp
open Go

section
variable {P : Program} {N : Nat} {a : Act} {L : List (Nat × Value)} {w0 w : World} {F : Nat → Prop} {G : Gh} {H H' : List Asrt} {ops : Array Oper} {Q : Exit → Act → World → Prop} {rest : List Oper} {o : Oper} {d : Nat} {v : Value}
variable {od : Option Nat} {ty : TypeId} {pos : String} {af : Array Edge} {g : Option (Nat × Bool)}

/-- []byte(s), the bytes frozen at once. -/
theorem g_sb {t t' e : TypeId} {x : Operand} {l : Bs} (HF : Fr N a L) (HS : St w0 F G w H) (hs : P.underlying t = some .string) (hd : P.underlying t' = some (.slice e)) (he : P.underlying e = some (.int .u8)) (hx : opv L x = some (S l)) (hN : d < N)
    (k : ∀ a' w' G' v, Fr N a' ((d, v) :: L) → G.le G' → RS G' 1 v l.length (l.map U) → St w0 F G' w' H → wpList P ops Q rest a' w') : wpList P ops Q (Oper.mk (some d) (.convert t t' x) ty pos af none :: rest) a w :=
  lE HF (e_sb HS hs hd he hx) rfl hN rfl fun v w' ⟨b, c, C, z, hv, hc, hC, _, _, hS⟩ a' HF' => by
    obtain ⟨G', hG, hb, hS⟩ := hS.freeze
    refine k a' w' G' v HF' hG ⟨_, c, hv, hc, by simp, fun _ => ⟨b, 0, C, e, z, rfl, hb, fun j u hu => ?_⟩⟩ hS
    simp only [List.getElem?_map, Option.map_eq_some_iff] at hu
    obtain ⟨q, hq, rfl⟩ := hu
    simpa using hC j q hq
/-- x[i:] of a slice. -/
def sfrom (s i : Nat) : Value → Value
  | .slice A n c => .slice (if c = i then A else A.map (·.add (i * s))) (n - i) (c - i)
  | v => v
theorem p_slf {t e : TypeId} {x y : Operand} {A : Option Addr} {n c i s : Nat} {k : IntKind} {m : Int} (ht : sle P t = some (e, s)) (hx : opv L x = some (.slice A n c)) (hy : opv L y = some (.int k m)) (hm : m = (i : Int)) (hi : i ≤ n) : Pu P L (Oper.mk od (.slice t x (some y) none none) ty pos af g) w (sfrom s i (.slice A n c)) := fun N a hF => by
  subst hm
  obtain ⟨h1, h2⟩ := sle_run ht
  simp [execOp, hF.eval hx, hF.eval hy, Instr.sliceAt, Instr.slice, run_underlying h1, Instr.sliceBounds, Instr.sliceBound, asIntOf, hi, tsz_run h2, sfrom]
theorem RS.tail {s n i : Nat} {v : Value} {vs : List Value} (h : RS G s v n vs) (hi : i ≤ n) : RS G s (sfrom s i v) (n - i) (vs.drop (i * s)) := by
  obtain ⟨A, c, rfl, hc, hl, hr⟩ := h
  refine ⟨_, c - i, rfl, by omega, by rw [List.length_drop, hl, Nat.sub_mul], fun hne => ?_⟩
  have h1 : vs ≠ [] := by rintro rfl; simp at hne
  obtain ⟨b, o, cs, t, z, rfl, hb, hx⟩ := hr h1
  by_cases e : c = i
  · have : n = i := by omega
    subst this
    exfalso; apply hne
    rw [← hl]; exact List.drop_length
  · refine ⟨b, o + i * s, cs, t, z, by rw [if_neg e]; simp [Addr.add], hb, fun j u hu => ?_⟩
    rw [List.getElem?_drop] at hu
    have := hx _ _ hu
    rw [Nat.add_assoc]; exact this
/-- Block bb holds a slice of the bytes s, frozen. -/
def bcur (t : TypeId) (bb : Nat) (s : Bs) : Asrt :=
  ⟨fun G w S => ∃ v, RS G 1 v s.length (s.map U) ∧ (blk bb [v] t).holds G w S, fun _ _ _ _ hG ⟨v, h1, h2⟩ => ⟨v, h1.mono hG, (blk bb [v] t).mono _ _ _ _ hG h2⟩, fun _ _ _ _ hk ⟨v, h1, h2⟩ => ⟨v, h1, (blk bb [v] t).frame _ _ _ _ hk h2⟩⟩
theorem St.bc_ {t : TypeId} {bb : Nat} {s : Bs} (h : St w0 F G w (bcur t bb s :: H)) : ∃ v, RS G 1 v s.length (s.map U) ∧ St w0 F G w (blk bb [v] t :: H) := by
  obtain ⟨S1, h1, ⟨v, h2, h2'⟩, h3⟩ := h.star
  exact ⟨v, h2, h.os, h.tape, h.output, h.size, h.old, h.gh, S1, h1, h2', h3⟩
theorem St.bc {t : TypeId} {bb : Nat} {s : Bs} {v : Value} (hv : RS G 1 v s.length (s.map U)) (h : St w0 F G w (blk bb [v] t :: H)) : St w0 F G w (bcur t bb s :: H) :=
  h.imp fun S hS => ⟨S, fun _ hk => hk, v, hv, hS⟩
end
end Gp
