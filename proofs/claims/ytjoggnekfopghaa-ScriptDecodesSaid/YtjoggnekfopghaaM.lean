/- More rules: maps whose entries are written out. No program in sight. -/
import Derived.Test.YtjoggnekfopghaaKc
import Derived.MapKept
import Derived.Carry
namespace Gp
open Go Go.MapKept

section
variable {P : Program} {N : Nat} {a : Act} {L : List (Nat × Value)} {w0 w : World} {F : Nat → Prop} {G : Gh} {H H' : List Asrt} {ops : Array Oper} {Q : Exit → Act → World → Prop} {rest : List Oper} {o : Oper} {d : Nat} {v : Value}
variable {od : Option Nat} {ty : TypeId} {pos : String} {af : Array Edge} {g : Option (Nat × Bool)}

theorem wp_join {x y : Code} {M : Act → World → Prop} {Q : Exit → Act → World → Prop} (h1 : x.wp P (Exit.then M Q) a w) (h2 : ∀ a w, M a w → y.wp P Q a w) : (Code.seq x y).wp P Q a w := by
  refine wp_seq (wp_mono h1 ?_)
  intro e a w h
  cases e with
  | normal => exact h2 a w h
  | _ => exact h
/-- Block b is a map of these entries. -/
abbrev mp (b : Nat) (es : List MapEntry) (c : Nat) : Asrt := ob b (.map es.toArray c)
theorem e_mkmap {t : TypeId} (HS : St w0 F G w H) : Ef P L (Oper.mk od (.makeMap t none) ty pos af g) w fun v w' => ∃ b, v = .map (some b) ∧ St w0 F G w' (mp b [] 0 :: H) := by
  refine (Ef.of_run (v := .map (some w.heap.size)) (w' := w.alloc (.map #[] 0)) fun N a HF => ?_).mono ?_
  · simp only [execOp, Option.map_none, Sem.run_bind, RowKit.run_makeMap]
    rfl
  · rintro _ _ ⟨rfl, rfl⟩
    exact ⟨_, rfl, HS.alloc _⟩
theorem g_mkmap {t : TypeId} (HF : Fr N a L) (HS : St w0 F G w H) (hN : d < N) (k : ∀ a' w' b, Fr N a' ((d, .map (some b)) :: L) → St w0 F G w' (mp b [] 0 :: H) → wpList P ops Q rest a' w') :
    wpList P ops Q (Oper.mk (some d) (.makeMap t none) ty pos af none :: rest) a w :=
  lE HF (e_mkmap HS) rfl hN rfl fun _ w' ⟨b, hv, hS⟩ a' HF' => k a' w' b (hv ▸ HF') hS
/-- A new entry. -/
theorem e_ins {t kt et : TypeId} {kd : TypeDesc} {m x y : Operand} {b c : Nat} {es : List MapEntry} {kv v : Value} (HS : St w0 F G w H) (ht : P.underlying t = some (.map kt et)) (hk : P.underlying kt = some kd) (hm : opv L m = some (.map (some b))) (hx : opv L x = some kv) (hy : opv L y = some v)
    (hik : IsKey kd kv) (hu : Upd H (mp b es c) (mp b (es ++ [({ key := kv, val := v, born := c } : MapEntry)]) (c + 1)) H') (hf : Instr.findNow kd kv es 0 = some none) : Ef P L (Oper.mk od (.insert t m x y) ty pos af g) w fun _ w' => St w0 F G w' H' := by
  obtain ⟨Hr, p1, p2⟩ := hu.picks
  have hb := HS.mem p1
  refine (Ef.of_skip (w' := { w with heap := w.heap.setIfInBounds b (.map (es ++ [({ key := kv, val := v, born := c } : MapEntry)]).toArray (c + 1)) }) fun N a HF => ?_).mono ?_
  · have h1 : (Instr.mapUpdate t (.map (some b)) kv v).run P w = .ok () { w with heap := w.heap.setIfInBounds b (.map (es ++ [({ key := kv, val := v, born := c } : MapEntry)]).toArray (c + 1)) } := by
      simp only [Instr.mapUpdate, Sem.run_bind, run_underlying ht, Result.andThen_ok, run_getObj_map hb, run_checkKey hk hik, run_findKey hk hf]
      rw [run_setObj_map _ hb]
      simp
    simp only [execOp, HF.eval hm, HF.eval hx, HF.eval hy, Sem.run_bind, h1]
    rfl
  · rintro _ _ ⟨_, rfl⟩
    refine HS.upd hu fun Hr' h => ?_
    obtain ⟨q1, q2⟩ := heap_set (o' := .map (es ++ [({ key := kv, val := v, born := c } : MapEntry)]).toArray (c + 1)) h.ob_at
    exact h.put rfl rfl rfl (by simp) (fun k hk => q2 k hk) q1
theorem g_ins {t kt et : TypeId} {kd : TypeDesc} {m x y : Operand} {b c : Nat} {es : List MapEntry} {kv v : Value} (HF : Fr N a L) (HS : St w0 F G w H) (ht : P.underlying t = some (.map kt et)) (hk : P.underlying kt = some kd) (hm : opv L m = some (.map (some b))) (hx : opv L x = some kv) (hy : opv L y = some v)
    (hik : IsKey kd kv) (hu : Upd H (mp b es c) (mp b (es ++ [({ key := kv, val := v, born := c } : MapEntry)]) (c + 1)) H') (hf : Instr.findNow kd kv es 0 = some none) (k : ∀ w', St w0 F G w' H' → wpList P ops Q rest a w') :
    wpList P ops Q (Oper.mk none (.insert t m x y) ty pos af none :: rest) a w :=
  lE0 HF (e_ins HS ht hk hm hx hy hik hu hf) rfl rfl fun _ w' hS => k w' hS
theorem p_lkp {t kt et : TypeId} {kd : TypeDesc} {m x : Operand} {b c i : Nat} {es : List MapEntry} {kv v : Value} (HS : St w0 F G w H) (ht : P.underlying t = some (.map kt et)) (hk : P.underlying kt = some kd) (hm : opv L m = some (.map (some b))) (hx : opv L x = some kv)
    (hik : IsKey kd kv) (hp : Pick H (mp b es c) H') (hf : Instr.findNow kd kv es 0 = some (some (i, v))) : Pu P L (Oper.mk od (.lookup t m x false) ty pos af g) w v := fun N a HF => by
  have hb := HS.mem hp
  have h1 : (Instr.lookup t (.map (some b)) kv false).run P w = .ok v w := by
    simp only [Instr.lookup, Sem.run_bind, run_underlying ht, Result.andThen_ok, run_getObj_map hb, run_checkKey hk hik, run_findKey hk hf, Sem.run_pure]
    rfl
  simp only [execOp, HF.eval hm, HF.eval hx, Sem.run_bind, h1]
  rfl
end
end Gp
