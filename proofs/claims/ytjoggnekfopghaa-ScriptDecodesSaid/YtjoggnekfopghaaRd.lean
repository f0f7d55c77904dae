/- How the program's data lie in cells. -/
import Derived.Test.YtjoggnekfopghaaSpec3
import Derived.Test.YtjoggnekfopghaaKc
namespace Gp
open Go

abbrev oC (o : Origin) : List Value := [.bool o.secure, S o.host, I o.port]
abbrev uC (u : URL) : List Value := [.bool u.o.secure, S u.o.host, I u.o.port, S u.path, S u.query]
abbrev paC (p : Param) : List Value := [S p.name, S p.value]
/-- An operation's 22 cells; hv: its headers' slice. -/
abbrev opC (o : GOp) (hv : Value) : List Value :=
  [I o.what, I o.req.part, .bool o.req.src.secure, S o.req.src.host, I o.req.src.port, .bool o.req.url.o.secure, S o.req.url.o.host, I o.req.url.o.port, S o.req.url.path, S o.req.url.query, S o.req.method, hv, .bool o.req.with_, S o.req.body,
   .bool o.proxy, S o.text, S o.creds.user, S o.creds.pass, S o.cnonce, I o.cert, .bool o.all, I o.n]
abbrev mvC (m : Move) (hv : Value) : List Value := I m.kind :: I m.tab :: opC m.op hv
/-- A slice of params, frozen. -/
def RP (G : Gh) (v : Value) (l : List Param) : Prop := RS G 2 v l.length (l.flatMap paC)
theorem RP.mono {G G' : Gh} (hG : G.le G') {v : Value} {l : List Param} (h : RP G v l) : RP G' v l := RS.mono hG h
theorem RP.nil (G : Gh) : RP G (.slice none 0 0) [] := RS.nil G 2
theorem RP.one {G : Gh} {b : Nat} {cs : Array Value} {t : TypeId} {z : Nat × Nat} {p : Param} (hb : G b = some (.cells cs t z)) (hc : cs = (paC p).toArray) : RP G (.slice (some ⟨b, 0, none⟩) 1 1) [p] :=
  ⟨_, 1, rfl, Nat.le_refl _, rfl, fun _ => ⟨b, 0, cs, t, z, rfl, hb, fun j v hv => by subst hc; simpa using hv⟩⟩
/-- The rows of a slice of moves. -/
def RM (G : Gh) : List (List Value) → List Move → Prop
  | [], [] => True
  | r :: rs, m :: ms => (∃ hv, r = mvC m hv ∧ RP G hv m.op.req.heads) ∧ RM G rs ms
  | _, _ => False
theorem mvC_len (m : Move) (hv : Value) : (mvC m hv).length = 24 := rfl
theorem RM.mono {G G' : Gh} (hG : G.le G') {rs : List (List Value)} : ∀ {ms : List Move}, RM G rs ms → RM G' rs ms := by
  induction rs with
  | nil =>
    intro ms h
    cases ms with
    | nil => trivial
    | cons _ _ => exact h.elim
  | cons r rs ih =>
    intro ms h
    cases ms with
    | nil => exact h.elim
    | cons m ms =>
      obtain ⟨⟨hv, h1, h2⟩, h3⟩ := h
      exact ⟨⟨hv, h1, h2.mono hG⟩, ih h3⟩
theorem RM.snoc {G : Gh} {r : List Value} {m : Move} {hv : Value} (hr : r = mvC m hv) (hp : RP G hv m.op.req.heads) {rs : List (List Value)} : ∀ {ms : List Move}, RM G rs ms → RM G (rs ++ [r]) (ms ++ [m]) := by
  induction rs with
  | nil =>
    intro ms h
    cases ms with
    | nil => exact ⟨⟨hv, hr, hp⟩, trivial⟩
    | cons _ _ => exact h.elim
  | cons r rs ih =>
    intro ms h
    cases ms with
    | nil => exact h.elim
    | cons m ms => exact ⟨h.1, ih h.2⟩
end Gp
