/- The plain laws' words, third part: scripts as bytes. -/
import Derived.Test.YtjoggnekfopghaaSpec2
namespace Gp

structure Move where
  kind : Int
  tab : Int
  op : GOp
  deriving DecidableEq
def Origin.zero : Origin := ⟨false, [], 0⟩
def GOp.zero : GOp := ⟨0, ⟨0, .zero, ⟨.zero, [], []⟩, [], [], false, []⟩, false, [], ⟨[], []⟩, [], 0, false, 0⟩
/-- The next byte, modulo n (0 behind the end). -/
def pk (n : Nat) (s : Bs) : Nat := match s with
  | [] => 0
  | c :: _ => c.toNat % n
theorem pk_lt {n : Nat} (h : 0 < n) (s : Bs) : pk n s < n := by
  unfold pk; split
  · exact h
  · exact Nat.mod_lt _ h
def aTest : Bs := [97, 46, 116, 101, 115, 116]
def bTest : Bs := [98, 46, 116, 101, 115, 116]
def cTest : Bs := [99, 46, 116, 101, 115, 116]
def dHosts : List Bs := [aTest, bTest, cTest, aTest]
def dOrigin (k : Nat) : Origin := if k < 3 then ⟨true, dHosts.getD k [], 443⟩ else ⟨false, dHosts.getD k [], 80⟩
def dPaths : List Bs := [[47], [47, 97, 47], [47, 97, 47, 98], [47, 99]]
def dMethods : List Bs := [[71, 69, 84], [80, 79, 83, 84], [80, 85, 84], [112, 97, 116, 99, 104]]
def dHeads : List Bs := [[88, 45, 65], [67, 111, 110, 116, 101, 110, 116, 45, 84, 121, 112, 101], [65, 117, 116, 104, 111, 114, 105, 122, 97, 116, 105, 111, 110]]
def dTexts : List Bs := [[66, 97, 115, 105, 99, 32, 114, 101, 97, 108, 109, 61, 114], [66, 97, 115, 105, 99, 32, 114, 101, 97, 108, 109, 61, 115], [68, 105, 103, 101, 115, 116, 32, 114, 101, 97, 108, 109, 61, 114, 44, 32, 110, 111, 110, 99, 101, 61, 110, 44, 32, 113, 111, 112, 61, 97, 117, 116, 104], [68, 105, 103, 101, 115, 116, 32, 114, 101, 97, 108, 109, 61, 114, 44, 32, 110, 111, 110, 99, 101, 61, 109, 44, 32, 113, 111, 112, 61, 97, 117, 116, 104, 44, 32, 115, 116, 97, 108, 101, 61, 116, 114, 117, 101, 44, 32, 97, 108, 103, 111, 114, 105, 116, 104, 109, 61, 83, 72, 65, 45, 50, 53, 54], [68, 105, 103, 101, 115, 116, 32, 114, 101, 97, 108, 109, 61, 116, 44, 32, 110, 111, 110, 99, 101, 61, 111, 44, 32, 100, 111, 109, 97, 105, 110, 61, 34, 47, 97, 47, 32, 47, 99, 34], [65, 99, 99, 101, 115, 115, 45, 67, 111, 110, 116, 114, 111, 108, 45, 65, 108, 108, 111, 119, 45, 79, 114, 105, 103, 105, 110, 58, 32, 42, 10, 65, 99, 99, 101, 115, 115, 45, 67, 111, 110, 116, 114, 111, 108, 45, 65, 108, 108, 111, 119, 45, 77, 101, 116, 104, 111, 100, 115, 58, 32, 80, 85, 84, 44, 32, 112, 97, 116, 99, 104, 10, 65, 99, 99, 101, 115, 115, 45, 67, 111, 110, 116, 114, 111, 108, 45, 65, 108, 108, 111, 119, 45, 72, 101, 97, 100, 101, 114, 115, 58, 32, 120, 45, 97, 44, 32, 99, 111, 110, 116, 101, 110, 116, 45, 116, 121, 112, 101], [65, 99, 99, 101, 115, 115, 45, 67, 111, 110, 116, 114, 111, 108, 45, 65, 108, 108, 111, 119, 45, 79, 114, 105, 103, 105, 110, 58, 32, 104, 116, 116, 112, 115, 58, 47, 47, 97, 46, 116, 101, 115, 116, 10, 65, 99, 99, 101, 115, 115, 45, 67, 111, 110, 116, 114, 111, 108, 45, 65, 108, 108, 111, 119, 45, 67, 114, 101, 100, 101, 110, 116, 105, 97, 108, 115, 58, 32, 116, 114, 117, 101, 10, 65, 99, 99, 101, 115, 115, 45, 67, 111, 110, 116, 114, 111, 108, 45, 65, 108, 108, 111, 119, 45, 77, 101, 116, 104, 111, 100, 115, 58, 32, 80, 85, 84, 10, 65, 99, 99, 101, 115, 115, 45, 67, 111, 110, 116, 114, 111, 108, 45, 77, 97, 120, 45, 65, 103, 101, 58, 32, 50, 48], []]
def dUsers : List Bs := [[117], [118]]
def dPasses : List Bs := [[112], [113]]
def dNonces : List Bs := [[99], [100]]
def dHtml : Bs := [116, 101, 120, 116, 47, 104, 116, 109, 108]
/-- The header that a Begin bears. -/
def dHeadsOf (k : Nat) : List Param := if k = 0 then [] else [⟨dHeads.getD (k - 1) [], dHtml⟩]
/-- The operation that stands at the head: sixteen picks. -/
def dOp (s : Bs) : GOp :=
  ⟨1 + (pk 10 s : Nat), ⟨(pk 2 (s.drop 1) : Nat), dOrigin (pk 4 (s.drop 2)), ⟨dOrigin (pk 4 (s.drop 3)), dPaths.getD (pk 4 (s.drop 4)) [], []⟩, dMethods.getD (pk 4 (s.drop 5)) [], dHeadsOf (pk 4 (s.drop 6)), ((pk 2 (s.drop 7) : Nat) : Int) == 1, []⟩,
    ((pk 4 (s.drop 8) : Nat) : Int) == 3, dTexts.getD (pk 8 (s.drop 9)) [], ⟨dUsers.getD (pk 2 (s.drop 10)) [], dPasses.getD (pk 2 (s.drop 11)) []⟩, dNonces.getD (pk 2 (s.drop 12)) [], (pk 4 (s.drop 13) : Nat), ((pk 4 (s.drop 14) : Nat) : Int) == 3, (pk 10 (s.drop 15) : Nat)⟩
/-- The move that the byte c begins, and what is behind it. -/
def dMove (c : UInt8) (s : Bs) : Move × Bs :=
  let k := c.toNat / 6 % 4
  let t : Int := (c.toNat % 6 : Nat)
  if k = 1 then (⟨1, t, dOp s⟩, s.drop 16) else if k = 2 ∧ 128 ≤ c.toNat then (⟨2, t, .zero⟩, s) else (⟨0, t, .zero⟩, s)
def decGo : Nat → Bs → List Move
  | 0, _ => []
  | _ + 1, [] => []
  | n + 1, c :: s => (dMove c s).1 :: decGo n (dMove c s).2
def decode (s : Bs) : List Move := decGo 400 s
end Gp
