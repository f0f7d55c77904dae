/- The plain laws' words, second part: credentials, banks, permissions, the world. -/
import Derived.Test.YtjoggnekfopghaaSpec
namespace Gp

structure Creds where
  user : Bs
  pass : Bs
  deriving DecidableEq
structure Grant where
  o : Origin
  proxy : Bool
  creds : Creds
  ask : Ask
  count : Int
  paths : List Bs
  deriving DecidableEq
structure Wait where
  o : Origin
  proxy : Bool
  path : Bs
  ask : Ask
  deriving DecidableEq
structure Request where
  part : Int
  src : Origin
  url : URL
  method : Bs
  heads : List Param
  with_ : Bool
  body : Bs
  deriving DecidableEq
structure Pass where
  src : Origin
  url : URL
  with_ : Bool
  method : Bs
  head : Bs
  til : Int
  deriving DecidableEq
structure GOp where
  what : Int
  req : Request
  proxy : Bool
  text : Bs
  creds : Creds
  cnonce : Bs
  cert : Int
  all : Bool
  n : Int
  deriving DecidableEq
structure Reply where
  what : Int
  head : Bs
  cert : Int
  deriving DecidableEq
structure Cert where
  o : Origin
  n : Int
  deriving DecidableEq

/-! ### 6: credentials in requests -/
def basic (c : Creds) : Option Bs :=
  if c.user.contains 58 then none
  else if (c.user ++ c.pass).all (fun b => decide (32 ≤ b) && b != 127) then some (bs "Basic " ++ b64 (c.user ++ 58 :: c.pass)) else none
def hexN (n : Nat) : Bs := (Nat.toDigits 16 n).map fun c => UInt8.ofNat c.toNat
def padL (k : Nat) (s : Bs) : Bs := List.replicate (k - s.length) 48 ++ s
def count8 (n : Nat) : Bs := padL 8 (hexN n)
section
variable (H : Int → Bs → Bs)      -- the sum of a scheme
def response (a : Ask) (c : Creds) (method target body cnonce : Bs) (n : Nat) : Bs :=
  let one := H a.scheme (joinB [58] [c.user, a.realm, c.pass])
  let one := if a.sess then H a.scheme (joinB [58] [one, a.nonce, cnonce]) else one
  let two := if a.qop == bs "auth-int" then H a.scheme (joinB [58] [method, target, H a.scheme body]) else H a.scheme (joinB [58] [method, target])
  if a.qop.isEmpty then H a.scheme (joinB [58] [one, a.nonce, two]) else H a.scheme (joinB [58] [one, a.nonce, count8 n, cnonce, a.qop, two])
def algName (a : Ask) : Bs := (if a.scheme == 3 then bs "SHA-256" else bs "MD5") ++ (if a.sess then bs "-sess" else [])
def digest (a : Ask) (c : Creds) (method target body cnonce : Bs) (n : Int) : Option Bs :=
  if !(a.scheme == 2 || a.scheme == 3) || !(a.qop.isEmpty || a.qop == bs "auth" || a.qop == bs "auth-int") then none
  else if n < 1 || n > 4294967295 then none
  else match quote c.user, quote a.realm, quote a.nonce, quote target, quote (response H a c method target body cnonce n.toNat) with
    | some u, some r, some no, some t, some re =>
      let s := bs "Digest username=" ++ u ++ bs ", realm=" ++ r ++ bs ", nonce=" ++ no ++ bs ", uri=" ++ t ++ bs ", response=" ++ re ++ bs ", algorithm=" ++ algName a
      let s := if a.qop.isEmpty then s else s ++ bs ", qop=" ++ a.qop ++ bs ", nc=" ++ count8 n.toNat
      match (if !a.qop.isEmpty || a.sess then (quote cnonce).map fun q => s ++ bs ", cnonce=" ++ q else some s) with
      | none => none
      | some s => if a.opq.isEmpty then some s else (quote a.opq).map fun q => s ++ [44, 32, 111, 112, 97, 113, 117, 101, 61] ++ q
    | _, _, _, _, _ => none
end

/-! ### 7: banks -/
structure Bank where
  g : List Grant
  w : List Wait
  deriving DecidableEq
def lastN {α : Type} (n : Nat) (l : List α) : List α := l.drop (l.length - n)
/-- How far a grant reaches (none: it does not apply). -/
def reach (g : Grant) (o : Origin) (proxy : Bool) (path : Bs) : Option Nat :=
  if g.o == o && g.proxy == proxy then (g.paths.filter (·.isPrefixOf path)).foldl (fun m p => match m with
    | none => some p.length
    | some k => some (max k p.length)) none
  else none
/-- Which grant counts: the last one of those that reach as far as any. -/
def findGo (o : Origin) (proxy : Bool) (path : Bs) : List Grant → Nat → Option (Nat × Nat) → Option (Nat × Nat)
  | [], _, b => b
  | g :: r, i, b => findGo o proxy path r (i + 1) (match reach g o proxy path, b with
    | none, b => b
    | some n, none => some (n, i)
    | some n, some (m, j) => if m ≤ n then some (n, i) else some (m, j))
def Bank.find (b : Bank) (o : Origin) (proxy : Bool) (path : Bs) : Option Nat := (findGo o proxy path b.g 0 none).map (·.2)
def sameRealm (o : Origin) (proxy : Bool) (realm : Bs) (g : Grant) : Bool := g.o == o && g.proxy == proxy && g.ask.realm == realm
def Bank.use (b : Bank) (o : Origin) (proxy : Bool) (path : Bs) : Bank × Option Grant :=
  match b.find o proxy path with
  | none => (b, none)
  | some i => match b.g[i]? with
    | none => (b, none)
    | some g =>
      let rest := b.g.eraseIdx i
      if g.count ≥ 4294967295 then ({ b with g := rest }, none)
      else ({ b with g := rest ++ [{ g with count := g.count + 1 }] }, some { g with count := g.count + 1 })
def Bank.drop (b : Bank) (o : Origin) (proxy : Bool) (realm : Bs) : Bank := { b with g := b.g.filter fun g => !sameRealm o proxy realm g }
def Bank.put (b : Bank) (g : Grant) : Bank := { b with g := lastN 8 ((b.drop g.o g.proxy g.ask.realm).g ++ [g]) }
def Bank.get (b : Bank) (o : Origin) (proxy : Bool) (realm : Bs) : Option Grant := b.g.find? (sameRealm o proxy realm)
def waitOf (o : Origin) (proxy : Bool) (w : Wait) : Bool := w.o == o && w.proxy == proxy
def Bank.take (b : Bank) (o : Origin) (proxy : Bool) : Bank × Option Wait := ({ b with w := b.w.filter fun w => !waitOf o proxy w }, b.w.find? (waitOf o proxy))
def Bank.asked (b : Bank) (w : Wait) : Bank := { b with w := lastN 8 ((b.take w.o w.proxy).1.w ++ [w]) }
def Bank.sweep (b : Bank) (o : Origin) : Bank := ⟨b.g.filter fun g => g.o != o, b.w.filter fun w => w.o != o⟩
def space (a : Ask) (proxy : Bool) (path : Bs) : List Bs :=
  if proxy then [[47]] else if a.scheme == 1 then [dirOf path] else if a.domain.isEmpty then [[47]] else a.domain

/-! ### 8: requests without preflight -/
def simple (m : Bs) : Bool := m == bs "GET" || m == bs "HEAD" || m == bs "POST"
def methodOf (s : Bs) : Bs := ([bs "DELETE", bs "GET", bs "HEAD", bs "OPTIONS", bs "POST", bs "PUT"].find? (same s)).getD s
def safeB (c : UInt8) : Bool := textB c && !([34, 40, 41, 58, 60, 62, 63, 64, 91, 92, 93, 123, 125] : Bs).contains c
def tongueB (c : UInt8) : Bool := digB c || alphaB c || ([32, 42, 44, 45, 46, 59, 61] : Bs).contains c
def plainHead (p : Param) : Bool :=
  if p.value.length > 128 then false else
  let n := lower p.name
  if n == bs "accept" then p.value.all safeB
  else if n == bs "accept-language" || n == bs "content-language" then p.value.all tongueB
  else if n == bs "content-type" then
    let k := lower (trim blankB (p.value.takeWhile (· != 59)))
    p.value.all safeB && (k == bs "application/x-www-form-urlencoded" || k == bs "multipart/form-data" || k == bs "text/plain")
  else false
def leB : Bs → Bs → Bool
  | [], _ => true
  | _ :: _, [] => false
  | a :: r, b :: s => decide (a < b) || (a == b && leB r s)
def dedup : List Bs → List Bs
  | [] => []
  | [a] => [a]
  | a :: b :: r => if a == b then dedup (b :: r) else a :: dedup (b :: r)
def plainBytes (l : List Param) : Nat := ((l.filter plainHead).map (·.value.length)).sum
def asked (l : List Param) : List Bs :=
  dedup (((l.filter fun p => decide (1024 < plainBytes l) || !plainHead p).map (lower ·.name)).mergeSort leB)
def requestOk (r : Request) : Bool := decide (0 ≤ r.part ∧ r.part ≤ 3) && isTok r.method && decide (r.heads.length ≤ 40) && r.heads.all fun p => isTok p.name

/-! ### 9: permissions -/
def fieldsGo : List Bs → List Param → Option (List Param)
  | [], l => some l
  | line :: r, l =>
    let line := if line.getLast? == some 13 then line.dropLast else line
    if line.isEmpty then fieldsGo r l else
    let name := line.takeWhile (· != 58)
    if name.length == line.length || !isTok name then none
    else if l.length == 40 then none
    else fieldsGo r (l ++ [⟨name, trim blankB (line.drop (name.length + 1))⟩])
def fields (s : Bs) : Option (List Param) := if s.length ≤ 3000 then fieldsGo (splitB 10 s) [] else none
def fget (l : List Param) (name : Bs) : Option Bs :=
  let v := (l.filter fun p => same p.name name).map (·.value)
  if v.isEmpty then none else some (joinB [44, 32] v)
def may (r : Request) (l : List Param) : Bool :=
  match fget l (bs "access-control-allow-origin") with
  | none => false
  | some o => if r.with_ then o == originText r.src && fget l (bs "access-control-allow-credentials") == some (bs "true") else o == [42] || o == originText r.src
def age (l : List Param) : Int := match fget l (bs "access-control-max-age") with
  | none => 5
  | some s => match secs s with
    | none => 5
    | some n => min (n : Int) 600
def covers (r : Request) (l : List Pass) : Bool :=
  let m := methodOf r.method
  (simple m || l.any fun p => p.method == m || (p.method == [42] && !r.with_)) &&
  (asked r.heads).all fun h => l.any fun p => p.head == h || (p.head == [42] && !r.with_ && h != bs "authorization")
def grantPasses (r : Request) (til : Int) (ms hs : List Bs) : List Pass :=
  ((ms.map fun m => (m, ([] : Bs))) ++ hs.map fun h => (([] : Bs), h)).foldl (fun p x => let q : Pass := ⟨r.src, r.url, r.with_, x.1, x.2, til⟩; if p.contains q then p else p ++ [q]) []
def grant (r : Request) (l : List Param) (now : Int) : Option (List Pass) :=
  match listP ((fget l (bs "access-control-allow-methods")).getD []), listP ((fget l (bs "access-control-allow-headers")).getD []) with
  | some ms, some hs =>
    if !may r l then none else
    let p := grantPasses r (now + age l) (if ms.isEmpty then [methodOf r.method] else ms) (hs.map lower)
    if covers r p then some p else none
  | _, _ => none

/-! ### 10: books -/
def like (p q : Pass) : Bool := { p with til := q.til } == q
def bookPut (b l : List Pass) (now : Int) : List Pass :=
  lastN 32 ((l.foldl (fun b p => (b.filter fun q => !like p q) ++ [p]) b).filter fun p => decide (now < p.til))
def bookFor (b : List Pass) (r : Request) (now : Int) : List Pass := b.filter fun p => decide (now < p.til) && p.src == r.src && p.url == r.url && (p.with_ || !r.with_)
def bookCovers (b : List Pass) (r : Request) (now : Int) : Bool := r.src == r.url.o || covers r [] || covers r (bookFor b r now)
def bookForget (b : List Pass) (r : Request) : List Pass := b.filter fun p => !(p.src == r.src && p.url == r.url)
def bookSweep (b : List Pass) (o : Origin) : List Pass := b.filter fun p => !(p.src == o || p.url.o == o)

/-! ### 11: the world -/
structure Part where
  bank : Bank
  book : List Pass
  certs : List Cert
  deriving DecidableEq
def Part.empty : Part := ⟨⟨[], []⟩, [], []⟩
structure GWorld where
  p0 : Part
  p1 : Part
  p2 : Part
  p3 : Part
  now : Int
  deriving DecidableEq
def GWorld.empty : GWorld := ⟨.empty, .empty, .empty, .empty, 0⟩
def GWorld.part (w : GWorld) (i : Int) : Part := if i = 0 then w.p0 else if i = 1 then w.p1 else if i = 2 then w.p2 else w.p3
def GWorld.setPart (w : GWorld) (i : Int) (p : Part) : GWorld := if i = 0 then { w with p0 := p } else if i = 1 then { w with p1 := p } else if i = 2 then { w with p2 := p } else { w with p3 := p }
def opOk (o : GOp) : Bool :=
  decide (1 ≤ o.what ∧ o.what ≤ 10) && requestOk o.req && originOk o.req.src && originOk o.req.url.o && o.req.url.path.head? == some 47 && decide (o.req.url.path.length ≤ 200) && decide (o.text.length ≤ 3000)
def only (what : Int) : Reply := ⟨what, [], 0⟩
section
variable (H : Int → Bs → Bs)
def doAttach (p : Part) (o : GOp) : Part × Reply :=
  match p.bank.use o.req.url.o o.proxy o.req.url.path with
  | (b, none) => ({ p with bank := b }, only 2)
  | (b, some g) =>
    match (if g.ask.scheme == 1 then basic g.creds else digest H g.ask g.creds (methodOf o.req.method) (target o.req.url) o.req.body o.cnonce g.count) with
    | none => ({ p with bank := b.drop g.o g.proxy g.ask.realm }, only 2)
    | some s => ({ p with bank := b }, ⟨1, s, 0⟩)
def doRefused (p : Part) (o : GOp) : Part × Reply :=
  match askParse o.text with
  | none => (p, only 7)
  | some l => match best l with
    | none => (p, only 2)
    | some a =>
      let put (_ : Unit) := ({ p with bank := (p.bank.drop o.req.url.o o.proxy a.realm).asked ⟨o.req.url.o, o.proxy, o.req.url.path, a⟩ }, only 3)
      match p.bank.get o.req.url.o o.proxy a.realm with
      | none => put ()
      | some g => if a.stale && a.scheme == g.ask.scheme && a.nonce != g.ask.nonce then ({ p with bank := p.bank.put { g with ask := a, count := 0 } }, only 1) else put ()
def doAnswered (p : Part) (o : GOp) : Part × Reply :=
  match p.bank.take o.req.url.o o.proxy with
  | (_, none) => (p, only 2)
  | (b, some x) => ({ p with bank := b.put ⟨x.o, x.proxy, o.creds, x.ask, 0, space x.ask x.proxy x.path⟩ }, only 1)
def doAllowed (p : Part) (o : GOp) (now : Int) : Part × Reply :=
  match fields o.text with
  | none => (p, only 7)
  | some l => match grant o.req l now with
    | none => ({ p with book := bookForget p.book o.req }, only 2)
    | some m => ({ p with book := bookPut p.book m now }, only 1)
def doPick (p : Part) (o : GOp) : Reply := match p.certs.find? (fun c => c.o == o.req.url.o) with
  | some c => ⟨1, [], c.n⟩
  | none => only 3
def othersOf (l : List Cert) (o : Origin) : List Cert := l.filter fun c => c.o != o
def doChoose (p : Part) (o : GOp) : Part × Reply :=
  if o.cert < 0 then (p, only 7) else ({ p with certs := lastN 8 (othersOf p.certs o.req.url.o ++ [⟨o.req.url.o, o.cert⟩]) }, only 1)
def doClear (p : Part) (o : GOp) : Part :=
  if o.all then .empty else ⟨p.bank.sweep o.req.url.o, bookSweep p.book o.req.url.o, othersOf p.certs o.req.url.o⟩
def doPart (p : Part) (o : GOp) (now : Int) : Part × Reply :=
  if o.what = 1 then doAttach H p o
  else if o.what = 2 then doRefused p o
  else if o.what = 3 then doAnswered p o
  else if o.what = 4 then (p, only (if bookCovers p.book o.req now then 5 else 4))
  else if o.what = 5 then doAllowed p o now
  else if o.what = 6 then (p, doPick p o)
  else if o.what = 7 then doChoose p o
  else if o.what = 8 then ({ p with bank := p.bank.sweep o.req.url.o }, only 1)
  else (doClear p o, only 1)
def doW (w : GWorld) (o : GOp) : GWorld × Reply :=
  if !opOk o then (w, only 7)
  else if o.what = 10 then
    if o.n < 0 || o.n > 1099511627776 - w.now then (w, only 7) else ({ w with now := w.now + o.n }, only 1)
  else
    let r := doPart H (w.part o.req.part) o w.now
    (w.setPart o.req.part r.1, r.2)
end
def cells (o : GOp) : Int × Bool :=
  if !opOk o then (0, false)
  else if o.what = 1 ∨ o.what = 2 ∨ o.what = 3 ∨ o.what = 8 then (1, true)
  else if o.what = 4 then (10, false)
  else if o.what = 5 then (10, true)
  else if o.what = 6 then (4, false)
  else if o.what = 7 then (4, true)
  else if o.what = 10 then (8, true)
  else (7, true)
end Gp
