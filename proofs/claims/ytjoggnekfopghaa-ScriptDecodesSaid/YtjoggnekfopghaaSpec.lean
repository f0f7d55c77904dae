/- The plain laws' words: what the program and the reference compute, as functions on lists of bytes. No program in sight. -/
namespace Gp

abbrev Bs := List UInt8

/-! ### bytes -/
def lowB (c : UInt8) : UInt8 := if 65 ≤ c ∧ c ≤ 90 then c + 32 else c
def lower (s : Bs) : Bs := s.map lowB
def blankB (c : UInt8) : Bool := c == 32 || c == 9
def digB (c : UInt8) : Bool := decide (48 ≤ c ∧ c ≤ 57)
def alphaB (c : UInt8) : Bool := decide (97 ≤ c ∧ c ≤ 122) || decide (65 ≤ c ∧ c ≤ 90)
/-- A byte of a word: the bytes of ! # $ % & ' * + - . ^ _ | ~ and 96 beside letters and digits. -/
def tokB (c : UInt8) : Bool := decide (33 ≤ c ∧ c ≤ 126) && !([34, 40, 41, 44, 47, 58, 59, 60, 61, 62, 63, 64, 91, 92, 93, 123, 125] : Bs).contains c
def isTok (s : Bs) : Bool := !s.isEmpty && s.all tokB
def textB (c : UInt8) : Bool := c == 9 || (decide (32 ≤ c) && c != 127)
def same (a b : Bs) : Bool := lower a == lower b

/-! ### splitting and trimming -/
/-- The pieces between the bytes b. -/
def splitB (b : UInt8) : Bs → List Bs
  | [] => [[]]
  | c :: r => if c == b then [] :: splitB b r else match splitB b r with
    | [] => [[c]]
    | p :: ps => (c :: p) :: ps
def trimL (p : UInt8 → Bool) (s : Bs) : Bs := s.dropWhile p
def trimR (p : UInt8 → Bool) (s : Bs) : Bs := (s.reverse.dropWhile p).reverse
def trim (p : UInt8 → Bool) (s : Bs) : Bs := trimR p (trimL p s)
def joinB (sep : Bs) : List Bs → Bs
  | [] => []
  | [x] => x
  | x :: y :: r => x ++ sep ++ joinB sep (y :: r)

/-! ### quoting -/
def escB (c : UInt8) : Bs := if c == 34 || c == 92 then [92, c] else [c]
def quote (s : Bs) : Option Bs := if s.all textB then some (34 :: (s.flatMap escB ++ [34])) else none

/-! ### lists and seconds -/
def listP (s : Bs) : Option (List Bs) :=
  let ps := (splitB 44 s).map (trim blankB)
  if ps.all (fun w => w.isEmpty || isTok w) then
    let l := ps.filter (fun w => !w.isEmpty)
    if l.length ≤ 40 then some l else none
  else none
def secs (s : Bs) : Option Nat := if !s.isEmpty && s.all digB then some (s.foldl (fun n c => min (n * 10 + (c.toNat - 48)) 2147483648) 0) else none

/-! ### hexadecimal and base64 -/
def hexD (n : Nat) : UInt8 := if n < 10 then UInt8.ofNat (48 + n) else UInt8.ofNat (87 + n)
def hex (s : Bs) : Bs := s.flatMap fun c => [hexD (c.toNat / 16), hexD (c.toNat % 16)]
def b64A : Bs := [65, 66, 67, 68, 69, 70, 71, 72, 73, 74, 75, 76, 77, 78, 79, 80, 81, 82, 83, 84, 85, 86, 87, 88, 89, 90, 97, 98, 99, 100, 101, 102, 103, 104, 105, 106, 107, 108, 109, 110, 111, 112, 113, 114, 115, 116, 117, 118, 119, 120, 121, 122, 48, 49, 50, 51, 52, 53, 54, 55, 56, 57, 43, 47]
def b64c (n : Nat) : UInt8 := b64A.getD n 0
def b64 : Bs → Bs
  | [] => []
  | [a] => [b64c (a.toNat / 4), b64c (a.toNat % 4 * 16), 61, 61]
  | [a, b] => [b64c (a.toNat / 4), b64c (a.toNat % 4 * 16 + b.toNat / 16), b64c (b.toNat % 16 * 4), 61]
  | a :: b :: c :: r => b64c (a.toNat / 4) :: b64c (a.toNat % 4 * 16 + b.toNat / 16) :: b64c (b.toNat % 16 * 4 + c.toNat / 64) :: b64c (c.toNat % 64) :: b64 r

/-! ### origins, paths -/
def bs (s : String) : Bs := s.toUTF8.toList

structure Origin where
  secure : Bool
  host : Bs
  port : Int
  deriving DecidableEq
structure URL where
  o : Origin
  path : Bs
  query : Bs
  deriving DecidableEq
structure Param where
  name : Bs
  value : Bs
  deriving DecidableEq

def portOf (secure : Bool) : Int := if secure then 443 else 80
def hostB (c : UInt8) : Bool := decide (97 ≤ c ∧ c ≤ 122) || digB c || c == 45
def labelOk (l : Bs) : Bool := !l.isEmpty && l.head? != some 45 && l.getLast? != some 45 && l.all hostB
def hostOk (s : Bs) : Bool := decide (s.length ≤ 60) && (splitB 46 s).all labelOk
def originOk (o : Origin) : Bool := hostOk o.host && decide (1 ≤ o.port ∧ o.port ≤ 65535)

def digits (n : Nat) : Bs := (toString n).toUTF8.toList
def originText (o : Origin) : Bs := (if o.secure then bs "https://" else bs "http://") ++ o.host ++ (if o.port == portOf o.secure then [] else 58 :: bs (toString o.port))
def target (u : URL) : Bs := if u.query.isEmpty then u.path else u.path ++ 63 :: u.query
/-- The texts between the slashes, points struck. 'acc' is reversed. -/
def cleanGo : List Bs → List Bs → List Bs
  | [], acc => acc.reverse
  | [p], acc =>
    if p == [46, 46] then ([] :: acc.tail).reverse
    else if p == [46] then ([] :: acc).reverse
    else (p :: acc).reverse
  | p :: q :: r, acc =>
    if p == [46, 46] then cleanGo (q :: r) acc.tail
    else if p == [46] then cleanGo (q :: r) acc
    else cleanGo (q :: r) (p :: acc)
def clean (s : Bs) : Bs :=
  let t := if s.head? == some 47 then s.tail else s
  47 :: joinB [47] (cleanGo (splitB 47 t) [])
def dirOf (p : Bs) : Bs := (p.reverse.dropWhile (· != 47)).reverse

/-! ### challenges -/
structure Challenge where
  scheme : Bs
  token : Bs
  params : List Param
structure Ask where
  scheme : Int
  realm : Bs
  nonce : Bs
  opq : Bs
  sess : Bool
  qop : Bs
  stale : Bool
  domain : List Bs
  deriving DecidableEq
def Ask.zero : Ask := ⟨0, [], [], [], false, [], false, []⟩

def gapB (c : UInt8) : Bool := blankB c || c == 44
def t68B (c : UInt8) : Bool := alphaB c || digB c || ([45, 46, 95, 126, 43, 47] : Bs).contains c
/-- A quoted text at the head (its opening mark included): the text, and what is behind it. -/
def quotedGo : Bs → Bs → Option (Bs × Bs)
  | [], _ => none
  | c :: r, acc =>
    if c == 34 then some (acc.reverse, r)
    else if c == 92 then match r with
      | [] => none
      | d :: r' => if textB d then quotedGo r' (d :: acc) else none
    else if textB c then quotedGo r (c :: acc) else none
def quoted (s : Bs) : Option (Bs × Bs) := match s with
  | 34 :: r => quotedGo r []
  | _ => none
def stops (s : Bs) : Bool := s.isEmpty || s.head? == some 44
def named (s : Bs) : Bool :=
  let w := s.takeWhile tokB
  !w.isEmpty && ((s.drop w.length).dropWhile blankB).head? == some 61
/-- One parameter. -/
def param1 (s : Bs) (ps : List Param) : Option (Param × Bs) :=
  let name := s.takeWhile tokB
  let r := (s.drop name.length).dropWhile blankB
  if name.isEmpty || r.head? != some 61 then none else
  let r := r.tail.dropWhile blankB
  let v := r.takeWhile tokB
  match (if v.isEmpty then quoted r else some (v, r.drop v.length)) with
  | none => none
  | some (value, r) => if ps.any (fun q => same q.name name) || ps.length == 16 then none else some (⟨name, value⟩, r)
def paramsGo : Nat → Bs → List Param → Option (List Param × Bs)
  | 0, _, _ => none
  | n + 1, s, ps => match param1 s ps with
    | none => none
    | some (p, r) =>
      let r := r.dropWhile blankB
      if !stops r then none else
      let r := r.dropWhile gapB
      if named r then paramsGo n r (ps ++ [p]) else some (ps ++ [p], r)
def inside (s : Bs) : Option (Bs × List Param × Bs) :=
  let seg := s.takeWhile (· != 44)
  let w := trimR blankB seg
  let body := trimR (· == 61) w
  if !body.isEmpty && body.all t68B then some (w, [], s.drop seg.length)
  else match paramsGo 17 s [] with
    | none => none
    | some (ps, r) => some ([], ps, r)
def askGo : Nat → Bs → List Challenge → Option (List Challenge)
  | 0, _, _ => none
  | n + 1, s, l =>
    let s := s.dropWhile gapB
    if s.isEmpty then some l else
    let sch := s.takeWhile tokB
    if sch.isEmpty then none else if l.length == 8 then none else
    let r := s.drop sch.length
    let r2 := r.dropWhile blankB
    if stops r2 then askGo n r2 (l ++ [⟨sch, [], []⟩])
    else if r2.length == r.length then none
    else match inside r2 with
      | none => none
      | some (t, ps, r3) => askGo n r3 (l ++ [⟨sch, t, ps⟩])
def askParse (s : Bs) : Option (List Challenge) := if s.length ≤ 3000 then askGo 10 s [] else none

def pget (ps : List Param) (name : Bs) : Option Bs := (ps.find? fun p => same p.name name).map (·.value)
def known (x : Challenge) : Option Ask :=
  match pget x.params (bs "realm") with
  | none => none
  | some realm =>
    if lower x.scheme == bs "basic" then some { Ask.zero with scheme := 1, realm := realm }
    else if lower x.scheme != bs "digest" then none else
    let alg := lower ((pget x.params (bs "algorithm")).getD (bs "md5"))
    let sc : Option (Int × Bool) := if alg == bs "md5" then some (2, false) else if alg == bs "md5-sess" then some (2, true) else if alg == bs "sha-256" then some (3, false) else if alg == bs "sha-256-sess" then some (3, true) else none
    match sc, pget x.params (bs "nonce") with
    | some (scheme, sess), some nonce =>
      let q : Option Bs := match pget x.params (bs "qop") with
        | none => some []
        | some q => match listP q with
          | none => none
          | some l => if l.any (fun w => lower w == bs "auth") then some (bs "auth") else if l.any (fun w => lower w == bs "auth-int") then some (bs "auth-int") else none
      match q with
      | none => none
      | some qop => some ⟨scheme, realm, nonce, (pget x.params [111, 112, 97, 113, 117, 101]).getD [], sess, qop, lower ((pget x.params (bs "stale")).getD []) == bs "true",
          ((splitB 32 ((pget x.params (bs "domain")).getD [])).filter (fun p => p.head? == some 47)).map clean⟩
    | _, _ => none
def best (l : List Challenge) : Option Ask :=
  (l.filterMap known).foldl (fun b a => match b with
    | none => some a
    | some b => if b.scheme < a.scheme then some a else some b) none

end Gp
