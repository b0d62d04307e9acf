/- Plain definitions: bytes, words, signs; blanks and remarks passed over; the token that comes next; all tokens. -/
namespace Go.Proofs.Ytpccakfbmbkmlaa.Tk
abbrev B := List UInt8
def letter (c : UInt8) : Bool := (97 ≤ c && c ≤ 122) || (65 ≤ c && c ≤ 90) || c == 95
def digit (c : UInt8) : Bool := 48 ≤ c && c ≤ 57
def blank (c : UInt8) : Bool := c == 32 || c == 9 || c == 10 || c == 13
def nameC (c : UInt8) : Bool := letter c || digit c
/-- The sort of bytes that the function of a number takes. -/
def sortOf (g : Nat) : Option (UInt8 → Bool) :=
  if g = 53 then some blank else if g = 55 then some (fun c => c != 10) else if g = 57 then some (fun c => letter c || digit c) else if g = 35 then some digit else none
def wordL : List B := [[97, 114, 114, 97, 121], [102, 117, 110, 99], [108, 101, 116], [105, 102], [101, 108, 115, 101], [119, 104, 105, 108, 101], [102, 111, 114], [116, 111], [112, 114, 105, 110, 116], [116, 104, 114, 111, 119], [116, 114, 121], [99, 97, 116, 99, 104], [114, 101, 116, 117, 114, 110]]
def signL : List B := [[40], [41], [91], [93], [123], [125], [44], [59], [61], [63], [58], [43], [45], [42], [47], [37], [38], [124], [94], [33], [60], [62], [60, 60], [62, 62], [60, 61], [62, 61], [61, 61], [33, 61], [38, 38], [124, 124]]
/-- What is left behind blanks and remarks, in so many steps. -/
def skipF : Nat → B → B
  | 0, l => l
  | _ + 1, [] => []
  | n + 1, c :: r => if blank c = true then skipF n r else if c = 47 ∧ r.head? = some 47 then skipF n ((c :: r).dropWhile (· != 10)) else c :: r
def skip (l : B) : B := skipF l.length l
/-- How long the longest sign is with which a text begins. -/
def signLen (l : B) : Nat := if 2 ≤ l.length ∧ signL.contains (l.take 2) = true then 2 else if 1 ≤ l.length ∧ signL.contains (l.take 1) = true then 1 else 0
/-- The kind and the length of the token with which a text begins; (0, 0): there is none. -/
def next : B → Int × Nat
  | [] => (0, 0)
  | c :: r =>
    if letter c = true then (if wordL.contains ((c :: r).takeWhile nameC) = true then 2 else 1, ((c :: r).takeWhile nameC).length)
    else if digit c = true then (3, ((c :: r).takeWhile digit).length)
    else if signLen (c :: r) = 0 then (0, 0) else (4, signLen (c :: r))
structure Tok where
  k : Int
  t : B
  a : Nat
deriving DecidableEq
/-- The tokens of a text that begins at an offset; and the offset at which none begins. -/
def scanF : Nat → B → Nat → List Tok × Option Nat
  | 0, _, _ => ([], none)
  | n + 1, l, a =>
    if skip l = [] then ([], none)
    else if (next (skip l)).2 = 0 then ([], some (a + (l.length - (skip l).length)))
    else
      let p := scanF n ((skip l).drop (next (skip l)).2) (a + (l.length - (skip l).length) + (next (skip l)).2)
      (⟨(next (skip l)).1, (skip l).take (next (skip l)).2, a + (l.length - (skip l).length)⟩ :: p.1, p.2)
def scan (l : B) (a : Nat) : List Tok × Option Nat := scanF (l.length + 1) l a
end Go.Proofs.Ytpccakfbmbkmlaa.Tk
