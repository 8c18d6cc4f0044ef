namespace Go.Proofs.YteobbnehdlcphaaDoor.Tok
abbrev Bs := List UInt8
def isBlank (c : UInt8) : Bool := c == 32 || (c == 9 || c == 10)
def isAllowed (c : UInt8) : Bool := (decide (32 ≤ c.toNat) && decide (c.toNat ≤ 126)) || (c == 9 || c == 10)
def isRem (c : UInt8) : Bool := c != 10 && isAllowed c
def words : List Bs := [[100, 101, 102], [108, 101, 116], [105, 110], [105, 102], [116, 104, 101, 110], [101, 108, 115, 101], [101, 97, 99, 104], [115, 117, 109], [102, 111, 108, 100], [100, 111, 119, 110], [114, 101, 97, 108], [102, 108, 97, 103], [97, 110, 100], [111, 114], [110, 111, 116], [121, 101, 115], [110, 111]]
def signs : List Bs := [[45, 62], [60, 61], [40], [41], [91], [93], [123], [125], [44], [58], [59], [61], [60], [43], [45], [42], [47]]
def hd (p : UInt8 → Bool) : Bs → Bool
  | [] => false
  | c :: _ => p c
def skipF : Nat → Bs → Bs
  | 0, l => l
  | n + 1, l => match l.dropWhile isBlank with
    | [] => []
    | c :: r => if c = 35 then skipF n ((c :: r).dropWhile isRem) else c :: r
def skip (l : Bs) : Bs := skipF (l.length + 1) l
structure T where
  k : Int
  t : Bs
  a : Nat
deriving DecidableEq
end Go.Proofs.YteobbnehdlcphaaDoor.Tok
