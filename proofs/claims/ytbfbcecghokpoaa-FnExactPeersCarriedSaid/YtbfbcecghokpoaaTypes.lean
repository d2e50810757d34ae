/-
  Structs of further chapters (peers, asks), and when two are one.
  No statement of the seat is proved here.
-/
import Derived.Test.YtbfbcecghokpoaaPure
namespace Go.Proofs.Ytbfbcecghokpoaa
open Go.RowKit
structure Peer where
  id : Int
  bound : Ival
  pt : Int
  suspect : Bool
structure Ask where
  nonce : Int
  dest : Int
  pt : Int
  tries : Int
namespace Pu
def eqPeer (a b : Peer) : Bool := decide (a.id = b.id) && (eqIval a.bound b.bound && (decide (a.pt = b.pt) && a.suspect == b.suspect))
@[simp, go_sem] theorem eqPeer_self (a : Peer) : eqPeer a a = true := by simp [eqPeer]
def eqAsk (a b : Ask) : Bool := decide (a.nonce = b.nonce) && (decide (a.dest = b.dest) && (decide (a.pt = b.pt) && decide (a.tries = b.tries)))
@[simp, go_sem] theorem eqAsk_self (a : Ask) : eqAsk a a = true := by simp [eqAsk]
end Pu
end Go.Proofs.Ytbfbcecghokpoaa
