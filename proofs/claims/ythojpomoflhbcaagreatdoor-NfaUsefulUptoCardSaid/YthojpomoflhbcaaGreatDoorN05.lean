/- The reference of expressions: value. -/
import Derived.Test.YthojpomoflhbcaaGreatDoorN04
set_option linter.unusedSimpArgs false
set_option linter.unusedVariables false
set_option linter.unnecessarySimpa false
namespace Go.Proofs.YthojpomoflhbcaaGreatDoor
open Go.RowKit
end Go.Proofs.YthojpomoflhbcaaGreatDoor
namespace Go.Proofs.YthojpomoflhbcaaGreatDoor
open Go.RowKit
end Go.Proofs.YthojpomoflhbcaaGreatDoor
namespace Go.Proofs.YthojpomoflhbcaaGreatDoor
open Go.RowKit
end Go.Proofs.YthojpomoflhbcaaGreatDoor
namespace Go.Proofs.YthojpomoflhbcaaGreatDoor
open Go.RowKit
structure Seen where
 n:Nat
 d:Nat
 f:Int
 vs:List ByteArray
 ar:List ByteArray
def InvW (B p:Nat) (st:Seen) (w:World):Prop :=
 B≤p∧∃ v1 v2,w.heap[p]? = some (.cells #[.int .i64 st.n,.int .i64 st.d,.int .i64 st.f,v1,v2] 216 (0,0)) ∧
  w.ownsRow B 9 1 v1 st.vs.length (st.vs.map Value.string)∧w.ownsRow B 9 1 v2 st.ar.length (st.ar.map Value.string)∧(∀ k,v1.ownBlock=some k→v2.ownBlock≠some k)
theorem InvW.keep {B p:Nat} {st:Seen} {w w':World} (h:InvW B p st w) (hb:Below w.heap.size w w'):InvW B p st w':=by
 obtain⟨h0,v1,v2,h1,h2,h3,h4⟩:=h
 exact⟨h0,v1,v2,by rw[hb.block _ (lt_of_block h1)];exact h1,ownsRow_below h2 hb,ownsRow_below h3 hb,h4⟩
end Go.Proofs.YthojpomoflhbcaaGreatDoor
