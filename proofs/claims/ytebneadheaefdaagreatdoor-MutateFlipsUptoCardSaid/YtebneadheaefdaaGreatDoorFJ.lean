/- ref34.wired: a design with another expression at a wire. -/
import Derived.Test.YtebneadheaefdaaGreatDoorFI
import Derived.Test.YtebneadheaefdaaGreatDoorFC
set_option linter.unusedSimpArgs false
set_option linter.unusedVariables false
set_option linter.unnecessarySimpa false
namespace Go.Proofs.YtebneadheaefdaaGreatDoor
open Go.RowKit
attribute [local go_sem ↓] Go.wp_at_zero Go.wp_at_succ
end Go.Proofs.YtebneadheaefdaaGreatDoor
namespace Go.Proofs.YtebneadheaefdaaGreatDoor
open Go.RowKit
attribute [local go_sem ↓] Go.wp_at_zero Go.wp_at_succ
abbrev reP (W:World) (q:Nat→Bool) (l:List RegD) (i:Nat) (f:Nat→Option Value):Prop :=
 ∃ v ae ce,l[i]? = some v∧f 0=some (.string v.name)∧f 1=some (.int .i64 v.width)∧f 2=some (.int .i64 v.init)∧f 3=some (.int .i64 v.next.op)∧f 4=some (.int .i64 v.next.n)∧f 5=some (.string v.next.name)∧f 6=some (.slice ae v.next.args.length ce)∧ExIn (World.hide W q) v.next ae ce
theorem rowRe_in {W:World} {l:List RegD} {cap b:Nat} {p q:Nat→Bool} (hr:RowOf W b 76 7 l.length cap (reP W q l)) (hp:p b=false) (hl:l.length≤1073741824)
  (hk:∀ a v,(World.hide W q).cell? a=some v→(World.hide W p).cell? a=some v):RegsIn (World.hide W p) l (some ⟨b,0,none⟩) cap:=by
 refine⟨hr.le,hl,Or.inr ⟨b,0,rfl,fun i hi=>?_⟩⟩
 obtain⟨f,⟨v,ae,ce,g0,g1,g2,g3,g4,g5,g6,g7,g8⟩,hf⟩:=(hr.hid hp).get hi
 rw[Nat.zero_add]
 exact⟨v,g0,hf 0 _ g1,hf 1 _ g2,hf 2 _ g3,(ExAt_iff _ _ _ _).2 ⟨ae,ce,hf 3 _ g4,hf 4 _ g5,hf 5 _ g6,hf 6 _ g7,g8.keep hk⟩⟩
end Go.Proofs.YtebneadheaefdaaGreatDoor
namespace Go.Proofs.YtebneadheaefdaaGreatDoor
end Go.Proofs.YtebneadheaefdaaGreatDoor
