/- ref34.changed: a node with its change. -/
import Derived.Test.YtebneadheaefdaaGreatDoorFE
import Derived.Test.YtebneadheaefdaaGreatDoorFF
import Derived.Test.YtebneadheaefdaaGreatDoorEJ
set_option linter.unusedSimpArgs false
set_option linter.unusedVariables false
set_option linter.unnecessarySimpa false
namespace Go.Proofs.YtebneadheaefdaaGreatDoor
open Go.RowKit
attribute [local go_sem ↓] Go.wp_at_zero Go.wp_at_succ
theorem bel4 {w0 w:World} {B b:Nat} {u0 u1 u2 u3:Value} (h:Below B w0 w) (hb:B≤b):Below B w0 ((((w.setCell ⟨b,0,none⟩ u0).setCell ⟨b,1,none⟩ u1).setCell ⟨b,2,none⟩ u2).setCell ⟨b,3,none⟩ u3) :=
 (((h.setCell hb _).setCell hb _).setCell hb _).setCell hb _
end Go.Proofs.YtebneadheaefdaaGreatDoor
namespace Go.Proofs.YtebneadheaefdaaGreatDoor
open Go.RowKit
attribute [local go_sem ↓] Go.wp_at_zero Go.wp_at_succ
theorem OwnE.set {w:World} {B b o:Nat} {q:Nat→Bool} {v u:Value} {L:List XA} (h:OwnE w B q v L) (hb:q b=true) (hv:v.ownBlock≠some b):OwnE (w.setCell ⟨b,o,none⟩ u) B q v L:=by
 refine⟨h.own.kept (gr_set (gr_refl w (some b))) ?_,fun x hx=>?_⟩
 ·cases e:v.ownBlock with
  | none=>exact Or.inl rfl
  | some k=>exact Or.inr (fun e2=>hv (e.trans e2))
 ·have:=h.mem x hx
  unfold exBeside at this⊢
  rw[hide_hide] at this⊢
  exact this.keep (hk_store (by rw[hb,Bool.or_true])).cell
end Go.Proofs.YtebneadheaefdaaGreatDoor
