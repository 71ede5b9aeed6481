/- ref34.add: a site more, if its design is valid. -/
import Derived.Test.YtebneadheaefdaaGreatDoorFJ
import Derived.Test.YtebneadheaefdaaGreatDoorFH
import Derived.Test.YtebneadheaefdaaGreatDoorEM
import Derived.Test.YtebneadheaefdaaGreatDoorDM
import Derived.Test.YtebneadheaefdaaGreatDoorFI
set_option linter.unusedSimpArgs false
set_option linter.unusedVariables false
set_option linter.unnecessarySimpa false
namespace Go.Proofs.YtebneadheaefdaaGreatDoor
open Go.RowKit
attribute [local go_sem ↓] Go.wp_at_zero Go.wp_at_succ
abbrev SA:=ByteArray × DesD × DesA
def siteCells (s:SA):List Value:=[.string s.1,.string s.2.1.name,.slice s.2.2.ai s.2.1.inputs.length s.2.2.ci,.slice s.2.2.aw s.2.1.wires.length s.2.2.cw,.slice s.2.2.ar s.2.1.regs.length s.2.2.cr,.slice s.2.2.ao s.2.1.outputs.length s.2.2.co]
def siteP (p:Nat→Bool) (H:World) (s:SA):Prop:=DesIn (World.hide H p) s.2.1 s.2.2
theorem siteP_keep (p:Nat→Bool):∀ (H H':World) (s:SA),HK H H'→siteP p H s→siteP p H' s:=fun _ _ _ h hs=>DesIn.keep (hk_hide h).cell hs
abbrev OwnSi (w:World) (B:Nat) (p:Nat→Bool) (v:Value) (L:List SA):Prop:=OwnR w B 102 6 siteCells (siteP p) v L
end Go.Proofs.YtebneadheaefdaaGreatDoor
namespace Go.Proofs.YtebneadheaefdaaGreatDoor
open Go.RowKit
attribute [local go_sem ↓] Go.wp_at_zero Go.wp_at_succ
end Go.Proofs.YtebneadheaefdaaGreatDoor
namespace Go.Proofs.YtebneadheaefdaaGreatDoor
open Go.RowKit
section
variable {B : Nat} {p : Nat → Bool} {v : Value} {L : List SA} {wr W : World}
end
def orP (p:Nat→Bool) (b:Nat):Nat→Bool:=fun k=>p k || k == b
theorem orP_true {p:Nat→Bool} {b k:Nat}:orP p b k=true↔p k=true∨k=b:=by simp[orP]
theorem OwnSi.box {w W:World} {B b:Nat} {p:Nat→Bool} {v:Value} {L:List SA} (h:OwnSi w B p v L) (hb:Below w.heap.size w W) (hbw:w.heap.size≤b):OwnSi W B (orP p b) v L:=by
 have h1:=h.below (siteP_keep p) hb
 refine⟨h1.own,fun x hx=>?_⟩
 have h2:=h.mem x hx
 unfold siteP at h2⊢
 rw[hide_hide] at h2⊢
 refine h2.keep (hk_below hb fun k hk hq=>?_).cell
 rw[Bool.or_eq_true] at hq⊢
 rcases hq with q | q
 ·exact Or.inl q
 ·rcases orP_true.1 q with q | q
  ·exact Or.inr q
  ·omega
theorem OwnSi.gr {w w':World} {B b:Nat} {p:Nat→Bool} {v:Value} {L:List SA} (h:OwnSi w B p v L) (hg:w.grownBy w' (some b)) (hb:p b=true) (hv:v.ownBlock≠some b):OwnSi w' B p v L:=by
 refine⟨h.own.kept hg ?_,fun x hx=>?_⟩
 ·cases e:v.ownBlock with
  | none=>exact Or.inl rfl
  | some k=>exact Or.inr (fun e2=>hv (e.trans e2))
 ·have h2:=h.mem x hx
  unfold siteP at h2⊢
  rw[hide_hide] at h2⊢
  exact h2.keep (hide_grown hg (fun k hk=>by
   obtain rfl:=Option.some.inj hk
   rw[Bool.or_eq_true]
   exact Or.inr hb) fun _ _ h=>h)
theorem cell_gr {w w':World} {b:Nat} {q:Nat→Bool} (hg:w.grownBy w' (some b)) (hb:q b=true):∀ a u,(World.hide w q).cell? a=some u→(World.hide w' q).cell? a=some u :=
 hide_grown hg (fun k hk=>by obtain rfl:=Option.some.inj hk;exact hb) fun _ _ h=>h
theorem cell7 {W:World} {b:Nat} {m0 m1 m2 m3 m4 m5 m6:Value} {t:TypeId} (h:W.heap[b]? = some (.cells #[m0,m1,m2,m3,m4,m5,m6] t (0,0))):W.cell? ⟨b,0,none⟩=some m0∧W.cell? ⟨b,1,none⟩=some m1∧W.cell? ⟨b,2,none⟩=some m2∧W.cell? ⟨b,3,none⟩=some m3∧W.cell? ⟨b,4,none⟩=some m4∧W.cell? ⟨b,5,none⟩=some m5∧W.cell? ⟨b,6,none⟩=some m6∧∀ o,W.frozen? ⟨b,o,none⟩=false :=
 ⟨cell_of_blk h 0,cell_of_blk h 1,cell_of_blk h 2,cell_of_blk h 3,cell_of_blk h 4,cell_of_blk h 5,cell_of_blk h 6,fun o=>by simp[World.frozen?,h]⟩
end Go.Proofs.YtebneadheaefdaaGreatDoor
