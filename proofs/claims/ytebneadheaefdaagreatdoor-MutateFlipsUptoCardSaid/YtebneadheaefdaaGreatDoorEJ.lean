/- law31: short, Small; ref08.Size. -/
import Derived.Test.YtebneadheaefdaaGreatDoorDK
import Derived.Test.YtebneadheaefdaaGreatDoorDC
import Derived.Test.YtebneadheaefdaaGreatDoorDU
set_option linter.unusedSimpArgs false
set_option linter.unusedVariables false
set_option linter.unnecessarySimpa false
namespace Go.Proofs.YtebneadheaefdaaGreatDoor
open Go.RowKit
attribute [local go_sem ↓] Go.wp_at_zero Go.wp_at_succ
def BoolRet (w:World) (r:Ending) (w':World):Prop:=(∃ b:Bool,r=.returned (.bool b))∧Below w.heap.size w w'
theorem BoolRet.mk {w w':World} (b:Bool) (h:Below w.heap.size w w'):BoolRet w (.returned (.bool b)) w':=⟨⟨b,rfl⟩,h⟩
set_option maxHeartbeats 1000000 in
theorem Size_any (op n:Int) (s:ByteArray) (args:List Ex) (a:Option Addr) (cap:Nat) (w:World) (hE:ExIn w (.mk op n s args) a cap) (hn:(Ex.mk op n s args).nodes.length≤1000000000) :
  Calls Tryz.prog 82 #[.agg #[.int .i64 op,.int .i64 n,.string s,.slice a args.length cap]] w fun e w'=>e=.returned (.int .i64 ((Ex.mk op n s args).nodes.length:Nat))∧Below w.heap.size w w':=by
 have hB:Below w.heap.size w (w.alloc (.cells #[.int .i64 op,.int .i64 n,.string s,.slice a args.length cap] 72)):=bel
 have HC:=Lib.hid (over_any op n s args a cap _ (hE.keep (keeps_of_below hB)) hn)
 have HB:=Lib.hid hB
 clear hB hE hn
 generalize (Ex.mk op n s args).nodes.length=nn at HC⊢
 go_enter Tryz.func82, Tryz.ntmps82
 go_wp2_with fail
 refine HC.out.mono ?_
 rintro e w2 ⟨rfl,hI,hb⟩
 obtain⟨_,v1,v2,hp,_⟩:=hI
 simp only[World.size_alloc] at hp
 have c0:w2.cell? ⟨w.heap.size+1+1,0,none⟩=some (.int .i64 nn):=by simp[World.cell?,hp]
 have H2:Hid (Below w.heap.size w w2):=HB.out.trans (hb.mono (by simp))
 clear hp hb
 go_wp2_with fail
 go_ret
 exact⟨rfl,H2.out⟩
end Go.Proofs.YtebneadheaefdaaGreatDoor
