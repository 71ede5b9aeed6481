/- exprtext.text: all valid expressions without arrays. -/
import Derived.Test.YtebneadheaefdaaGreatDoorEC
import Derived.Test.YtebneadheaefdaaGreatDoorDJ
import Derived.Test.YtebneadheaefdaaGreatDoorShelfJ
import Derived.Test.YtebneadheaefdaaGreatDoorDC
import Derived.Test.YtebneadheaefdaaGreatDoorDU
import Derived.Lib.ItoaLen
import Derived.Lib.AppendIntMem
import Derived.Lib.SmallJoins
import Derived.Laws.BytesArg
set_option linter.unusedSimpArgs false
set_option linter.unusedVariables false
set_option linter.unnecessarySimpa false
namespace Go.Proofs.YtebneadheaefdaaGreatDoor
open Go.RowKit
attribute [local go_sem ↓] Go.wp_at_zero Go.wp_at_succ
def NodOk (x:Ex):Prop:=nodeS x=0∧x.op≠3∧x.op≠24∧x.name.size≤1073741824∧(x.op=2→Lib.indexByte x.name.data.toList 91 < 0)
def TxOk (e:Ex):Prop:=∀ x∈e.nodes,NodOk x
theorem TxOk.arg {e x:Ex} (h:TxOk e) (hx:x∈e.args):TxOk x:=fun y hy=>h y (by rw[Ex.nodes_eq];exact List.mem_cons_of_mem _ (List.mem_flatten.2 ⟨_,List.mem_map.2 ⟨x,hx,rfl⟩,hy⟩))
theorem NodOk.node {x:Ex} (h:NodOk x):1≤x.op∧x.op≤25∧(x.op=1→0≤x.n∧x.n≤65535)∧operandsB x.op x.args.length=true:=by
 have h0:=h.1
 unfold nodeS at h0
 split at h0
 ·simp at h0
 ·rename_i h1
  split at h0
  ·simp at h0
  ·rename_i h2
   split at h0
   ·simp at h0
   ·rename_i h3
    refine⟨by omega,by omega,fun h4=>by omega,?_⟩
    cases ho:operandsB x.op x.args.length
    ·exact absurd (Or.inr ho) h3
    ·rfl
theorem fmt_any (w:World) (hT:Lib.TabIs Tryz.prog w "internal/strconv.uint64pow10" .u64 Lib.pow10Tab) (n:Int) (h0:0≤n) (h1:n≤65535):FmtC w.heap.size w n:=by
 intro W hW
 have hTW:Lib.TabIs Tryz.prog W "internal/strconv.uint64pow10" .u64 Lib.pow10Tab:=Go.Joins.tab_stays (g:=1) (by kernel_rfl) hT hW (Nat.le_refl _)
 have HI:Hid (Calls Tryz.prog 146 #[.int .i64 n] W fun e w'=>e=.returned (.string (fmtS n))∧Below W.heap.size W w'):=(Tryz.strconv_Itoa n (by omega) (by omega) W hTW).mono fun e w' h=>by
  obtain⟨h1,k,os,rfl⟩:=h
  exact⟨h1,Lib.below_grow _ _ (Nat.le_refl _) _ _⟩
 have HP:Hid (∀ w',Below W.heap.size W w'→SPost (fmtS n) W (.returned (.string (fmtS n))) w'):=fun w' h=>⟨rfl,h⟩
 generalize SPost (fmtS n) W=Po at HP⊢
 generalize fmtS n=s at HI HP
 clear hTW hW
 go_enter Tryz.func86, Tryz.ntmps86
 go_wp2_with fail
 refine HI.out.mono ?_
 rintro e w1 ⟨rfl,hb1⟩
 have HPe:=Lib.hid (HP.out w1 hb1)
 clear hb1
 go_wp2_with fail
 first | exact HPe.out | (go_ret;exact HPe.out)
end Go.Proofs.YtebneadheaefdaaGreatDoor
namespace Go.Proofs.YtebneadheaefdaaGreatDoor
open Go.RowKit
attribute [local go_sem ↓] Go.wp_at_zero Go.wp_at_succ
end Go.Proofs.YtebneadheaefdaaGreatDoor
