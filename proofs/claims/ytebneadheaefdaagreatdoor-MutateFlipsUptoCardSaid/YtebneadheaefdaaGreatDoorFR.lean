/- law34: texts, column, few. -/
import Derived.Test.YtebneadheaefdaaGreatDoorDL
import Derived.Test.YtebneadheaefdaaGreatDoorEO
import Derived.Test.YtebneadheaefdaaGreatDoorFE
import Derived.Test.YtebneadheaefdaaGreatDoorFM
import Derived.Test.YtebneadheaefdaaGreatDoorEJ
set_option linter.unusedSimpArgs false
set_option linter.unusedVariables false
set_option linter.unnecessarySimpa false
namespace Go.Proofs.YtebneadheaefdaaGreatDoor
open Go.RowKit
attribute [local go_sem ↓] Go.wp_at_zero Go.wp_at_succ
theorem column_any (l:List ByteArray) (a:Option Addr) (cap:Nat) (s:ByteArray) (w:World) (hE:StrsIn w l a cap) :
  Calls Tryz.prog 42 #[.slice a l.length cap,.string s] w fun e w'=>e=.returned (.int .i64 (idxI l s))∧w=w':=by
 have hlen:=hE.2.1
 have HA:=Lib.hid (SliceIn.addr hE)
 have HE:=Lib.hid hE
 clear hE
 go_enter Tryz.func42, Tryz.ntmps42
 go_wp2_with fail
 go_loop [5] (fun i=>∃ k:Nat,i=.int .i64 k∧k≤l.length∧Hid (∀ j (hj:j < l.length),j < k→((l[j]'hj).toList == s.toList)=false)) (fun i=>l.length - (intOf i).toNat)
 case atStart=>exact⟨0,rfl,Nat.zero_le _,fun _ _ h=>absurd h (by omega)⟩
 case round =>
  obtain⟨k,rfl,hk,HF⟩:=hrel
  by_cases hlt:k < l.length
  ·obtain⟨b,off,ha⟩:=HA.out.resolve_left (by omega)
   subst ha
   have c0:=HE.out.get rfl hlt
   cases heq:((l[k]'hlt).toList == s.toList)
   ·have HS:Hid (∀ j (hj:j < l.length),j < k+1→((l[j]'hj).toList == s.toList)=false):=fun j hj hjk=>by
     by_cases e:j=k
     ·subst e;exact heq
     ·exact HF.out j hj (by omega)
    go_wp2_with fail
    go_round
    case rel=>exact⟨k+1,by go_num,by omega,HS⟩
    case measure=>(simp[intOf];try omega)
   ·have HI:Hid (idxI l s=k):=by show _=_;unfold idxI;rw[idxI_at hlt HF.out heq]
    go_wp2_with fail
    go_ret
    exact⟨by rw[HI.out];rfl,rfl⟩
  ·obtain rfl:k=l.length:=by omega
   have HI:Hid (idxI l s=-1):=by show _=_;unfold idxI;rw[idxT_not (fun j hj=>HF.out j hj hj)]
   go_wp2_with fail
   go_ret
   exact⟨by rw[HI.out];rfl,rfl⟩
noncomputable def fewM (d:DesD):Bool:=decide (d.inputs.length+d.wires.length+d.regs.length≤12) && smallS d
set_option maxRecDepth 100000 in
set_option maxHeartbeats 4000000 in
theorem few34_any (d:DesD) (x:DesA) (w:World) (hE:DesIn w d x) (hs:DesSmall d) :
  Calls Tryz.prog 24 #[desVal d x] w (BoolIs (fewM d) w):=by
 have HS:=Lib.hid (fun W (hW:Below w.heap.size w W)=>Small_ex d x W (hE.below hW) hs)
 have hl:=hs.len
 unfold BoolIs at HS
 have HP:Hid (∀ b W,b=fewM d→Below w.heap.size w W→BoolIs (fewM d) w (.returned (.bool b)) W):=fun b W e h=>⟨by rw[e],h⟩
 have HF0:Hid (¬ d.inputs.length+d.wires.length+d.regs.length≤12→false=fewM d):=fun h=>by unfold fewM;rw[decide_eq_false h];rfl
 have HF1:Hid (d.inputs.length+d.wires.length+d.regs.length≤12→smallS d=fewM d):=fun h=>by unfold fewM;rw[decide_eq_true h];rfl
 clear hE hs
 generalize BoolIs (fewM d) w=Po at HP⊢
 generalize fewM d=fb at HP HF0 HF1
 generalize smallS d=sb at HS HF1
 simp only[desVal,desVals] at HS⊢
 obtain⟨l1,l2,l3,l4⟩:=hl
 by_cases hq:d.inputs.length+d.wires.length+d.regs.length≤12
 ·have d0:decide ((d.inputs.length:Int)+d.wires.length+d.regs.length≤12)=true:=decide_eq_true (by omega)
  have HF:=Lib.hid (HF1.out hq)
  go_enter Tryz.func24, Tryz.ntmps24
  go_wp2_with (go_at_call 38;go_must (refine(HS.out _ bel).mono ?_;rintro r w2 ⟨rfl,hb2⟩;have HBx:Hid (Below w.heap.size w w2):=Below.trans bel (hb2.mono sz);clear hb2))
  first | exact HP.out _ _ HF.out HBx.out | (go_ret;exact HP.out _ _ HF.out HBx.out)
 ·have d0:decide ((d.inputs.length:Int)+d.wires.length+d.regs.length≤12)=false:=decide_eq_false (by omega)
  have HF:=Lib.hid (HF0.out hq)
  go_enter Tryz.func24, Tryz.ntmps24
  go_wp2_with fail
  first | exact HP.out _ _ HF.out bel | (go_ret;exact HP.out _ _ HF.out bel)
end Go.Proofs.YtebneadheaefdaaGreatDoor
namespace Go.Proofs.YtebneadheaefdaaGreatDoor
open Go.RowKit
attribute [local go_sem ↓] Go.wp_at_zero Go.wp_at_succ
def AwC (w:World):Prop:=∀ W,Below w.heap.size w W→Calls Tryz.prog 25 #[] W fun e w'=>e=.returned (.bool true)∧Below W.heap.size W w'
def FmC (w:World):Prop:=∀ n:Int,0≤n→n≤65535→∀ W,Below w.heap.size w W→FmtC W.heap.size W n
theorem FmC.below {w W:World} (h:FmC w) (hW:Below w.heap.size w W):FmC W:=fun n h0 h1 V hV=>h n h0 h1 V (hW.trans (hV.mono hW.size))
end Go.Proofs.YtebneadheaefdaaGreatDoor
