/- design: the data and the first error, plain. -/
import Derived.Test.YtebneadheaefdaaGreatDoorKA
import Derived.Test.YtebneadheaefdaaGreatDoorKB
import Derived.Test.YtebneadheaefdaaGreatDoorDA
import Derived.Test.YtebneadheaefdaaGreatDoorKC
import Derived.Test.YtebneadheaefdaaGreatDoorKD
import Derived.Test.YtebneadheaefdaaGreatDoorKE
import Derived.Test.YtebneadheaefdaaGreatDoorKF
import Derived.Test.YtebneadheaefdaaGreatDoorDB
import Derived.Test.YtebneadheaefdaaGreatDoorDC
import Derived.Test.YtebneadheaefdaaGreatDoorEK
import Derived.Test.YtebneadheaefdaaGreatDoorEP
import Derived.Test.YtebneadheaefdaaGreatDoorKNames
import Derived.Test.YtebneadheaefdaaGreatDoorDE
import Derived.Test.YtebneadheaefdaaGreatDoorDF
import Derived.Test.YtebneadheaefdaaGreatDoorDG
import Derived.Test.YtebneadheaefdaaGreatDoorDH
import Derived.Test.YtebneadheaefdaaGreatDoorDI
import Derived.Test.YtebneadheaefdaaGreatDoorDJ
import Derived.Test.YtebneadheaefdaaGreatDoorDK
import Derived.Test.YtebneadheaefdaaGreatDoorDL
import Derived.Test.YtebneadheaefdaaGreatDoorEJ
import Derived.Test.YtebneadheaefdaaGreatDoorEO
import Derived.Test.YtebneadheaefdaaGreatDoorEA
import Derived.Test.YtebneadheaefdaaGreatDoorFB
import Derived.Test.YtebneadheaefdaaGreatDoorEC
import Derived.Test.YtebneadheaefdaaGreatDoorFC
import Derived.Test.YtebneadheaefdaaGreatDoorFD
import Derived.Test.YtebneadheaefdaaGreatDoorFE
import Derived.Test.YtebneadheaefdaaGreatDoorFR
import Derived.Test.YtebneadheaefdaaGreatDoorFJ
import Derived.Test.YtebneadheaefdaaGreatDoorFI
import Derived.Test.YtebneadheaefdaaGreatDoorFF
import Derived.Test.YtebneadheaefdaaGreatDoorFG
import Derived.Test.YtebneadheaefdaaGreatDoorFH
import Derived.Test.YtebneadheaefdaaGreatDoorEM
import Derived.Test.YtebneadheaefdaaGreatDoorDM
import Derived.Test.YtebneadheaefdaaGreatDoorFK
import Derived.Test.YtebneadheaefdaaGreatDoorFM
import Derived.Test.YtebneadheaefdaaGreatDoorFP
import Derived.Test.YtebneadheaefdaaGreatDoorEI
import Derived.Test.YtebneadheaefdaaGreatDoorFO
import Derived.Test.YtebneadheaefdaaGreatDoorFQ
import Derived.Test.YtebneadheaefdaaGreatDoorFS
import Derived.Test.YtebneadheaefdaaGreatDoorDZ
import Derived.WalkKit
import Derived.WalkSmall
import Derived.Test.YtebneadheaefdaaGreatDoorShelf
import Derived.WalkLawsBesides
import Derived.WalkSpells
import Derived.BigQuiet
import Derived.Deep.QuietTactic
import Derived.Lib.Hide
import Derived.Laws.EntriesVeiled
import Derived.Lib.Tables
import Derived.StillTailTactics
import Derived.Deep.RegionHeld3
import Derived.Deep.Cut
import Derived.Deep.AppendLies
import Derived.Deep.RegionLaw
import Derived.Laws.Rows
import Derived.Maps.OwnOps
import Derived.Maps.OwnSet
import Derived.Lib.SlKeysI
import Derived.Deep.DrawnRows
import Derived.Deep.LoopGhost
import Derived.Test.YtebneadheaefdaaGreatDoorRows
import Derived.Lib.SmallJoins
import Derived.Deep.Slices
import Derived.Test.YtebneadheaefdaaGreatDoorCards
import Derived.Test.YtebneadheaefdaaGreatDoorTie
import Derived.ProofKit
import Derived.OpenShut
import Derived.Carry
import Derived.SliceStrings
import Derived.JoinedCond
import Derived.SevenTiedAt
import Derived.Deep.DeepHandedRow
import Derived.Deep.DeepWitnessRowRef
import Derived.Lib.LaidIn
import Derived.Shelf.Vars
import Derived.Lib.LaidTab
import Derived.Test.YtebneadheaefdaaGreatDoorShelfI
import Derived.Laws.OwnMore
import Derived.OneCell
import Derived.Lib.ItoaNum
import Derived.Test.YtebneadheaefdaaGreatDoorShelfJ
import Derived.Lib.ItoaLen
import Derived.Lib.AppendIntMem
import Derived.Laws.BytesArg
import Derived.Deep.CutRange
set_option linter.unusedSimpArgs false
set_option linter.unusedVariables false
set_option linter.unnecessarySimpa false
namespace Go.Proofs.YtebneadheaefdaaGreatDoor
theorem dupT_idx {l:List ByteArray}:dupT l=false↔∀ i (hi:i < l.length),idxT l (l[i]'hi)=some i:=by
 refine⟨fun h i hi=>idxT_at h hi,fun h=>dupT_false.2 fun i j hi hj he=>?_⟩
 obtain⟨_,_,h1⟩:=idxT_some (h i hi)
 obtain⟨_,_,h2⟩:=idxT_some (h j hj)
 rcases Nat.lt_trichotomy i j with g | g | g
 ·exact absurd he (h2 i g)
 ·exact g
 ·exact absurd he.symm (h1 j g)
end Go.Proofs.YtebneadheaefdaaGreatDoor
namespace Go.Proofs.YtebneadheaefdaaGreatDoor
open Go.RowKit
set_option maxHeartbeats 1000000 in
theorem rValid_any (op n:Int) (s:ByteArray) (args:List Ex) (a:Option Addr) (cap:Nat) (w:World) (hE:ExIn w (.mk op n s args) a cap) (hn:(Ex.mk op n s args).nodes.length≤1000000000) :
  Calls Tryz.prog 147 #[.agg #[.int .i64 op,.int .i64 n,.string s,.slice a args.length cap]] w fun e w'=>e=.returned (.int .i64 (validS (.mk op n s args)))∧Below w.heap.size w w':=by
 have hB:Below w.heap.size w (w.alloc (.cells #[.int .i64 op,.int .i64 n,.string s,.slice a args.length cap] 72)):=bel
 have HC:=Lib.hid (over_any op n s args a cap _ (hE.keep (keeps_of_below hB)) hn)
 have HB:=Lib.hid hB
 have HV:Hid (validS (.mk op n s args)=if firstE (Ex.mk op n s args).nodes=0∧(24 < (Ex.mk op n s args).depth∨400 < (Ex.mk op n s args).nodes.length) then 2 else firstE (Ex.mk op n s args).nodes):=rfl
 generalize validS (.mk op n s args)=vv at HV⊢
 clear hB hE hn
 generalize firstE (Ex.mk op n s args).nodes=ff at HC HV
 generalize (Ex.mk op n s args).depth=dd at HC HV
 generalize (Ex.mk op n s args).nodes.length=nn at HC HV
 go_enter Tryz.func147, Tryz.ntmps147
 go_wp2_with fail
 refine HC.out.mono ?_
 rintro e w2 ⟨rfl,hI,hb⟩
 obtain⟨_,v1,v2,hp,_⟩:=hI
 simp only[World.size_alloc] at hp
 have c0:w2.cell? ⟨w.heap.size+1+1,0,none⟩=some (.int .i64 nn):=by simp[World.cell?,hp]
 have c1:w2.cell? ⟨w.heap.size+1+1,1,none⟩=some (.int .i64 dd):=by simp[World.cell?,hp]
 have c2:w2.cell? ⟨w.heap.size+1+1,2,none⟩=some (.int .i64 ff):=by simp[World.cell?,hp]
 have H2:Hid (Below w.heap.size w w2):=HB.out.trans (hb.mono (by simp))
 clear hp hb
 go_wp2_with fail
 all_goals go_ret
 all_goals refine⟨?_,H2.out⟩
 all_goals rw[HV.out]
 all_goals congr 2
 all_goals simp_all
 all_goals (try omega)
set_option maxHeartbeats 1000000 in
theorem rNames_any (op n:Int) (s:ByteArray) (args:List Ex) (a:Option Addr) (cap:Nat) (w:World) (hE:ExIn w (.mk op n s args) a cap) (hn:(Ex.mk op n s args).nodes.length≤1000000000) :
  Calls Tryz.prog 164 #[.agg #[.int .i64 op,.int .i64 n,.string s,.slice a args.length cap]] w fun e w' =>
   (∃ a' cap',e=.returned (.slice a' (namesS [2] (.mk op n s args)).length cap')∧StrsIn w' (namesS [2] (.mk op n s args)) a' cap')∧Below w.heap.size w w':=by
 have hB:Below w.heap.size w (w.alloc (.cells #[.int .i64 op,.int .i64 n,.string s,.slice a args.length cap] 72)):=bel
 have HC:=Lib.hid (over_any op n s args a cap _ (hE.keep (keeps_of_below hB)) hn)
 have HB:=Lib.hid hB
 have HN:=Lib.hid (names_len [2] (Ex.mk op n s args).nodes [])
 have Hn:=Lib.hid hn
 clear hB hE hn
 go_enter Tryz.func164, Tryz.ntmps164
 go_wp2_with fail
 refine HC.out.mono ?_
 rintro e w2 ⟨rfl,hI,hb⟩
 obtain⟨_,v1,v2,hp,o1,o2,_⟩:=hI
 simp only[World.size_alloc] at hp
 have c3:w2.cell? ⟨w.heap.size+1+1,3,none⟩=some v1:=by simp[World.cell?,hp]
 have c4:w2.cell? ⟨w.heap.size+1+1,4,none⟩=some v2:=by simp[World.cell?,hp]
 have H2:Hid (Below w.heap.size w w2):=HB.out.trans (hb.mono (by simp))
 have H1:=Lib.hid (⟨o1,o2⟩:_∧_)
 clear hp hb o1 o2
 go_wp2_with fail
 go_ret
 refine⟨?_,H2.out⟩
 have hl:(namesS [2] (.mk op n s args)).length≤1073741824:=by
  have:=HN.out;have:=Hn.out
  unfold namesS;simp only[List.length_nil] at *;omega
 first
  | (obtain⟨a',cap',rfl,hs⟩:=strs_of_own H1.out.1 hl;exact⟨a',cap',rfl,hs⟩)
  | (obtain⟨a',cap',rfl,hs⟩:=strs_of_own H1.out.2 hl;exact⟨a',cap',rfl,hs⟩)
set_option maxHeartbeats 1000000 in
theorem rArrays_any (op n:Int) (s:ByteArray) (args:List Ex) (a:Option Addr) (cap:Nat) (w:World) (hE:ExIn w (.mk op n s args) a cap) (hn:(Ex.mk op n s args).nodes.length≤1000000000) :
  Calls Tryz.prog 163 #[.agg #[.int .i64 op,.int .i64 n,.string s,.slice a args.length cap]] w fun e w' =>
   (∃ a' cap',e=.returned (.slice a' (namesS [3,24] (.mk op n s args)).length cap')∧StrsIn w' (namesS [3,24] (.mk op n s args)) a' cap')∧Below w.heap.size w w':=by
 have hB:Below w.heap.size w (w.alloc (.cells #[.int .i64 op,.int .i64 n,.string s,.slice a args.length cap] 72)):=bel
 have HC:=Lib.hid (over_any op n s args a cap _ (hE.keep (keeps_of_below hB)) hn)
 have HB:=Lib.hid hB
 have HN:=Lib.hid (names_len [3,24] (Ex.mk op n s args).nodes [])
 have Hn:=Lib.hid hn
 clear hB hE hn
 go_enter Tryz.func163, Tryz.ntmps163
 go_wp2_with fail
 refine HC.out.mono ?_
 rintro e w2 ⟨rfl,hI,hb⟩
 obtain⟨_,v1,v2,hp,o1,o2,_⟩:=hI
 simp only[World.size_alloc] at hp
 have c3:w2.cell? ⟨w.heap.size+1+1,3,none⟩=some v1:=by simp[World.cell?,hp]
 have c4:w2.cell? ⟨w.heap.size+1+1,4,none⟩=some v2:=by simp[World.cell?,hp]
 have H2:Hid (Below w.heap.size w w2):=HB.out.trans (hb.mono (by simp))
 have H1:=Lib.hid (⟨o1,o2⟩:_∧_)
 clear hp hb o1 o2
 go_wp2_with fail
 go_ret
 refine⟨?_,H2.out⟩
 have hl:(namesS [3,24] (.mk op n s args)).length≤1073741824:=by
  have:=HN.out;have:=Hn.out
  unfold namesS;simp only[List.length_nil] at *;omega
 first
  | (obtain⟨a',cap',rfl,hs⟩:=strs_of_own H1.out.1 hl;exact⟨a',cap',rfl,hs⟩)
  | (obtain⟨a',cap',rfl,hs⟩:=strs_of_own H1.out.2 hl;exact⟨a',cap',rfl,hs⟩)
end Go.Proofs.YtebneadheaefdaaGreatDoor
namespace Go.Proofs.YtebneadheaefdaaGreatDoor
open Go.RowKit
instance (B:Nat) (w:World):Nonempty (Grow B w):=⟨⟨w,Below.refl _ _⟩⟩
theorem wp_region_grow {P:Program} {id:Nat} {Q:Exit→Act→World→Prop} {a:Act} {w:World} {l:List Oper} {B:Nat} {w0:World} (hm:P.follows .mixedOrders=true) (hB:Region.lexB .any l.toArray=true) (hW:Below B w0 w)
  (h:wpQuiet P l.toArray (fun w'=>∃ g:Grow B w0,w'=g.w') (fun a'=>∀ w',(∃ g:Grow B w0,w'=g.w')→Q .normal a' w') l a):(Code.region id l.toArray true).wp P Q a w :=
 wp_region_quiet (C:=fun w'=>∃ g:Grow B w0,w'=g.w') hm hB ⟨⟨_,Below.drew hW⟩,rfl⟩ (by simpa using h)
theorem grow_out {B:Nat} {w0 w':World} (h:∃ g:Grow B w0,w'=g.w'):Below B w0 w':=by
 obtain⟨g,rfl⟩:=h;exact g.h
theorem grow_call {P:Program} {f:FuncId} {args:Array Value} {B:Nat} {w0 w:World} {v:Value} (h:Calls P f args w fun e w'=>e=.returned v∧Below B w0 w'):Calls P f args w fun e w''=>e=.returned v∧∃ g:Grow B w0,w''=g.w' :=
 h.mono fun _ _ h=>⟨h.1,⟨_,h.2⟩,rfl⟩
end Go.Proofs.YtebneadheaefdaaGreatDoor
namespace Go.Proofs.YtebneadheaefdaaGreatDoor
open Go.RowKit
attribute [local go_sem ↓] Go.wp_at_zero Go.wp_at_succ
noncomputable def pB (P:Prop):Bool:=@decide P (Classical.propDecidable P)
theorem pB_true {P:Prop} (h:P):pB P=true:=by unfold pB;exact @decide_eq_true P (Classical.propDecidable P) h
theorem pB_false {P:Prop} (h:¬ P):pB P=false:=by unfold pB;exact @decide_eq_false P (Classical.propDecidable P) h
end Go.Proofs.YtebneadheaefdaaGreatDoor
namespace Go.Proofs.YtebneadheaefdaaGreatDoor
open Go.RowKit
attribute [local go_sem ↓] Go.wp_at_zero Go.wp_at_succ
set_option maxRecDepth 100000 in
set_option maxHeartbeats 8000000 in
theorem rNames31_any (d:DesD) (x:DesA) (w:World) (hE:DesIn w d x) (hl:d.names.length≤1073741824) :
  Calls Tryz.prog 51 #[desVal d x] w fun e w'=>(∃ a cap,e=.returned (.slice a d.names.length cap)∧StrsIn w' d.names a cap)∧Below w.heap.size w w':=by
 have HP:=Lib.hid hE.ins
 have HPA:=Lib.hid hE.ins.addr
 have HW:=Lib.hid hE.wires
 have HWA:=Lib.hid hE.wires.addr
 have HR:=Lib.hid hE.regs
 have HRA:=Lib.hid hE.regs.addr
 have HNl:Hid (d.names.length=d.inputs.length+d.wires.length+d.regs.length):=by show _=_;simp[DesD.names];omega
 have hll:d.inputs.length+d.wires.length+d.regs.length≤1073741824:=by have:=HNl.out;omega
 have HS0:Hid (∀ k (h:k < d.inputs.length),(d.names.map Value.string).take ((k+1))=(d.names.map Value.string).take (k)++[Value.string (d.inputs[k]'h).name]):=fun k h=>by rw[← List.map_take,← List.map_take,take_names0 d k h,List.map_append];rfl
 have HS1:Hid (∀ k (h:k < d.wires.length),(d.names.map Value.string).take (d.inputs.length+(k+1))=(d.names.map Value.string).take (d.inputs.length+k)++[Value.string (d.wires[k]'h).name]):=fun k h=>by rw[← List.map_take,← List.map_take,take_names1 d k h,List.map_append];rfl
 have HS2:Hid (∀ k (h:k < d.regs.length),(d.names.map Value.string).take (d.inputs.length+d.wires.length+(k+1))=(d.names.map Value.string).take (d.inputs.length+d.wires.length+k)++[Value.string (d.regs[k]'h).name]):=fun k h=>by rw[← List.map_take,← List.map_take,take_names2 d k h,List.map_append];rfl
 have HM:Hid ((d.names.map Value.string).take (d.inputs.length+d.wires.length+d.regs.length)=d.names.map Value.string):=List.take_of_length_le (by rw[List.length_map,HNl.out];omega)
 generalize hM:d.names.map Value.string=M at HS0 HS1 HS2 HM
 have HMN:=Lib.hid hM
 generalize d.names=N at HNl HMN⊢
 clear hM
 clear hE hl
 obtain⟨nm,ins,wires,regs,outs⟩:=d
 obtain⟨ai,ci,aw,cw,ar,cr,ao,co⟩:=x
 simp only at HP HPA HW HWA HR HRA HNl hll HS0 HS1 HS2 HM
 show Calls _ _ #[.agg #[.string nm,.slice ai ins.length ci,.slice aw wires.length cw,.slice ar regs.length cr,.slice ao outs.length co]] _ _
 go_enter Tryz.func51, Tryz.ntmps51
 go_wp2_with fail
 go_loopw [4,3] (fun i v wr=>∃ k:Nat,i=.int .i64 k∧k≤ins.length∧Hid (wr.ownsRow (w.heap.size+1) 9 1 v (k) (M.take (k)))∧Hid (Below (w.heap.size+1) (w.alloc (.cells #[.string nm,.slice ai ins.length ci,.slice aw wires.length cw,.slice ar regs.length cr,.slice ao outs.length co] 27)) wr)) (fun i _ _=>ins.length - (intOf i).toNat)
 case atStart=>exact⟨0,rfl,Nat.zero_le _,World.ownsRow_nil _ _ _ _,Below.refl _ _⟩
 case round =>
  obtain⟨k,rfl,hk,HO,HB⟩:=hrel
  have HBw:=Lib.hid (boxW _ HB.out)
  have hzr:=HB.out.size
  simp only[World.size_alloc] at hzr
  ((try clear b0 b1 b2 b3 b4);have b0:=box_cell HB.out 0;have b1:=box_cell HB.out 1;have b2:=box_cell HB.out 2;have b3:=box_cell HB.out 3;have b4:=box_cell HB.out 4;(try simp at b0 b1 b2 b3 b4))
  by_cases hlt:k < ins.length
  ·obtain⟨b,off,ha⟩:=HPA.out.resolve_left (by omega)
   subst ha
   obtain⟨c0,c1⟩:=(HP.out.keep (keeps_of_below HBw.out)).get rfl hlt
   clear c1
   have HS:=Lib.hid (HS0.out k hlt)
   generalize (ins[k]'hlt)=e at c0 HS
   have hkn:k≤1073741824:=by omega
   obtain⟨va,vc,hv,_⟩:=slice_of_own HO.out hkn
   subst hv
   go_wp2_with (at_builtin;go_must (refine own_app elemS _ rfl (.tmp 14) (.tmp 21) rfl (w.heap.size+1) (.slice va (k) vc) (k) (M.take (k)) rfl HO.out [.string e.name] rfl (by simp[Value.oneCell']) _ 1 rfl (by first | rfl | simp) hkn sz ?_))
   intro v' w1 ho hg
   have HO1:=Lib.hid ho
   have HB1:Hid (Below (w.heap.size+1) (w.alloc (.cells #[.string nm,.slice (some ⟨b,off,none⟩) ins.length ci,.slice aw wires.length cw,.slice ar regs.length cr,.slice ao outs.length co] 27)) w1):=Below.grown (by repeat (first | exact HB.out | refine Below.alloc ?_ sz _)) hg sz (fun j hj=>(HO.out.lt j hj).1)
   clear ho hg c0 b0 b1 b2 b3 b4
   go_wp2_with fail
   go_roundw
   case rel=>exact⟨k+1,by go_num,by omega,(by show World.ownsRow _ _ _ _ _ _ _;rw[HS.out];exact HO1.out),HB1.out⟩
   case measure=>(simp[intOf];try omega)
  ·obtain rfl:k=ins.length:=by omega
   go_wp2_with fail
   go_loopw [5,3] (fun i v wr=>∃ k:Nat,i=.int .i64 k∧k≤wires.length∧Hid (wr.ownsRow (w.heap.size+1) 9 1 v (ins.length+k) (M.take (ins.length+k)))∧Hid (Below (w.heap.size+1) (w.alloc (.cells #[.string nm,.slice ai ins.length ci,.slice aw wires.length cw,.slice ar regs.length cr,.slice ao outs.length co] 27)) wr)) (fun i _ _=>wires.length - (intOf i).toNat)
   case atStart=>exact⟨0,rfl,Nat.zero_le _,HO.out,HB.out⟩
   case round =>
    obtain⟨k,rfl,hk,HO,HB⟩:=hrel
    have HBw:=Lib.hid (boxW _ HB.out)
    have hzr:=HB.out.size
    simp only[World.size_alloc] at hzr
    ((try clear b0 b1 b2 b3 b4);have b0:=box_cell HB.out 0;have b1:=box_cell HB.out 1;have b2:=box_cell HB.out 2;have b3:=box_cell HB.out 3;have b4:=box_cell HB.out 4;(try simp at b0 b1 b2 b3 b4))
    by_cases hlt:k < wires.length
    ·obtain⟨b,off,ha⟩:=HWA.out.resolve_left (by omega)
     subst ha
     obtain⟨ae,ce,c0,c1,c2,c3,c4,c5,_⟩:=(HW.out.keep (keeps_of_below HBw.out)).get rfl hlt
     clear c1 c2 c3 c4 c5
     have HS:=Lib.hid (HS1.out k hlt)
     generalize (wires[k]'hlt)=e at c0 HS
     have hkn:ins.length+k≤1073741824:=by omega
     obtain⟨va,vc,hv,_⟩:=slice_of_own HO.out hkn
     subst hv
     go_wp2_with (at_builtin;go_must (refine own_app elemS _ rfl (.tmp 30) (.tmp 37) rfl (w.heap.size+1) (.slice va (ins.length+k) vc) (ins.length+k) (M.take (ins.length+k)) rfl HO.out [.string e.name] rfl (by simp[Value.oneCell']) _ 1 rfl (by first | rfl | simp) hkn sz ?_))
     intro v' w1 ho hg
     have HO1:=Lib.hid ho
     have HB1:Hid (Below (w.heap.size+1) (w.alloc (.cells #[.string nm,.slice ai ins.length ci,.slice (some ⟨b,off,none⟩) wires.length cw,.slice ar regs.length cr,.slice ao outs.length co] 27)) w1):=Below.grown (by repeat (first | exact HB.out | refine Below.alloc ?_ sz _)) hg sz (fun j hj=>(HO.out.lt j hj).1)
     clear ho hg c0 b0 b1 b2 b3 b4
     go_wp2_with fail
     go_roundw
     case rel=>exact⟨k+1,by go_num,by omega,(by show World.ownsRow _ _ _ _ _ _ _;rw[HS.out];exact HO1.out),HB1.out⟩
     case measure=>(simp[intOf];try omega)
    ·obtain rfl:k=wires.length:=by omega
     go_wp2_with fail
     go_loopw [6,3] (fun i v wr=>∃ k:Nat,i=.int .i64 k∧k≤regs.length∧Hid (wr.ownsRow (w.heap.size+1) 9 1 v (ins.length+wires.length+k) (M.take (ins.length+wires.length+k)))∧Hid (Below (w.heap.size+1) (w.alloc (.cells #[.string nm,.slice ai ins.length ci,.slice aw wires.length cw,.slice ar regs.length cr,.slice ao outs.length co] 27)) wr)) (fun i _ _=>regs.length - (intOf i).toNat)
     case atStart=>exact⟨0,rfl,Nat.zero_le _,HO.out,HB.out⟩
     case round =>
      obtain⟨k,rfl,hk,HO,HB⟩:=hrel
      have HBw:=Lib.hid (boxW _ HB.out)
      have hzr:=HB.out.size
      simp only[World.size_alloc] at hzr
      ((try clear b0 b1 b2 b3 b4);have b0:=box_cell HB.out 0;have b1:=box_cell HB.out 1;have b2:=box_cell HB.out 2;have b3:=box_cell HB.out 3;have b4:=box_cell HB.out 4;(try simp at b0 b1 b2 b3 b4))
      by_cases hlt:k < regs.length
      ·obtain⟨b,off,ha⟩:=HRA.out.resolve_left (by omega)
       subst ha
       obtain⟨ae,ce,c0,c1,c2,c3,c4,c5,c6,_⟩:=(HR.out.keep (keeps_of_below HBw.out)).get rfl hlt
       clear c1 c2 c3 c4 c5 c6
       have HS:=Lib.hid (HS2.out k hlt)
       generalize (regs[k]'hlt)=e at c0 HS
       have hkn:ins.length+wires.length+k≤1073741824:=by omega
       obtain⟨va,vc,hv,_⟩:=slice_of_own HO.out hkn
       subst hv
       go_wp2_with (at_builtin;go_must (refine own_app elemS _ rfl (.tmp 46) (.tmp 53) rfl (w.heap.size+1) (.slice va (ins.length+wires.length+k) vc) (ins.length+wires.length+k) (M.take (ins.length+wires.length+k)) rfl HO.out [.string e.name] rfl (by simp[Value.oneCell']) _ 1 rfl (by first | rfl | simp) hkn sz ?_))
       intro v' w1 ho hg
       have HO1:=Lib.hid ho
       have HB1:Hid (Below (w.heap.size+1) (w.alloc (.cells #[.string nm,.slice ai ins.length ci,.slice aw wires.length cw,.slice (some ⟨b,off,none⟩) regs.length cr,.slice ao outs.length co] 27)) w1):=Below.grown (by repeat (first | exact HB.out | refine Below.alloc ?_ sz _)) hg sz (fun j hj=>(HO.out.lt j hj).1)
       clear ho hg c0 b0 b1 b2 b3 b4
       go_wp2_with fail
       go_roundw
       case rel=>exact⟨k+1,by go_num,by omega,(by show World.ownsRow _ _ _ _ _ _ _;rw[HS.out];exact HO1.out),HB1.out⟩
       case measure=>(simp[intOf];try omega)
      ·obtain rfl:k=regs.length:=by omega
       go_wp2_with fail
       go_ret
       have ho:=HO.out
       rw[HM.out] at ho
       have hl:N.length≤1073741824:=by rw[HNl.out];omega
       obtain⟨a',cap',rfl,hs⟩:=strs_of_own (show World.ownsRow _ _ _ _ _ N.length _ by rw[HNl.out,HMN.out];exact ho) hl
       exact⟨⟨a',cap',rfl,hs⟩,HBw.out⟩
set_option maxRecDepth 100000 in
set_option maxHeartbeats 8000000 in
theorem rwidths31_any (d:DesD) (x:DesA) (w:World) (hE:DesIn w d x) (hl:d.widths.length≤1073741824) :
  Calls Tryz.prog 162 #[desVal d x] w fun e w'=>(∃ a cap,e=.returned (.slice a d.widths.length cap)∧IntsIn w' d.widths a cap)∧Below w.heap.size w w':=by
 have HP:=Lib.hid hE.ins
 have HPA:=Lib.hid hE.ins.addr
 have HW:=Lib.hid hE.wires
 have HWA:=Lib.hid hE.wires.addr
 have HR:=Lib.hid hE.regs
 have HRA:=Lib.hid hE.regs.addr
 have HNl:Hid (d.widths.length=d.inputs.length+d.wires.length+d.regs.length):=by show _=_;simp[DesD.widths];omega
 have hll:d.inputs.length+d.wires.length+d.regs.length≤1073741824:=by have:=HNl.out;omega
 have HS0:Hid (∀ k (h:k < d.inputs.length),(d.widths.map (Value.int .i64)).take ((k+1))=(d.widths.map (Value.int .i64)).take (k)++[(Value.int .i64) (d.inputs[k]'h).width]):=fun k h=>by rw[← List.map_take,← List.map_take,take_widths0 d k h,List.map_append];rfl
 have HS1:Hid (∀ k (h:k < d.wires.length),(d.widths.map (Value.int .i64)).take (d.inputs.length+(k+1))=(d.widths.map (Value.int .i64)).take (d.inputs.length+k)++[(Value.int .i64) (d.wires[k]'h).width]):=fun k h=>by rw[← List.map_take,← List.map_take,take_widths1 d k h,List.map_append];rfl
 have HS2:Hid (∀ k (h:k < d.regs.length),(d.widths.map (Value.int .i64)).take (d.inputs.length+d.wires.length+(k+1))=(d.widths.map (Value.int .i64)).take (d.inputs.length+d.wires.length+k)++[(Value.int .i64) (d.regs[k]'h).width]):=fun k h=>by rw[← List.map_take,← List.map_take,take_widths2 d k h,List.map_append];rfl
 have HM:Hid ((d.widths.map (Value.int .i64)).take (d.inputs.length+d.wires.length+d.regs.length)=d.widths.map (Value.int .i64)):=List.take_of_length_le (by rw[List.length_map,HNl.out];omega)
 generalize hM:d.widths.map (Value.int .i64)=M at HS0 HS1 HS2 HM
 have HMN:=Lib.hid hM
 generalize d.widths=N at HNl HMN⊢
 clear hM
 clear hE hl
 obtain⟨nm,ins,wires,regs,outs⟩:=d
 obtain⟨ai,ci,aw,cw,ar,cr,ao,co⟩:=x
 simp only at HP HPA HW HWA HR HRA HNl hll HS0 HS1 HS2 HM
 show Calls _ _ #[.agg #[.string nm,.slice ai ins.length ci,.slice aw wires.length cw,.slice ar regs.length cr,.slice ao outs.length co]] _ _
 go_enter Tryz.func162, Tryz.ntmps162
 go_wp2_with fail
 go_loopw [4,3] (fun i v wr=>∃ k:Nat,i=.int .i64 k∧k≤ins.length∧Hid (wr.ownsRow (w.heap.size+1) 3 1 v (k) (M.take (k)))∧Hid (Below (w.heap.size+1) (w.alloc (.cells #[.string nm,.slice ai ins.length ci,.slice aw wires.length cw,.slice ar regs.length cr,.slice ao outs.length co] 27)) wr)) (fun i _ _=>ins.length - (intOf i).toNat)
 case atStart=>exact⟨0,rfl,Nat.zero_le _,World.ownsRow_nil _ _ _ _,Below.refl _ _⟩
 case round =>
  obtain⟨k,rfl,hk,HO,HB⟩:=hrel
  have HBw:=Lib.hid (boxW _ HB.out)
  have hzr:=HB.out.size
  simp only[World.size_alloc] at hzr
  ((try clear b0 b1 b2 b3 b4);have b0:=box_cell HB.out 0;have b1:=box_cell HB.out 1;have b2:=box_cell HB.out 2;have b3:=box_cell HB.out 3;have b4:=box_cell HB.out 4;(try simp at b0 b1 b2 b3 b4))
  by_cases hlt:k < ins.length
  ·obtain⟨b,off,ha⟩:=HPA.out.resolve_left (by omega)
   subst ha
   obtain⟨c0,c1⟩:=(HP.out.keep (keeps_of_below HBw.out)).get rfl hlt
   clear c0
   have HS:=Lib.hid (HS0.out k hlt)
   generalize (ins[k]'hlt)=e at c1 HS
   have hkn:k≤1073741824:=by omega
   obtain⟨va,vc,hv,_⟩:=slice_of_own HO.out hkn
   subst hv
   go_wp2_with (at_builtin;go_must (refine own_app elemI _ rfl (.tmp 14) (.tmp 21) rfl (w.heap.size+1) (.slice va (k) vc) (k) (M.take (k)) rfl HO.out [.int .i64 e.width] rfl (by simp[Value.oneCell']) _ 1 rfl (by first | rfl | simp) hkn sz ?_))
   intro v' w1 ho hg
   have HO1:=Lib.hid ho
   have HB1:Hid (Below (w.heap.size+1) (w.alloc (.cells #[.string nm,.slice (some ⟨b,off,none⟩) ins.length ci,.slice aw wires.length cw,.slice ar regs.length cr,.slice ao outs.length co] 27)) w1):=Below.grown (by repeat (first | exact HB.out | refine Below.alloc ?_ sz _)) hg sz (fun j hj=>(HO.out.lt j hj).1)
   clear ho hg c1 b0 b1 b2 b3 b4
   go_wp2_with fail
   go_roundw
   case rel=>exact⟨k+1,by go_num,by omega,(by show World.ownsRow _ _ _ _ _ _ _;rw[HS.out];exact HO1.out),HB1.out⟩
   case measure=>(simp[intOf];try omega)
  ·obtain rfl:k=ins.length:=by omega
   go_wp2_with fail
   go_loopw [5,3] (fun i v wr=>∃ k:Nat,i=.int .i64 k∧k≤wires.length∧Hid (wr.ownsRow (w.heap.size+1) 3 1 v (ins.length+k) (M.take (ins.length+k)))∧Hid (Below (w.heap.size+1) (w.alloc (.cells #[.string nm,.slice ai ins.length ci,.slice aw wires.length cw,.slice ar regs.length cr,.slice ao outs.length co] 27)) wr)) (fun i _ _=>wires.length - (intOf i).toNat)
   case atStart=>exact⟨0,rfl,Nat.zero_le _,HO.out,HB.out⟩
   case round =>
    obtain⟨k,rfl,hk,HO,HB⟩:=hrel
    have HBw:=Lib.hid (boxW _ HB.out)
    have hzr:=HB.out.size
    simp only[World.size_alloc] at hzr
    ((try clear b0 b1 b2 b3 b4);have b0:=box_cell HB.out 0;have b1:=box_cell HB.out 1;have b2:=box_cell HB.out 2;have b3:=box_cell HB.out 3;have b4:=box_cell HB.out 4;(try simp at b0 b1 b2 b3 b4))
    by_cases hlt:k < wires.length
    ·obtain⟨b,off,ha⟩:=HWA.out.resolve_left (by omega)
     subst ha
     obtain⟨ae,ce,c0,c1,c2,c3,c4,c5,_⟩:=(HW.out.keep (keeps_of_below HBw.out)).get rfl hlt
     clear c0 c2 c3 c4 c5
     have HS:=Lib.hid (HS1.out k hlt)
     generalize (wires[k]'hlt)=e at c1 HS
     have hkn:ins.length+k≤1073741824:=by omega
     obtain⟨va,vc,hv,_⟩:=slice_of_own HO.out hkn
     subst hv
     go_wp2_with (at_builtin;go_must (refine own_app elemI _ rfl (.tmp 30) (.tmp 37) rfl (w.heap.size+1) (.slice va (ins.length+k) vc) (ins.length+k) (M.take (ins.length+k)) rfl HO.out [.int .i64 e.width] rfl (by simp[Value.oneCell']) _ 1 rfl (by first | rfl | simp) hkn sz ?_))
     intro v' w1 ho hg
     have HO1:=Lib.hid ho
     have HB1:Hid (Below (w.heap.size+1) (w.alloc (.cells #[.string nm,.slice ai ins.length ci,.slice (some ⟨b,off,none⟩) wires.length cw,.slice ar regs.length cr,.slice ao outs.length co] 27)) w1):=Below.grown (by repeat (first | exact HB.out | refine Below.alloc ?_ sz _)) hg sz (fun j hj=>(HO.out.lt j hj).1)
     clear ho hg c1 b0 b1 b2 b3 b4
     go_wp2_with fail
     go_roundw
     case rel=>exact⟨k+1,by go_num,by omega,(by show World.ownsRow _ _ _ _ _ _ _;rw[HS.out];exact HO1.out),HB1.out⟩
     case measure=>(simp[intOf];try omega)
    ·obtain rfl:k=wires.length:=by omega
     go_wp2_with fail
     go_loopw [6,3] (fun i v wr=>∃ k:Nat,i=.int .i64 k∧k≤regs.length∧Hid (wr.ownsRow (w.heap.size+1) 3 1 v (ins.length+wires.length+k) (M.take (ins.length+wires.length+k)))∧Hid (Below (w.heap.size+1) (w.alloc (.cells #[.string nm,.slice ai ins.length ci,.slice aw wires.length cw,.slice ar regs.length cr,.slice ao outs.length co] 27)) wr)) (fun i _ _=>regs.length - (intOf i).toNat)
     case atStart=>exact⟨0,rfl,Nat.zero_le _,HO.out,HB.out⟩
     case round =>
      obtain⟨k,rfl,hk,HO,HB⟩:=hrel
      have HBw:=Lib.hid (boxW _ HB.out)
      have hzr:=HB.out.size
      simp only[World.size_alloc] at hzr
      ((try clear b0 b1 b2 b3 b4);have b0:=box_cell HB.out 0;have b1:=box_cell HB.out 1;have b2:=box_cell HB.out 2;have b3:=box_cell HB.out 3;have b4:=box_cell HB.out 4;(try simp at b0 b1 b2 b3 b4))
      by_cases hlt:k < regs.length
      ·obtain⟨b,off,ha⟩:=HRA.out.resolve_left (by omega)
       subst ha
       obtain⟨ae,ce,c0,c1,c2,c3,c4,c5,c6,_⟩:=(HR.out.keep (keeps_of_below HBw.out)).get rfl hlt
       clear c0 c2 c3 c4 c5 c6
       have HS:=Lib.hid (HS2.out k hlt)
       generalize (regs[k]'hlt)=e at c1 HS
       have hkn:ins.length+wires.length+k≤1073741824:=by omega
       obtain⟨va,vc,hv,_⟩:=slice_of_own HO.out hkn
       subst hv
       go_wp2_with (at_builtin;go_must (refine own_app elemI _ rfl (.tmp 46) (.tmp 53) rfl (w.heap.size+1) (.slice va (ins.length+wires.length+k) vc) (ins.length+wires.length+k) (M.take (ins.length+wires.length+k)) rfl HO.out [.int .i64 e.width] rfl (by simp[Value.oneCell']) _ 1 rfl (by first | rfl | simp) hkn sz ?_))
       intro v' w1 ho hg
       have HO1:=Lib.hid ho
       have HB1:Hid (Below (w.heap.size+1) (w.alloc (.cells #[.string nm,.slice ai ins.length ci,.slice aw wires.length cw,.slice (some ⟨b,off,none⟩) regs.length cr,.slice ao outs.length co] 27)) w1):=Below.grown (by repeat (first | exact HB.out | refine Below.alloc ?_ sz _)) hg sz (fun j hj=>(HO.out.lt j hj).1)
       clear ho hg c1 b0 b1 b2 b3 b4
       go_wp2_with fail
       go_roundw
       case rel=>exact⟨k+1,by go_num,by omega,(by show World.ownsRow _ _ _ _ _ _ _;rw[HS.out];exact HO1.out),HB1.out⟩
       case measure=>(simp[intOf];try omega)
      ·obtain rfl:k=regs.length:=by omega
       go_wp2_with fail
       go_ret
       have ho:=HO.out
       rw[HM.out] at ho
       have hl:N.length≤1073741824:=by rw[HNl.out];omega
       obtain⟨a',cap',rfl,hs⟩:=ints_of_own (show World.ownsRow _ _ _ _ _ N.length _ by rw[HNl.out,HMN.out];exact ho) hl
       exact⟨⟨a',cap',rfl,hs⟩,HBw.out⟩
end Go.Proofs.YtebneadheaefdaaGreatDoor
namespace Go.Proofs.YtebneadheaefdaaGreatDoor
open Go.RowKit Go.WideMaps
attribute [local go_sem ↓] Go.wp_at_zero Go.wp_at_succ
theorem idxI_neg {l:List ByteArray} {s:ByteArray}:idxI l s < 0↔(idxT l s).isSome=false:=by
 unfold idxI
 cases idxT l s<;>simp
theorem idxI_ne {l:List ByteArray} {s:ByteArray} {i:Nat}:idxI l s≠i↔idxT l s≠some i:=by
 unfold idxI
 cases idxT l s<;>simp
 omega
set_option maxHeartbeats 2000000 in
theorem index_any (l:List ByteArray) (a:Option Addr) (cap:Nat) (s:ByteArray) (w:World) (hE:StrsIn w l a cap) :
  Calls Tryz.prog 161 #[.slice a l.length cap,.string s] w fun e w'=>e=.returned (.int .i64 (idxI l s))∧w=w':=by
 have hlen:=hE.2.1
 have HA:=Lib.hid hE.addr
 have HE:=Lib.hid hE
 clear hE
 go_enter Tryz.func161, Tryz.ntmps161
 go_wp2_with fail
 go_loop [5] (fun i=>∃ k:Nat,i=.int .i64 k∧k≤l.length∧Hid (∀ j (hj:j < l.length),j < k→((l[j]'hj).toList == s.toList)=false)) (fun i=>l.length - (intOf i).toNat)
 case atStart=>exact⟨0,rfl,Nat.zero_le _,fun _ _ h=>absurd h (by omega)⟩
 case round =>
  obtain⟨k,rfl,hk,HF⟩:=hrel
  by_cases hlt:k < l.length
  ·obtain⟨b,off,ha⟩:=HA.out.resolve_left (by omega)
   subst ha
   have c0:=HE.out.get rfl hlt
   cases heq:((l[k]'hlt).toList == s.toList)
   ·have HS:Hid (∀ j (hj:j < l.length),j < k+1→((l[j]'hj).toList == s.toList)=false):=fun j hj hjk=>by
     by_cases e:j=k
     ·subst e;exact heq
     ·exact HF.out j hj (by omega)
    go_wp2_with fail
    go_round
    case rel=>exact⟨k+1,by go_num,by omega,HS⟩
    case measure=>(simp[intOf];try omega)
   ·have HI:Hid (idxI l s=k):=by show _=_;unfold idxI;rw[idxI_at hlt HF.out heq]
    go_wp2_with fail
    go_ret
    exact⟨by rw[HI.out];rfl,rfl⟩
  ·obtain rfl:k=l.length:=by omega
   have HI:Hid (idxI l s=-1):=by show _=_;unfold idxI;rw[idxT_not (fun j hj=>HF.out j hj hj)]
   go_wp2_with fail
   go_ret
   exact⟨by rw[HI.out];rfl,rfl⟩
end Go.Proofs.YtebneadheaefdaaGreatDoor
namespace Go.Proofs.YtebneadheaefdaaGreatDoor
open Go.RowKit
attribute [local go_sem ↓] Go.wp_at_zero Go.wp_at_succ
def DesD.nmErr (d:DesD):Int:=if (!(nameB d.name.data.toList) || !(d.names.all fun s=>nameB s.data.toList))=true then 7 else if 48 < d.names.length then 2 else if dupT d.names=true then 8 else 0
def DesD.numErr (d:DesD):Int:=if d.widths.any wideB=true then 1 else if d.regs.any initB=true then 1 else 0
theorem sigErr_two (d:DesD):d.sigErr=if d.nmErr≠0 then d.nmErr else d.numErr:=by
 rw[sigErr_eq]
 unfold sigC DesD.nmErr DesD.numErr
 by_cases h1:(!(nameB d.name.data.toList) || !(d.names.all fun s=>nameB s.data.toList))=true
 ·rw[if_pos h1,if_pos h1];simp
 ·rw[if_neg h1,if_neg h1]
  by_cases h2:48 < d.names.length
  ·simp[h2]
  ·cases h3:dupT d.names<;>simp[h2]
theorem nmErr_name {d:DesD} (h:nameB d.name.data.toList=false):d.nmErr=7:=by unfold DesD.nmErr;rw[if_pos (by rw[h];rfl)]
theorem nmErr_names {d:DesD} (h:(d.names.all fun s=>nameB s.data.toList)=false):d.nmErr=7:=by unfold DesD.nmErr;rw[if_pos (by rw[h];simp)]
theorem nmErr_rest {d:DesD} (h:nameB d.name.data.toList=true) (h1:(d.names.all fun s=>nameB s.data.toList)=true):d.nmErr=if 48 < d.names.length then 2 else if dupT d.names=true then 8 else 0:=by unfold DesD.nmErr;rw[if_neg (by rw[h,h1];simp)]
theorem numErr_w {d:DesD} {k:Nat} (hk:k < d.widths.length) (h:wideB (d.widths[k]'hk)=true):d.numErr=1:=by
 unfold DesD.numErr;rw[if_pos (List.any_eq_true.2 ⟨_,List.getElem_mem hk,h⟩)]
theorem numErr_r {d:DesD} {k:Nat} (hk:k < d.regs.length) (h:initB (d.regs[k]'hk)=true):d.numErr=1:=by
 unfold DesD.numErr
 split
 ·rfl
 ·rw[if_pos (List.any_eq_true.2 ⟨_,List.getElem_mem hk,h⟩)]
theorem numErr_no {d:DesD} (h1:∀ k (hk:k < d.widths.length),wideB (d.widths[k]'hk)=false) (h2:∀ k (hk:k < d.regs.length),initB (d.regs[k]'hk)=false):d.numErr=0:=by
 unfold DesD.numErr
 rw[if_neg,if_neg]
 ·rw[List.any_eq_true];rintro ⟨x,hx,h⟩;obtain⟨k,hk,rfl⟩:=List.getElem_of_mem hx;rw[h2 k hk] at h;simp at h
 ·rw[List.any_eq_true];rintro ⟨x,hx,h⟩;obtain⟨k,hk,rfl⟩:=List.getElem_of_mem hx;rw[h1 k hk] at h;simp at h
set_option maxRecDepth 100000 in
set_option maxHeartbeats 8000000 in
theorem named_any (d:DesD) (x:DesA) (w:World) (hE:DesIn w d x) (hs:DesSmall d) :
  Calls Tryz.prog 101 #[desVal d x] w fun e w'=>e=.returned (.int .i64 d.nmErr)∧Below w.heap.size w w':=by
 have hN:d.names.length≤3145728:=by have:=hs.len;simp[DesD.names];omega
 have HN0:=Lib.hid (fun W (hW:Below w.heap.size w W)=>rNames31_any d x W (hE.below hW) (by omega))
 have HI0:=Lib.hid (fun W=>risName_any d.name W hs.nm)
 have HSz:=Lib.hid hs.names
 have HE7:Hid (nameB d.name.data.toList=false→d.nmErr=7):=nmErr_name
 have HE7b:Hid ((d.names.all fun s=>nameB s.data.toList)=false→d.nmErr=7):=nmErr_names
 have HEr:Hid (nameB d.name.data.toList=true→(d.names.all fun s=>nameB s.data.toList)=true→d.nmErr=if 48 < d.names.length then 2 else if dupT d.names=true then 8 else 0):=nmErr_rest
 generalize d.nmErr=err at HE7 HE7b HEr⊢
 generalize nameB d.name.data.toList=n0 at HI0 HE7 HEr
 generalize d.names=N at HN0 HSz HE7b HEr hN
 clear hE hs
 obtain⟨nm,ins,wires,regs,outs⟩:=d
 obtain⟨ai,ci,aw,cw,ar,cr,ao,co⟩:=x
 simp only[desVal,desVals] at HN0 HI0⊢
 have HN1:=Lib.hid (HN0.out (w.alloc (.cells #[.string nm,.slice ai ins.length ci,.slice aw wires.length cw,.slice ar regs.length cr,.slice ao outs.length co] 27)) ((Below.refl _ _).alloc (Nat.le_refl _) _))
 clear HN0
 go_enter Tryz.func101, Tryz.ntmps101
 go_wp2_with fail
 refine HN1.out.mono ?_
 rintro e w1 ⟨⟨aN,cN,rfl,hst⟩,hb1⟩
 simp only[World.size_alloc] at hb1
 have HB:=Lib.hid hb1
 have HSt:=Lib.hid hst
 have HSA:=Lib.hid hst.addr
 have HI1:=Lib.hid (HI0.out w1)
 clear hb1 hst HN1 HI0
 ((try clear b0 b1 b2 b3 b4);have b0:=box_cell HB.out 0;have b1:=box_cell HB.out 1;have b2:=box_cell HB.out 2;have b3:=box_cell HB.out 3;have b4:=box_cell HB.out 4;(try simp at b0 b1 b2 b3 b4))
 go_wp2_with fail
 refine HI1.out.mono ?_
 rintro e w2 ⟨rfl,hb2⟩
 have HB2:=Lib.hid (HB.out.trans (hb2.mono (by have:=HB.out.size;simp at this;omega)))
 have HBw2:=Lib.hid (boxW _ HB2.out)
 have HSt2:=Lib.hid (HSt.out.keep (keeps_of_below hb2))
 clear hb2 HI1 b0 b1 b2 b3 b4
 cases n0
 ·have HR:=Lib.hid (HE7.out rfl)
  go_wp2_with fail
  go_ret
  exact⟨by rw[HR.out];rfl,HBw2.out⟩
 have HEr2:=Lib.hid (HEr.out rfl)
 clear HEr HE7
 go_wp2_with fail
 go_loopw [4] (fun i wr=>∃ k:Nat,i=.int .i64 k∧k≤N.length∧Hid (∀ j (hj:j < N.length),j < k→nameB (N[j]'hj).data.toList=true)∧Hid (Below w2.heap.size w2 wr)) (fun i _=>N.length - (intOf i).toNat)
 case atStart=>exact⟨0,rfl,Nat.zero_le _,fun _ _ h=>absurd h (by omega),Below.refl _ _⟩
 case round =>
  obtain⟨k,rfl,hk,HF,HBr⟩:=hrel
  have HBwr:=Lib.hid (HBw2.out.trans (HBr.out.mono HBw2.out.size))
  by_cases hlt:k < N.length
  ·obtain⟨b,off,ha⟩:=HSA.out.resolve_left (by omega)
   subst ha
   have c0:=(keeps_of_below HBr.out) _ _ (HSt2.out.get rfl hlt)
   have HC:=Lib.hid (risName_any (N[k]'hlt) wr (HSz.out _ (List.getElem_mem hlt)))
   have HNx:Hid (nameB (N[k]'hlt).data.toList=true→∀ j (hj:j < N.length),j < k+1→nameB (N[j]'hj).data.toList=true):=fun h j hj hjk=>by
    by_cases e:j=k
    ·subst e;exact h
    ·exact HF.out j hj (by omega)
   have HNo:Hid (nameB (N[k]'hlt).data.toList=false→err=7):=fun h=>HE7b.out (all_not (P:=fun s=>nameB s.data.toList) hlt h)
   generalize hnb:nameB (N[k]'hlt).data.toList=nb at HC HNx HNo
   clear hnb
   generalize (N[k]'hlt)=s at c0 HC
   cases nb
   ·have HR:=Lib.hid (HNo.out rfl)
    go_wp2_with fail
    refine HC.out.mono ?_
    rintro e w3 ⟨rfl,hb3⟩
    have HB3:=Lib.hid (HBwr.out.trans (hb3.mono HBwr.out.size))
    clear hb3
    go_wp2_with fail
    go_ret
    exact⟨by rw[HR.out];rfl,HB3.out⟩
   ·have HNx2:=Lib.hid (HNx.out rfl)
    go_wp2_with fail
    refine HC.out.mono ?_
    rintro e w3 ⟨rfl,hb3⟩
    have HB3:=Lib.hid (HBr.out.trans (hb3.mono HBr.out.size))
    clear hb3 HNo HNx
    go_wp2_with fail
    go_roundw
    case rel=>exact⟨k+1,by go_num,by omega,HNx2,HB3⟩
    case measure=>(simp[intOf];try omega)
  ·obtain rfl:k=N.length:=by omega
   have HEr3:=Lib.hid (HEr2.out (all_yes (P:=fun s=>nameB s.data.toList) (fun j hj=>HF.out j hj hj)))
   by_cases hl:48 < N.length
   ·have hd:decide ((48:Int) < (N.length:Int))=true:=by simp;omega
    have HR:Hid (err=2):=by show _=_;rw[HEr3.out,if_pos hl]
    clear hl
    go_wp2_with fail
    go_ret
    exact⟨by rw[HR.out];rfl,HBwr.out⟩
   have hd:decide ((48:Int) < (N.length:Int))=false:=by simp;omega
   have HEr4:Hid (err=if dupT N=true then 8 else 0):=by show _=_;rw[HEr3.out,if_neg hl]
   have HSt3:=Lib.hid (HSt2.out.keep (keeps_of_below HBr.out))
   clear hl HEr3 HEr2 HE7b
   go_wp2_with fail
   go_loop [5] (fun i=>∃ k:Nat,i=.int .i64 k∧k≤N.length∧Hid (∀ j (hj:j < N.length),j < k→idxT N (N[j]'hj)=some j)) (fun i=>N.length - (intOf i).toNat)
   case atStart=>exact⟨0,rfl,Nat.zero_le _,fun _ _ h=>absurd h (by omega)⟩
   case round =>
    obtain⟨k,rfl,hk,HF⟩:=hrel
    by_cases hlt:k < N.length
    ·obtain⟨b,off,ha⟩:=HSA.out.resolve_left (by omega)
     subst ha
     have c0:=HSt3.out.get rfl hlt
     have HC:=Lib.hid (index_any N (some ⟨b,off,none⟩) cN (N[k]'hlt) wr HSt3.out)
     have HNx:Hid (idxT N (N[k]'hlt)=some k→∀ j (hj:j < N.length),j < k+1→idxT N (N[j]'hj)=some j):=fun h j hj hjk=>by
      by_cases e:j=k
      ·subst e;exact h
      ·exact HF.out j hj (by omega)
     have HNo:Hid (¬ idxT N (N[k]'hlt)=some k→err=8):=fun h=>by
      rw[HEr4.out,if_pos]
      cases hdd:dupT N with
      | true=>rfl
      | false=>exact absurd (dupT_idx.1 hdd k hlt) h
     have hII:idxI N (N[k]'hlt)≠k↔idxT N (N[k]'hlt)≠some k:=idxI_ne
     generalize idxT N (N[k]'hlt)=it at HNx HNo hII
     generalize idxI N (N[k]'hlt)=ii at HC hII
     generalize (N[k]'hlt)=s at c0 HC
     by_cases hi:it=some k
     ·have hik:ii=k:=by
       by_cases e:ii=k
       ·exact e
       ·exact absurd hi (hII.1 e)
      have HNx2:=Lib.hid (HNx.out hi)
      subst hik
      clear hi hII HNx HNo
      go_wp2_with fail
      refine HC.out.mono ?_
      rintro e w3 ⟨rfl,rfl⟩
      go_wp2_with fail
      go_round
      case rel=>exact⟨k+1,by go_num,by omega,HNx2⟩
      case measure=>(simp[intOf];try omega)
     ·have hik:ii≠k:=hII.2 hi
      have HR:=Lib.hid (HNo.out hi)
      have hne:(ii != (k:Int))=true:=by simpa using hik
      clear hi hII HNx HNo hik
      go_wp2_with fail
      refine HC.out.mono ?_
      rintro e w3 ⟨rfl,rfl⟩
      go_wp2_with fail
      go_ret
      exact⟨by rw[HR.out];rfl,HBwr.out⟩
    ·obtain rfl:k=N.length:=by omega
     have HR:Hid (err=0):=by
      show _=_
      rw[HEr4.out,if_neg]
      rw[dupT_idx.2 (fun j hj=>HF.out j hj hj)];simp
     go_wp2_with fail
     go_ret
     exact⟨by rw[HR.out];rfl,HBwr.out⟩
set_option maxRecDepth 100000 in
set_option maxHeartbeats 8000000 in
theorem numbered_any (d:DesD) (x:DesA) (w:World) (hE:DesIn w d x) (hs:DesSmall d) :
  Calls Tryz.prog 102 #[desVal d x] w fun e w'=>e=.returned (.int .i64 d.numErr)∧Below w.heap.size w w':=by
 have hN:d.widths.length≤3145728:=by have:=hs.len;simp[DesD.widths];omega
 have HN0:=Lib.hid (fun W (hW:Below w.heap.size w W)=>rwidths31_any d x W (hE.below hW) (by omega))
 have HR:=Lib.hid hE.regs
 have HRA:=Lib.hid hE.regs.addr
 have hrl:=hs.len.2.2.1
 have HE1:Hid (∀ k (hk:k < d.widths.length),wideB (d.widths[k]'hk)=true→d.numErr=1):=fun k hk h=>numErr_w hk h
 have HE2:Hid (∀ k (hk:k < d.regs.length),initB (d.regs[k]'hk)=true→d.numErr=1):=fun k hk h=>numErr_r hk h
 have HE0:Hid ((∀ k (hk:k < d.widths.length),wideB (d.widths[k]'hk)=false)→(∀ k (hk:k < d.regs.length),initB (d.regs[k]'hk)=false)→d.numErr=0):=numErr_no
 have HWr:Hid ((∀ k (hk:k < d.widths.length),wideB (d.widths[k]'hk)=false)→∀ k (hk:k < d.regs.length),1≤(d.regs[k]'hk).width∧(d.regs[k]'hk).width≤16):=fun h k hk=>by
  have hm:(d.regs[k]'hk).width∈d.widths:=by unfold DesD.widths;exact List.mem_append_right _ (List.mem_map.2 ⟨_,List.getElem_mem hk,rfl⟩)
  obtain⟨j,hj,he⟩:=List.getElem_of_mem hm
  have:=h j hj
  rw[he] at this
  simp only[wideB,decide_eq_false_iff_not] at this
  omega
 generalize d.numErr=err at HE1 HE2 HE0⊢
 generalize d.widths=WD at HN0 HE1 HE0 HWr hN
 clear hE hs
 obtain⟨nm,ins,wires,regs,outs⟩:=d
 obtain⟨ai,ci,aw,cw,ar,cr,ao,co⟩:=x
 simp only[desVal,desVals] at HN0 HR HRA HE2 HE0 HWr hrl⊢
 have HN1:=Lib.hid (HN0.out (w.alloc (.cells #[.string nm,.slice ai ins.length ci,.slice aw wires.length cw,.slice ar regs.length cr,.slice ao outs.length co] 27)) ((Below.refl _ _).alloc (Nat.le_refl _) _))
 clear HN0
 go_enter Tryz.func102, Tryz.ntmps102
 go_wp2_with fail
 refine HN1.out.mono ?_
 rintro e w1 ⟨⟨aN,cN,rfl,hst⟩,hb1⟩
 simp only[World.size_alloc] at hb1
 have HB:=Lib.hid hb1
 have HBw:=Lib.hid (boxW _ hb1)
 have HSt:=Lib.hid hst
 have HSA:=Lib.hid hst.addr
 clear hb1 hst HN1
 go_wp2_with fail
 go_loop [4] (fun i=>∃ k:Nat,i=.int .i64 k∧k≤WD.length∧Hid (∀ j (hj:j < WD.length),j < k→wideB (WD[j]'hj)=false)) (fun i=>WD.length - (intOf i).toNat)
 case atStart=>exact⟨0,rfl,Nat.zero_le _,fun _ _ h=>absurd h (by omega)⟩
 case round =>
  obtain⟨k,rfl,hk,HF⟩:=hrel
  by_cases hlt:k < WD.length
  ·obtain⟨b,off,ha⟩:=HSA.out.resolve_left (by omega)
   subst ha
   have c0:=intsIn_get HSt.out rfl hlt
   have HNx:Hid (wideB (WD[k]'hlt)=false→∀ j (hj:j < WD.length),j < k+1→wideB (WD[j]'hj)=false):=fun h j hj hjk=>by
    by_cases e:j=k
    ·subst e;exact h
    ·exact HF.out j hj (by omega)
   have HNo:=Lib.hid (HE1.out k hlt)
   generalize (WD[k]'hlt)=z at c0 HNx HNo
   by_cases h1:z < 1
   ·have HRe:=Lib.hid (HNo.out (decide_eq_true (Or.inl h1)))
    clear HNx HNo
    go_wp2_with fail
    go_ret
    exact⟨by rw[HRe.out];rfl,HBw.out⟩
   ·by_cases h2:(16:Int) < z
    ·have HRe:=Lib.hid (HNo.out (decide_eq_true (Or.inr h2)))
     clear HNx HNo
     go_wp2_with fail
     go_ret
     exact⟨by rw[HRe.out];rfl,HBw.out⟩
    ·have HNx2:=Lib.hid (HNx.out (decide_eq_false (by omega)))
     clear HNx HNo
     go_wp2_with fail
     go_round
     case rel=>exact⟨k+1,by go_num,by omega,HNx2⟩
     case measure=>(simp[intOf];try omega)
  ·obtain rfl:k=WD.length:=by omega
   have HF1:Hid (∀ j (hj:j < WD.length),wideB (WD[j]'hj)=false):=fun j hj=>HF.out j hj hj
   have HWr2:=Lib.hid (HWr.out HF1.out)
   have HE02:=Lib.hid (HE0.out HF1.out)
   clear HF HE1 HE0 HWr
   ((try clear b0 b1 b2 b3 b4);have b0:=box_cell HB.out 0;have b1:=box_cell HB.out 1;have b2:=box_cell HB.out 2;have b3:=box_cell HB.out 3;have b4:=box_cell HB.out 4;(try simp at b0 b1 b2 b3 b4))
   go_wp2_with fail
   go_loopw [5] (fun i wr=>∃ k:Nat,i=.int .i64 k∧k≤regs.length∧Hid (∀ j (hj:j < regs.length),j < k→initB (regs[j]'hj)=false)∧Hid (Below (w.heap.size+1) (w.alloc (.cells #[.string nm,.slice ai ins.length ci,.slice aw wires.length cw,.slice ar regs.length cr,.slice ao outs.length co] 27)) wr)) (fun i _=>regs.length - (intOf i).toNat)
   case atStart=>exact⟨0,rfl,Nat.zero_le _,fun _ _ h=>absurd h (by omega),HB⟩
   case round =>
    obtain⟨k,rfl,hk,HF,HBr⟩:=hrel
    have HBwr:=Lib.hid (boxW _ HBr.out)
    clear b0 b1 b2 b3 b4
    ((try clear b0 b1 b2 b3 b4);have b0:=box_cell HBr.out 0;have b1:=box_cell HBr.out 1;have b2:=box_cell HBr.out 2;have b3:=box_cell HBr.out 3;have b4:=box_cell HBr.out 4;(try simp at b0 b1 b2 b3 b4))
    by_cases hlt:k < regs.length
    ·obtain⟨b,off,ha⟩:=HRA.out.resolve_left (by omega)
     subst ha
     obtain⟨ae,ce,c0,c1,c2,_,_,_,_,_⟩:=(HR.out.keep (keeps_of_below HBwr.out)).get rfl hlt
     obtain⟨hw1,hw2⟩:=HWr2.out k hlt
     have HNx:Hid (initB (regs[k]'hlt)=false→∀ j (hj:j < regs.length),j < k+1→initB (regs[j]'hj)=false):=fun h j hj hjk=>by
      by_cases e:j=k
      ·subst e;exact h
      ·exact HF.out j hj (by omega)
     have HNo:=Lib.hid (HE2.out k hlt)
     have HIb:Hid (initB (regs[k]'hlt)=decide ((regs[k]'hlt).init < 0∨(regs[k]'hlt).init≥2 ^ (regs[k]'hlt).width.toNat)):=rfl
     generalize initB (regs[k]'hlt)=ib at HNx HNo HIb
     generalize (regs[k]'hlt).init=ini at c2 HIb
     generalize (regs[k]'hlt).width=wd at c1 HIb hw1 hw2
     obtain⟨q,rfl⟩:=Int.eq_ofNat_of_zero_le (show 0≤wd by omega)
     rw[Int.toNat_natCast] at HIb
     have hq:q≤16:=by omega
     obtain⟨p1,p2⟩:=pow_small hq
     have hpw:IntKind.i64.wrap ((2:Int) ^ q)=(2:Int) ^ q:=by rw[IntKind.wrap_i64];omega
     have hmin:min q 64=q:=by omega
     have hq0:(0:Int)≤q:=by omega
     clear c0
     by_cases hi:ini < 0
     ·have hd:decide (ini < 0)=true:=decide_eq_true hi
      have HRe:=Lib.hid (HNo.out (by rw[HIb.out];exact decide_eq_true (Or.inl hi)))
      clear HNx HNo HIb hi
      go_wp2_with fail
      go_quiet (fail)
      go_wp2_with fail
      go_ret
      exact⟨by rw[HRe.out];rfl,by exact below_drewN HBwr.out _⟩
     ·have hd:decide (ini < 0)=false:=decide_eq_false hi
      have hu:IntKind.u64.wrap (q:Int)=(q:Int):=by rw[IntKind.wrap_u64];omega
      by_cases h2:(2:Int) ^ q≤ini
      ·have hd2:decide ((2:Int) ^ q≤ini)=true:=decide_eq_true h2
       have HRe:=Lib.hid (HNo.out (by rw[HIb.out];exact decide_eq_true (Or.inr h2)))
       clear HNx HNo HIb hi h2
       go_wp2_with fail
       go_quiet (fail)
       go_wp2_with fail
       go_ret
       exact⟨by rw[HRe.out];rfl,by exact below_drewN HBwr.out _⟩
      ·have hd2:decide ((2:Int) ^ q≤ini)=false:=decide_eq_false h2
       have HNx2:=Lib.hid (HNx.out (by rw[HIb.out];exact decide_eq_false (by omega)))
       clear HNx HNo HIb hi h2
       go_wp2_with fail
       go_quiet (fail)
       go_wp2_with fail
       go_roundw
       case rel=>exact⟨k+1,by go_num,by omega,HNx2,below_drewN HBr.out _⟩
       case measure=>(simp[intOf];try omega)
    ·obtain rfl:k=regs.length:=by omega
     have HRe:=Lib.hid (HE02.out (fun j hj=>HF.out j hj hj))
     go_wp2_with fail
     go_ret
     exact⟨by rw[HRe.out];rfl,HBwr.out⟩
end Go.Proofs.YtebneadheaefdaaGreatDoor
namespace Go.Proofs.YtebneadheaefdaaGreatDoor
open Go.RowKit
attribute [local go_sem ↓] Go.wp_at_zero Go.wp_at_succ
theorem expErr_at {d:DesD} {k:Nat} (hk:k < d.exprs.length) (h0:∀ j (hj:j < d.exprs.length),j < k→exprErr d.names (d.exprs[j]'hj)=0) (h1:¬ exprErr d.names (d.exprs[k]'hk)=0):d.expErr=exprErr d.names (d.exprs[k]'hk):=by
 unfold DesD.expErr
 rw[firstErr_at (k:=k) (by simpa using hk)]
 ·simp
 ·intro j hj;simpa using h0 j (by omega) hj
 ·simpa using h1
theorem expErr_ok {d:DesD} (h0:∀ j (hj:j < d.exprs.length),exprErr d.names (d.exprs[j]'hj)=0):d.expErr=0:=by
 unfold DesD.expErr
 rw[firstErr_zero]
 intro e he
 obtain⟨x,hx,rfl⟩:=List.mem_map.1 he
 obtain⟨j,hj,rfl⟩:=List.getElem_of_mem hx
 exact h0 j hj
set_option maxRecDepth 100000 in
set_option maxHeartbeats 16000000 in
theorem written_any (d:DesD) (x:DesA) (w:World) (hE:DesIn w d x) (hs:DesSmall d) :
  Calls Tryz.prog 103 #[desVal d x] w fun e w'=>e=.returned (.int .i64 d.expErr)∧Below w.heap.size w w':=by
 have hN:d.names.length≤1073741824:=by have:=hs.len;simp[DesD.names];omega
 have hX:d.exprs.length≤1073741824:=by have:=hs.len;simp[DesD.exprs];omega
 have HN0:=Lib.hid (fun W (hW:Below w.heap.size w W)=>rNames31_any d x W (hE.below hW) hN)
 have HX0:=Lib.hid (fun W (hW:Below w.heap.size w W)=>Exprs_any d x W (hE.below hW) hX)
 have HE1:Hid (∀ k (hk:k < d.exprs.length),(∀ j (hj:j < d.exprs.length),j < k→exprErr d.names (d.exprs[j]'hj)=0)→¬ exprErr d.names (d.exprs[k]'hk)=0→d.expErr=exprErr d.names (d.exprs[k]'hk)):=fun k hk h0 h1=>expErr_at hk h0 h1
 have HE0:Hid ((∀ j (hj:j < d.exprs.length),exprErr d.names (d.exprs[j]'hj)=0)→d.expErr=0):=expErr_ok
 have HSm:Hid (∀ e∈d.exprs,e.nodes.length≤1048576):=hs.exprs
 generalize d.expErr=err at HE1 HE0⊢
 generalize d.exprs=EX at HX0 HE1 HE0 HSm hX
 generalize d.names=N at HN0 HE1 HE0
 clear hE hs hN
 obtain⟨nm,ins,wires,regs,outs⟩:=d
 obtain⟨ai,ci,aw,cw,ar,cr,ao,co⟩:=x
 simp only[desVal,desVals] at HN0 HX0⊢
 have HN1:=Lib.hid (HN0.out (w.alloc (.cells #[.string nm,.slice ai ins.length ci,.slice aw wires.length cw,.slice ar regs.length cr,.slice ao outs.length co] 27)) ((Below.refl _ _).alloc (Nat.le_refl _) _))
 clear HN0
 go_enter Tryz.func103, Tryz.ntmps103
 go_wp2_with fail
 refine HN1.out.mono ?_
 rintro e w1 ⟨⟨aN,cN,rfl,hst⟩,hb1⟩
 simp only[World.size_alloc] at hb1
 have HB:=Lib.hid hb1
 have HSt:=Lib.hid hst
 have HX1:=Lib.hid (HX0.out w1 (boxW _ hb1))
 clear hb1 hst HN1 HX0
 ((try clear b0 b1 b2 b3 b4);have b0:=box_cell HB.out 0;have b1:=box_cell HB.out 1;have b2:=box_cell HB.out 2;have b3:=box_cell HB.out 3;have b4:=box_cell HB.out 4;(try simp at b0 b1 b2 b3 b4))
 go_wp2_with fail
 refine HX1.out.mono ?_
 rintro e w2 ⟨⟨aX,cX,rfl,hxx⟩,hb2⟩
 have HBw2:=Lib.hid ((boxW _ HB.out).trans (hb2.mono (boxW _ HB.out).size))
 have HSt2:=Lib.hid (HSt.out.keep (keeps_of_below hb2))
 have HXX:=Lib.hid hxx
 have HXA:=Lib.hid hxx.addr
 clear hb2 hxx HX1 b0 b1 b2 b3 b4
 go_wp2_with fail
 go_loopw [5,6,7,8] (fun i _ _ _ wr=>∃ k:Nat,i=.int .i64 k∧k≤EX.length∧Hid (∀ j (hj:j < EX.length),j < k→exprErr N (EX[j]'hj)=0)∧Hid (Below w2.heap.size w2 wr)) (fun i _ _ _ _=>EX.length - (intOf i).toNat)
 case atStart=>exact⟨0,rfl,Nat.zero_le _,fun _ _ h=>absurd h (by omega),Below.refl _ _⟩
 case round =>
  obtain⟨k,rfl,hk,HF,HBr⟩:=hrel
  have HBwr:=Lib.hid (HBw2.out.trans (HBr.out.mono HBw2.out.size))
  by_cases hlt:k < EX.length
  ·obtain⟨b,off,ha⟩:=HXA.out.resolve_left (by omega)
   subst ha
   obtain⟨ae,ce,g0,g1,g2,g3,hE⟩:=HXX.out.get rfl hlt
   have hnn:=HSm.out _ (List.getElem_mem hlt)
   have HNx:Hid (exprErr N (EX[k]'hlt)=0→∀ j (hj:j < EX.length),j < k+1→exprErr N (EX[j]'hj)=0):=fun h j hj hjk=>by
    by_cases e:j=k
    ·subst e;exact h
    ·exact HF.out j hj (by omega)
   have HNo:=Lib.hid (HE1.out k hlt HF.out)
   generalize (EX[k]'hlt)=e at g0 g1 g2 g3 hE hnn HNx HNo
   obtain⟨op,n,s,args⟩:=e
   simp only[Ex.op_mk,Ex.n_mk,Ex.name_mk,Ex.args_mk] at g0 g1 g2 g3
   have HG:=Lib.hid (⟨g0,g1,g2,g3⟩:_∧_∧_∧_)
   have HEv:Hid (¬ validS (.mk op n s args)=0→exprErr N (.mk op n s args)=validS (.mk op n s args)):=exprErr_valid
   have HE9:Hid (validS (.mk op n s args)=0→0 < (namesS [3,24] (.mk op n s args)).length→exprErr N (.mk op n s args)=9):=exprErr_arr
   have HEn:Hid (validS (.mk op n s args)=0→(namesS [3,24] (.mk op n s args)).length=0→exprErr N (.mk op n s args)=if ((namesS [2] (.mk op n s args)).all fun s=>(idxT N s).isSome)=true then 0 else 7):=exprErr_names
   have HVa:=Lib.hid (fun W (hW:Below w2.heap.size w2 W)=>rValid_any op n s args ae ce W (hE.keep (keeps_of_below hW)) (by omega))
   have HAr:=Lib.hid (fun W (hW:Below w2.heap.size w2 W)=>rArrays_any op n s args ae ce W (hE.keep (keeps_of_below hW)) (by omega))
   have HNa:=Lib.hid (fun W (hW:Below w2.heap.size w2 W)=>rNames_any op n s args ae ce W (hE.keep (keeps_of_below hW)) (by omega))
   generalize exprErr N (Ex.mk op n s args)=ee at HNx HNo HEv HE9 HEn
   generalize validS (.mk op n s args)=vv at HVa HEv HE9 HEn
   generalize namesS [3,24] (Ex.mk op n s args)=A3 at HAr HE9 HEn
   generalize namesS [2] (Ex.mk op n s args)=N2 at HNa HEn
   clear g0 g1 g2 g3 hE
   have HV1:=Lib.hid (HVa.out wr HBr.out)
   have c0:=(keeps_of_below HBr.out) _ _ HG.out.1
   have c1:=(keeps_of_below HBr.out) _ _ HG.out.2.1
   have c2:=(keeps_of_below HBr.out) _ _ HG.out.2.2.1
   have c3:=(keeps_of_below HBr.out) _ _ HG.out.2.2.2
   go_wp2_with fail
   refine HV1.out.mono ?_
   rintro e w3 ⟨rfl,hb3⟩
   have HB3:=Lib.hid (HBr.out.trans (hb3.mono HBr.out.size))
   have HBw3:=Lib.hid (HBw2.out.trans (HB3.out.mono HBw2.out.size))
   clear hb3 HV1 HVa c0 c1 c2 c3
   by_cases hv:vv=0
   ·subst hv
    have HE9b:=Lib.hid (HE9.out rfl)
    have HEnb:=Lib.hid (HEn.out rfl)
    have HA1:=Lib.hid (HAr.out w3 HB3.out)
    have c0:=(keeps_of_below HB3.out) _ _ HG.out.1
    have c1:=(keeps_of_below HB3.out) _ _ HG.out.2.1
    have c2:=(keeps_of_below HB3.out) _ _ HG.out.2.2.1
    have c3:=(keeps_of_below HB3.out) _ _ HG.out.2.2.2
    clear HE9 HEn HEv HAr
    go_wp2_with fail
    refine HA1.out.mono ?_
    rintro r w4 ⟨⟨aa,ca,rfl,hst⟩,hb4⟩
    have HB4:=Lib.hid (HB3.out.trans (hb4.mono HB3.out.size))
    have HBw4:=Lib.hid (HBw2.out.trans (HB4.out.mono HBw2.out.size))
    have hl3:=hst.2.1
    clear hst hb4 HA1 c0 c1 c2 c3
    by_cases hA:A3.length=0
    ·obtain rfl:A3=[]:=List.eq_nil_of_length_eq_zero hA
     have HEnc:=Lib.hid (HEnb.out rfl)
     have HN1:=Lib.hid (HNa.out w4 HB4.out)
     have c0:=(keeps_of_below HB4.out) _ _ HG.out.1
     have c1:=(keeps_of_below HB4.out) _ _ HG.out.2.1
     have c2:=(keeps_of_below HB4.out) _ _ HG.out.2.2.1
     have c3:=(keeps_of_below HB4.out) _ _ HG.out.2.2.2
     clear HNa hA hl3 HE9b HEnb
     go_wp2_with fail
     refine HN1.out.mono ?_
     rintro r w5 ⟨⟨an,cn,rfl,hst⟩,hb5⟩
     have HB5:=Lib.hid (HB4.out.trans (hb5.mono HB4.out.size))
     have HBw5:=Lib.hid (HBw2.out.trans (HB5.out.mono HBw2.out.size))
     have hln:=hst.2.1
     have HAn:=Lib.hid hst.addr
     have HSn:=Lib.hid hst
     have HSt5:=Lib.hid (HSt2.out.keep (keeps_of_below HB5.out))
     clear hst hb5 HN1 c0 c1 c2 c3
     go_wp2_with fail
     go_loop [8] (fun i=>∃ j:Nat,i=.int .i64 j∧j≤N2.length∧Hid (∀ q (hq:q < N2.length),q < j→(idxT N (N2[q]'hq)).isSome=true)) (fun i=>N2.length - (intOf i).toNat)
     case atStart=>exact⟨0,rfl,Nat.zero_le _,fun _ _ h=>absurd h (by omega)⟩
     case round =>
      obtain⟨j,rfl,hj,HFj⟩:=hrel
      by_cases hlj:j < N2.length
      ·obtain⟨bn,on,han⟩:=HAn.out.resolve_left (by omega)
       subst han
       have c0:=HSn.out.get rfl hlj
       have HNxj:Hid ((idxT N (N2[j]'hlj)).isSome=true→∀ q (hq:q < N2.length),q < j+1→(idxT N (N2[q]'hq)).isSome=true):=fun h q hq hqj=>by
        by_cases e:q=j
        ·subst e;exact h
        ·exact HFj.out q hq (by omega)
       have HNoj:Hid ((idxT N (N2[j]'hlj)).isSome=false→err=7):=fun h=>by
        have h7:ee=7:=by rw[HEnc.out,if_neg];rw[all_not hlj h];simp
        rw[HNo.out (by omega),h7]
       have HC:=Lib.hid (index_any N aN cN (N2[j]'hlj) w5 HSt5.out)
       have hneg:idxI N (N2[j]'hlj) < 0↔(idxT N (N2[j]'hlj)).isSome=false:=idxI_neg
       generalize (idxT N (N2[j]'hlj)).isSome=ib at HNxj HNoj hneg
       generalize idxI N (N2[j]'hlj)=ii at HC hneg
       generalize (N2[j]'hlj)=s at c0 HC
       cases ib
       ·have hi:ii < 0:=hneg.2 rfl
        have HR:=Lib.hid (HNoj.out rfl)
        clear hneg HNxj HNoj
        go_wp2_with fail
        refine HC.out.mono ?_
        rintro r w' ⟨rfl,rfl⟩
        go_wp2_with fail
        go_ret
        exact⟨by rw[HR.out];rfl,HBw5.out⟩
       ·have hi:¬ ii < 0:=fun h=>by have:=hneg.1 h;simp at this
        have HNxk:=Lib.hid (HNxj.out rfl)
        clear hneg HNxj HNoj
        go_wp2_with fail
        refine HC.out.mono ?_
        rintro r w' ⟨rfl,rfl⟩
        go_wp2_with fail
        go_round
        case rel=>exact⟨j+1,by go_num,by omega,HNxk⟩
        case measure=>(simp[intOf];try omega)
      ·obtain rfl:j=N2.length:=by omega
       have hee:ee=0:=by rw[HEnc.out,if_pos (all_yes (P:=fun s=>(idxT N s).isSome) (fun q hq=>HFj.out q hq hq))]
       have HNx2:=Lib.hid (HNx.out hee)
       clear hee
       go_wp2_with fail
       go_roundw
       case rel=>exact⟨k+1,by go_num,by omega,HNx2,HB5⟩
       case measure=>(simp[intOf];try omega)
    ·have hA1:0 < A3.length:=by omega
     have h9:=HE9b.out hA1
     have HR:Hid (err=9):=by show _=_;rw[HNo.out (by omega),h9]
     clear hA h9 HEnb HNa HE9b
     go_wp2_with fail
     go_ret
     exact⟨by rw[HR.out];rfl,HBw4.out⟩
   ·have hev:=HEv.out hv
    have HR:Hid (err=vv):=by show _=_;rw[HNo.out (by omega),hev]
    have hne:(vv != (0:Int))=true:=by simpa using hv
    clear hv hev HE9 HEn HAr HNa
    go_wp2_with fail
    go_ret
    exact⟨by rw[HR.out];rfl,HBw3.out⟩
  ·obtain rfl:k=EX.length:=by omega
   have HR:=Lib.hid (HE0.out (fun j hj=>HF.out j hj hj))
   go_wp2_with fail
   go_ret
   exact⟨by rw[HR.out];rfl,HBwr.out⟩
end Go.Proofs.YtebneadheaefdaaGreatDoor
namespace Go.Proofs.YtebneadheaefdaaGreatDoor
open Go.RowKit
theorem frow_new (w:World) (t:TypeId) (n:Nat) (z:Value):FRow (w.alloc (.cells (List.replicate n z).toArray t)) w.heap.size t n (fun _=>z):=by
 unfold FRow
 have:(List.range n).map (fun _=>z)=List.replicate n z:=by
  rw[List.map_const',List.length_range]
 rw[this]
 exact heap_alloc_new' _ _
theorem mk_row {P:Program} {t e:TypeId} {z:Value} {bytes:Nat} (ht:P.underlying t=some (.slice e)) (hi:(P.info? e).map (fun i=>(i.zero,i.size,i.bytes))=some (some z,1,bytes)) (hz:z.cells=#[z]) (hb:bytes≤64) (n:Nat) (h:n≤1073741824) (w:World) :
  (Instr.makeSlice t (.int .i64 n) (.int .i64 n)).run P w=.ok (.slice (some ⟨w.heap.size,0,none⟩) n n) (w.alloc (.cells (List.replicate n z).toArray e)):=by
 obtain⟨i,h1,h2,h3,h4⟩:=info_parts hi
 have hbb:(i.bytes:Int) * (n:Int)≤281474976710656:=by
  have h5:i.bytes * n≤64 * 1073741824:=Nat.mul_le_mul (by omega) h
  have h6:((i.bytes * n:Nat):Int)≤((64 * 1073741824:Nat):Int):=Int.ofNat_le.2 h5
  rw[Int.natCast_mul] at h6
  omega
 have:=run_make (P:=P) w t e i z ht h1 h2 .i64 .i64 n n (by omega) (by omega) hbb (by omega)
 rw[this,h3,hz,Int.toNat_natCast,Nat.mul_one,← toList_madeCells_one]
theorem mk_bools (n:Nat) (h:n≤1073741824) (w:World):(Instr.makeSlice 186 (.int .i64 n) (.int .i64 n)).run Tryz.prog w=.ok (.slice (some ⟨w.heap.size,0,none⟩) n n) (w.alloc (.cells (List.replicate n (Value.bool false)).toArray 4)) :=
 mk_row (bytes:=1) Tryz.underlying186 (by kernel_rfl) rfl (by decide) n h w
end Go.Proofs.YtebneadheaefdaaGreatDoor
namespace Go.Proofs.YtebneadheaefdaaGreatDoor
open Go.RowKit
attribute [local go_sem ↓] Go.wp_at_zero Go.wp_at_succ
theorem idxT_first {l:List ByteArray} {i:Nat} (hi:i < l.length):idxT l (l[i]'hi)=some i↔(idxT (l.take i) (l[i]'hi)).isSome=false:=by
 constructor
 ·intro h
  obtain⟨_,_,h3⟩:=idxT_some h
  cases hx:idxT (l.take i) (l[i]'hi) with
  | none=>rfl
  | some k =>
   obtain⟨h4,h5,_⟩:=idxT_some hx
   rw[List.getElem_take] at h5
   have:k < i:=by rw[List.length_take] at h4;omega
   exact absurd h5 (h3 k this)
 ·intro h
  refine idxI_at hi (fun j hj hji=>?_) (by simp)
  cases hc:((l[j]'hj).toList == (l[i]'hi).toList) with
  | false=>rfl
  | true =>
   have h2:(l[j]'hj)∈l.take i:=List.mem_iff_getElem.2 ⟨j,by simp;omega,by simp⟩
   have:=idxT_mem (s:=l[i]'hi) h2 (by simpa using hc)
   rw[h] at this;simp at this
set_option maxRecDepth 100000 in
set_option maxHeartbeats 8000000 in
theorem shown_any (d:DesD) (x:DesA) (w:World) (hE:DesIn w d x) (hs:DesSmall d) :
  Calls Tryz.prog 104 #[desVal d x] w fun e w'=>e=.returned (.int .i64 d.outE)∧Below w.heap.size w w':=by
 have hN:d.names.length≤1073741824:=by have:=hs.len;simp[DesD.names];omega
 have hil:d.inputs.length≤d.names.length:=by simp[DesD.names]
 have HN0:=Lib.hid (fun W (hW:Below w.heap.size w W)=>(rNames31_any d x W (hE.below hW) hN).mono (R':=fun e w'=>∃ a1 c1 a2 c2,e=.returned (.slice a1 d.names.length c1)∧(∀ W:World,(Instr.sliceAt 25 (.slice a1 d.names.length c1) (some (.int .i64 d.inputs.length)) none none).run Tryz.prog W=.ok (.slice a2 d.inner.length c2) W)∧Hid (StrsIn w' d.inner a2 c2)∧Below W.heap.size W w') (fun e w' ⟨⟨a1,c1,h1,h2⟩,h3⟩=>by
  obtain⟨a2,c2,h4,h5⟩:=slice_from h2 _ hil
  rw[inner_eq] at h4 h5
  exact⟨a1,c1,a2,c2,h1,h4,h5,h3⟩))
 have HO:=Lib.hid hE.outs
 have HOA:=Lib.hid hE.outs.addr
 have hol:=hE.outs.2.1
 have hoc:=hE.outs.1
 have HE1:Hid (∀ k (hk:k < d.outputs.length),(∀ j (hj:j < d.outputs.length),j < k→(idxT d.inner (d.outputs[j]'hj)).isSome=true∧(idxT (d.outputs.take j) (d.outputs[j]'hj)).isSome=false)→((idxT d.inner (d.outputs[k]'hk)).isSome=false→d.outE=7)∧((idxT d.inner (d.outputs[k]'hk)).isSome=true→(idxT (d.outputs.take k) (d.outputs[k]'hk)).isSome=true→d.outE=8)):=fun k hk h=>outErr_bad (seen:=[]) hk h
 have HE0:Hid ((∀ j (hj:j < d.outputs.length),(idxT d.inner (d.outputs[j]'hj)).isSome=true∧(idxT (d.outputs.take j) (d.outputs[j]'hj)).isSome=false)→d.outE=0):=fun h=>outErr_ok (seen:=[]) h
 generalize d.outE=err at HE1 HE0⊢
 generalize d.inner=I at HN0 HE1 HE0
 generalize d.names=N at HN0 hN hil
 clear hE hs
 obtain⟨nm,ins,wires,regs,outs⟩:=d
 obtain⟨ai,ci,aw,cw,ar,cr,ao,co⟩:=x
 simp only[desVal,desVals] at HN0 HO HOA HE1 HE0 hol hoc hil⊢
 have HN1:=Lib.hid (fun W (hW:Below (w.heap.size+1) (w.alloc (.cells #[.string nm,.slice ai ins.length ci,.slice aw wires.length cw,.slice ar regs.length cr,.slice ao outs.length co] 27)) W)=>(HN0.out W (boxW _ hW)).mono (R':=fun e w'=>∃ a1 c1 a2 c2,e=.returned (.slice a1 N.length c1)∧(∀ W:World,(Instr.sliceAt 25 (.slice a1 N.length c1) (some (.int .i64 ins.length)) none none).run Tryz.prog W=.ok (.slice a2 I.length c2) W)∧Hid (StrsIn w' I a2 c2)∧Below (w.heap.size+1) (w.alloc (.cells #[.string nm,.slice ai ins.length ci,.slice aw wires.length cw,.slice ar regs.length cr,.slice ao outs.length co] 27)) w') (fun e w' ⟨a1,c1,a2,c2,h1,h2,h3,h4⟩=>⟨a1,c1,a2,c2,h1,h2,h3,hW.trans (h4.mono (by have:=hW.size;simp at this;omega))⟩))
 clear HN0
 have HALL:Hid (∀ w',Below (w.heap.size+1) (w.alloc (.cells #[.string nm,.slice ai ins.length ci,.slice aw wires.length cw,.slice ar regs.length cr,.slice ao outs.length co] 27)) w'→w'.cell? ⟨w.heap.size,0,none⟩=some (.string nm)∧w'.cell? ⟨w.heap.size,1,none⟩=some (.slice ai ins.length ci)∧w'.cell? ⟨w.heap.size,2,none⟩=some (.slice aw wires.length cw)∧w'.cell? ⟨w.heap.size,3,none⟩=some (.slice ar regs.length cr)∧w'.cell? ⟨w.heap.size,4,none⟩=some (.slice ao outs.length co)):=fun w' h=>by
  have b0:=box_cell h 0
  have b1:=box_cell h 1
  have b2:=box_cell h 2
  have b3:=box_cell h 3
  have b4:=box_cell h 4
  simp at b0 b1 b2 b3 b4
  exact⟨b0,b1,b2,b3,b4⟩
 go_enter Tryz.func104, Tryz.ntmps104
 go_wp2_with fail
 go_region_held3 (fun w'=>Below (w.heap.size+1) (w.alloc (.cells #[.string nm,.slice ai ins.length ci,.slice aw wires.length cw,.slice ar regs.length cr,.slice ao outs.length co] 27)) w'∧w'.cell? ⟨w.heap.size,0,none⟩=some (.string nm)∧w'.cell? ⟨w.heap.size,1,none⟩=some (.slice ai ins.length ci)∧w'.cell? ⟨w.heap.size,2,none⟩=some (.slice aw wires.length cw)∧w'.cell? ⟨w.heap.size,3,none⟩=some (.slice ar regs.length cr)∧w'.cell? ⟨w.heap.size,4,none⟩=some (.slice ao outs.length co)) ((refine(fun h=>⟨h,HALL.out _ h⟩) ?_;first | assumption | exact bel)) ((go_at_call 51;(with_reducible refine(HN1.out _ (by first | assumption | exact And.left (by assumption))).mono ?_);rintro e w3 ⟨a1,c1,a2,c2,rfl,hsl,hS,hb3⟩;have HS:=hS;clear hS))
 have HB3:=Lib.hid (by assumption:Below (w.heap.size+1) (w.alloc (.cells #[.string nm,.slice ai ins.length ci,.slice aw wires.length cw,.slice ar regs.length cr,.slice ao outs.length co] 27)) w3)
 have HBw3:=Lib.hid (boxW _ HB3.out)
 have HO3:=Lib.hid (HO.out.keep (keeps_of_below HBw3.out))
 clear hb3 hsl
 go_wp2_with fail
 go_loopw [4] (fun i wr=>∃ k:Nat,i=.int .i64 k∧k≤outs.length∧Hid (∀ j (hj:j < outs.length),j < k→(idxT I (outs[j]'hj)).isSome=true∧(idxT (outs.take j) (outs[j]'hj)).isSome=false)∧Hid (Below w3.heap.size w3 wr)) (fun i _=>outs.length - (intOf i).toNat)
 case atStart=>exact⟨0,rfl,Nat.zero_le _,fun _ _ h=>absurd h (by omega),Below.refl _ _⟩
 case round =>
  obtain⟨k,rfl,hk,HF,HBr⟩:=hrel
  have hBD:Below (w.heap.size+1) (w.alloc (.cells #[.string nm,.slice ai ins.length ci,.slice aw wires.length cw,.slice ar regs.length cr,.slice ao outs.length co] 27)) wr:=HB3.out.trans (HBr.out.mono (by have:=HB3.out.size;simp at this;omega))
  have HBwr:=Lib.hid (boxW _ hBD)
  obtain⟨b0,b1,b2,b3,b4⟩:=HALL.out _ hBD
  clear hBD
  by_cases hlt:k < outs.length
  ·obtain⟨b,off,ha⟩:=HOA.out.resolve_left (by omega)
   subst ha
   have c0:=(keeps_of_below HBr.out) _ _ (HO3.out.get rfl hlt)
   have HNx:Hid ((idxT I (outs[k]'hlt)).isSome=true→(idxT (outs.take k) (outs[k]'hlt)).isSome=false→∀ j (hj:j < outs.length),j < k+1→(idxT I (outs[j]'hj)).isSome=true∧(idxT (outs.take j) (outs[j]'hj)).isSome=false):=fun h1 h2 j hj hjk=>by
    by_cases e:j=k
    ·subst e;exact⟨h1,h2⟩
    ·exact HF.out j hj (by omega)
   have HNo:=Lib.hid (HE1.out k hlt HF.out)
   have HC:=Lib.hid (index_any I a2 c2 (outs[k]'hlt) wr (HS.out.keep (keeps_of_below HBr.out)))
   have HC2:=Lib.hid (fun W (hW:Below wr.heap.size wr W)=>index_any outs (some ⟨b,off,none⟩) co (outs[k]'hlt) W ((HO3.out.keep (keeps_of_below HBr.out)).keep (keeps_of_below hW)))
   have hn1:idxI I (outs[k]'hlt) < 0↔(idxT I (outs[k]'hlt)).isSome=false:=idxI_neg
   have hn2:idxI outs (outs[k]'hlt)≠k↔¬ (idxT (outs.take k) (outs[k]'hlt)).isSome=false:=idxI_ne.trans (not_congr (idxT_first hlt))
   generalize (idxT I (outs[k]'hlt)).isSome=i1 at HNx HNo hn1
   generalize (idxT (outs.take k) (outs[k]'hlt)).isSome=i2 at HNx HNo hn2
   generalize idxI I (outs[k]'hlt)=j1 at HC hn1
   generalize idxI outs (outs[k]'hlt)=j2 at HC2 hn2
   generalize (outs[k]'hlt)=s at c0 HC HC2
   cases i1
   ·have HR:=Lib.hid (HNo.out.1 rfl)
    have hj:j1 < 0:=hn1.2 rfl
    clear hn1 hn2 HNx HNo
    go_wp2_with fail
    refine HC.out.mono ?_
    rintro r w' ⟨rfl,rfl⟩
    go_wp2_with fail
    go_ret
    exact⟨by rw[HR.out];rfl,HBwr.out⟩
   ·have hj:¬ j1 < 0:=fun h=>by have:=hn1.1 h;simp at this
    have HNo2:=Lib.hid (HNo.out.2 rfl)
    have HNx2:=Lib.hid (HNx.out rfl)
    clear hn1 HNo HNx
    cases i2
    ·have hjk:j2=k:=by
      by_cases e:j2=k
      ·exact e
      ·exact absurd rfl (hn2.1 e)
     have HNx3:=Lib.hid (HNx2.out rfl)
     subst hjk
     clear hn2 HNo2 HNx2
     go_wp2_with fail
     refine HC.out.mono ?_
     rintro r w' ⟨rfl,rfl⟩
     go_wp2_with fail
     go_quiet ((go_at_call 161;exact Calls.quiet_of_same ((HC2.out _ (below_drewN (Below.refl _ _) _)).mono fun e w' h=>⟨h.1,h.2.symm⟩)))
     go_wp2_with fail
     go_roundw
     case rel=>exact⟨k+1,by go_num,by omega,HNx3,below_drewN HBr.out _⟩
     case measure=>(simp[intOf];try omega)
    ·have hjk:j2≠k:=hn2.2 (by simp)
     have hne:(j2 != (k:Int))=true:=by simpa using hjk
     have HR:=Lib.hid (HNo2.out rfl)
     clear hn2 HNo2 HNx2 hjk
     go_wp2_with fail
     refine HC.out.mono ?_
     rintro r w' ⟨rfl,rfl⟩
     go_wp2_with fail
     go_quiet ((go_at_call 161;exact Calls.quiet_of_same ((HC2.out _ (below_drewN (Below.refl _ _) _)).mono fun e w' h=>⟨h.1,h.2.symm⟩)))
     go_wp2_with fail
     go_ret
     exact⟨by rw[HR.out];rfl,by exact below_drewN HBwr.out _⟩
  ·obtain rfl:k=outs.length:=by omega
   have HR:=Lib.hid (HE0.out (fun j hj=>HF.out j hj hj))
   go_wp2_with fail
   go_ret
   exact⟨by rw[HR.out];rfl,HBwr.out⟩
def DesD.wireI (d:DesD) (s:ByteArray):Int:=match d.wireIdx s with
 | some k=>k
 | none=>-1
set_option maxRecDepth 100000 in
set_option maxHeartbeats 4000000 in
theorem wire_any (d:DesD) (x:DesA) (s:ByteArray) (w:World) (hE:DesIn w d x) :
  Calls Tryz.prog 211 #[desVal d x,.string s] w fun e w'=>e=.returned (.int .i64 (d.wireI s))∧Below w.heap.size w w':=by
 have HW:=Lib.hid hE.wires
 have HWA:=Lib.hid hE.wires.addr
 have hwl:=hE.wires.2.1
 have HI1:Hid (∀ k (hk:k < d.wires.length),(∀ j (hj:j < d.wires.length),j < k→((d.wires[j]'hj).name.toList == s.toList)=false)→((d.wires[k]'hk).name.toList == s.toList)=true→d.wireI s=k):=fun k hk h0 h1=>by
  unfold DesD.wireI DesD.wireIdx
  rw[idxI_at (k:=k) (by simpa using hk) (fun j hj hjk=>by simpa using h0 j (by simpa using hj) hjk) (by simpa using h1)]
 have HI0:Hid ((∀ j (hj:j < d.wires.length),((d.wires[j]'hj).name.toList == s.toList)=false)→d.wireI s=-1):=fun h0=>by
  unfold DesD.wireI DesD.wireIdx
  rw[idxT_not (fun j hj=>by simpa using h0 j (by simpa using hj))]
 generalize d.wireI s=r at HI1 HI0⊢
 clear hE
 obtain⟨nm,ins,wires,regs,outs⟩:=d
 obtain⟨ai,ci,aw,cw,ar,cr,ao,co⟩:=x
 simp only[desVal,desVals] at HW HWA HI1 HI0 hwl⊢
 have HB0:Hid (Below (w.heap.size+1) (w.alloc (.cells #[.string nm,.slice ai ins.length ci,.slice aw wires.length cw,.slice ar regs.length cr,.slice ao outs.length co] 27)) (w.alloc (.cells #[.string nm,.slice ai ins.length ci,.slice aw wires.length cw,.slice ar regs.length cr,.slice ao outs.length co] 27))):=Below.refl _ _
 have HBw:=Lib.hid (boxW _ HB0.out)
 go_enter Tryz.func211, Tryz.ntmps211
 go_wp2_with fail
 go_loop [5] (fun i=>∃ k:Nat,i=.int .i64 k∧k≤wires.length∧Hid (∀ j (hj:j < wires.length),j < k→((wires[j]'hj).name.toList == s.toList)=false)) (fun i=>wires.length - (intOf i).toNat)
 case atStart=>exact⟨0,rfl,Nat.zero_le _,fun _ _ h=>absurd h (by omega)⟩
 case round =>
  obtain⟨k,rfl,hk,HF⟩:=hrel
  by_cases hlt:k < wires.length
  ·obtain⟨b,off,ha⟩:=HWA.out.resolve_left (by omega)
   subst ha
   obtain⟨ae,ce,c0,_⟩:=(HW.out.keep (keeps_of_below HBw.out)).get rfl hlt
   have HNx:Hid (((wires[k]'hlt).name.toList == s.toList)=false→∀ j (hj:j < wires.length),j < k+1→((wires[j]'hj).name.toList == s.toList)=false):=fun h j hj hjk=>by
    by_cases e:j=k
    ·subst e;exact h
    ·exact HF.out j hj (by omega)
   have HNo:=Lib.hid (HI1.out k hlt HF.out)
   generalize (wires[k]'hlt).name=t at c0 HNx HNo
   cases heq:(t.toList == s.toList)
   ·have HNx2:=Lib.hid (HNx.out heq)
    clear HNx HNo
    go_wp2_with fail
    go_round
    case rel=>exact⟨k+1,by go_num,by omega,HNx2⟩
    case measure=>(simp[intOf];try omega)
   ·have HR:=Lib.hid (HNo.out heq)
    clear HNx HNo
    go_wp2_with fail
    go_ret
    exact⟨by rw[HR.out];rfl,HBw.out⟩
  ·obtain rfl:k=wires.length:=by omega
   have HR:=Lib.hid (HI0.out (fun j hj=>HF.out j hj hj))
   go_wp2_with fail
   go_ret
   exact⟨by rw[HR.out];rfl,HBw.out⟩
end Go.Proofs.YtebneadheaefdaaGreatDoor
namespace Go.Proofs.YtebneadheaefdaaGreatDoor
open Go.RowKit
attribute [local go_sem ↓] Go.wp_at_zero Go.wp_at_succ
theorem ready_all {d:DesD} {out:List Nat} {i:Nat} {N2:List ByteArray} (hn:d.needs i=N2.filterMap d.wireIdx) (h:∀ q (hq:q < N2.length),∀ k,d.wireIdx (N2[q]'hq)=some k→out.contains k=true):readyB d.needs out i=true:=by
 unfold readyB
 rw[hn,List.all_eq_true]
 intro k hk
 obtain⟨s,hs,hsk⟩:=List.mem_filterMap.1 hk
 obtain⟨q,hq,rfl⟩:=List.getElem_of_mem hs
 exact h q hq k hsk
theorem ready_not {d:DesD} {out:List Nat} {i:Nat} {N2:List ByteArray} (hn:d.needs i=N2.filterMap d.wireIdx) {q:Nat} (hq:q < N2.length) {k:Nat} (hk:d.wireIdx (N2[q]'hq)=some k) (h:out.contains k=false):readyB d.needs out i=false:=by
 unfold readyB
 rw[hn,List.all_eq_false]
 exact⟨k,List.mem_filterMap.2 ⟨_,List.getElem_mem hq,hk⟩,by rw[h];simp⟩
theorem wireIdx_lt {d:DesD} {s:ByteArray} {k:Nat} (h:d.wireIdx s=some k):k < d.wires.length:=by
 obtain⟨h1,_⟩:=idxT_some h
 simpa using h1
set_option maxRecDepth 100000 in
set_option maxHeartbeats 8000000 in
theorem ready_any (d:DesD) (x:DesA) (i bd:Nat) (out:List Nat) (w:World) (hE:DesIn w d x) (hs:DesSmall d) (hi:i < d.wires.length) (hD:DoneRow w bd d.wires.length out) :
  Calls Tryz.prog 165 #[desVal d x,.int .i64 i,.slice (some ⟨bd,0,none⟩) d.wires.length d.wires.length] w fun e w'=>e=.returned (.bool (readyB d.needs out i))∧Below w.heap.size w w':=by
 obtain⟨bw,ow,haw⟩:=hE.wires.addr.resolve_left (by omega)
 obtain⟨ae,ce,g0,g1,g2,g3,g4,g5,hX⟩:=hE.wires.get haw hi
 clear g0 g1
 have hwl:=hE.wires.2.1
 have hwc:=hE.wires.1
 have HNa:=Lib.hid (fun W (hW:Below w.heap.size w W)=>(show Calls Tryz.prog 164 #[.agg #[.int .i64 (d.wires[i]'hi).expr.op,.int .i64 (d.wires[i]'hi).expr.n,.string (d.wires[i]'hi).expr.name,.slice ae (d.wires[i]'hi).expr.args.length ce]] W fun r w'=>(∃ a' cap',r=.returned (.slice a' (namesS [2] (d.wires[i]'hi).expr).length cap')∧StrsIn w' (namesS [2] (d.wires[i]'hi).expr) a' cap')∧Below W.heap.size W w' by
  have h1:=hs.exprs _ (wire_expr hi)
  have h2:=hX.keep (keeps_of_below hW)
  generalize (d.wires[i]'hi).expr=e at h1 h2
  obtain⟨op,n,s,args⟩:=e
  exact rNames_any op n s args ae ce W h2 (by omega)))
 have hnd:d.needs i=(namesS [2] (d.wires[i]'hi).expr).filterMap d.wireIdx:=by unfold DesD.needs;rw[List.getElem?_eq_getElem hi]
 have HY:Hid ((∀ q (hq:q < (namesS [2] (d.wires[i]'hi).expr).length),∀ k,d.wireIdx ((namesS [2] (d.wires[i]'hi).expr)[q]'hq)=some k→out.contains k=true)→readyB d.needs out i=true):=fun h=>ready_all hnd h
 have HNo:Hid (∀ q (hq:q < (namesS [2] (d.wires[i]'hi).expr).length) k,d.wireIdx ((namesS [2] (d.wires[i]'hi).expr)[q]'hq)=some k→out.contains k=false→readyB d.needs out i=false):=fun q hq k hk h=>ready_not hnd hq hk h
 have HWi0:=Lib.hid (fun s W (hW:Below w.heap.size w W)=>wire_any d x s W (hE.below hW))
 have HLt:Hid (∀ s k,d.wireIdx s=some k→k < d.wires.length):=fun s k h=>wireIdx_lt h
 have HWv:Hid (∀ s,(d.wireIdx s=none∧d.wireI s=-1)∨∃ k,d.wireIdx s=some k∧d.wireI s=(k:Int)):=fun s=>by
  unfold DesD.wireI
  cases d.wireIdx s with
  | none=>exact Or.inl ⟨rfl,rfl⟩
  | some k=>exact Or.inr ⟨k,rfl,rfl⟩
 have HD:=Lib.hid hD
 generalize readyB d.needs out i=rb at HY HNo⊢
 generalize namesS [2] (d.wires[i]'hi).expr=N2 at HNa HY HNo
 generalize (d.wires[i]'hi).expr=e at g2 g3 g4 g5 HNa
 generalize d.wireIdx=wix at HY HNo HLt HWv
 generalize d.wireI=wii at HWi0 HWv
 clear hnd hX hE hs hD
 have hbs:w.heap.size≠bw:=by have:=World.block_lt_of_cell? _ _ g2;simp at this;omega
 simp only[desVal,desVals] at HWi0⊢
 rw[haw] at HWi0⊢
 generalize d.wires.length=n at *
 generalize d.name=nm at *
 generalize hins:d.inputs=ins at *
 generalize hregs:d.regs=regs at *
 generalize houts:d.outputs=outs at *
 clear hins hregs houts haw
 obtain⟨ai,ci,aw,cw,ar,cr,ao,co⟩:=x
 simp only at HWi0 hwc⊢
 have kk:∀ a u,w.cell? a=some u→(w.alloc (.cells #[.string nm,.slice ai ins.length ci,.slice (some ⟨bw,ow,none⟩) n cw,.slice ar regs.length cr,.slice ao outs.length co] 27)).cell? a=some u:=keeps_of_below ((Below.refl _ _).alloc (Nat.le_refl _) _)
 have c2:=kk _ _ g2
 have c3:=kk _ _ g3
 have c4:=kk _ _ g4
 have c5:=kk _ _ g5
 have HN1:=Lib.hid (HNa.out (w.alloc (.cells #[.string nm,.slice ai ins.length ci,.slice (some ⟨bw,ow,none⟩) n cw,.slice ar regs.length cr,.slice ao outs.length co] 27)) ((Below.refl _ _).alloc (Nat.le_refl _) _))
 clear HNa kk g2 g3 g4 g5
 have hin:(i:Int) < n:=by omega
 go_enter Tryz.func165, Tryz.ntmps165
 go_wp2_with fail
 refine HN1.out.mono ?_
 rintro r w1 ⟨⟨an,cn,rfl,hst⟩,hb1⟩
 simp only[World.size_alloc] at hb1
 have HB1:=Lib.hid hb1
 have HBw1:=Lib.hid (boxW _ hb1)
 have HS:=Lib.hid hst
 have HSA:=Lib.hid hst.addr
 have hln:=hst.2.1
 clear hst hb1 HN1 c2 c3 c4 c5
 go_wp2_with fail
 go_loopw [8,9] (fun q _ wr=>∃ j:Nat,q=.int .i64 j∧j≤N2.length∧Hid (∀ q (hq:q < N2.length),q < j→∀ k,wix (N2[q]'hq)=some k→out.contains k=true)∧Hid (Below w1.heap.size w1 wr)) (fun q _ _=>N2.length - (intOf q).toNat)
 case atStart=>exact⟨0,rfl,Nat.zero_le _,fun _ _ h=>absurd h (by omega),Below.refl _ _⟩
 case round =>
  obtain⟨j,rfl,hj,HF,HBr⟩:=hrel
  have HBwr:=Lib.hid (HBw1.out.trans (HBr.out.mono HBw1.out.size))
  have hB1r:Below (w.heap.size+1) (w.alloc (.cells #[.string nm,.slice ai ins.length ci,.slice (some ⟨bw,ow,none⟩) n cw,.slice ar regs.length cr,.slice ao outs.length co] 27)) wr:=HB1.out.trans (HBr.out.mono (by have:=HB1.out.size;simp at this;omega))
  have HB1r:=Lib.hid hB1r
  clear hB1r
  by_cases hlt:j < N2.length
  ·obtain⟨b,off,ha⟩:=HSA.out.resolve_left (by omega)
   subst ha
   have c0:=(keeps_of_below HBr.out) _ _ (HS.out.get rfl hlt)
   have HNx:Hid ((∀ k,wix (N2[j]'hlt)=some k→out.contains k=true)→∀ q (hq:q < N2.length),q < j+1→∀ k,wix (N2[q]'hq)=some k→out.contains k=true):=fun h q hq hqj=>by
    by_cases e:q=j
    ·subst e;exact h
    ·exact HF.out q hq (by omega)
   have HNj:=Lib.hid (HNo.out j hlt)
   have hv:=HWv.out (N2[j]'hlt)
   have HWi:=Lib.hid (fun W (hW:Below wr.heap.size wr W)=>(HWi0.out (N2[j]'hlt) W (HBwr.out.trans (hW.mono HBwr.out.size))).mono fun e w' h=>(⟨h.1,hW.trans (h.2.mono hW.size)⟩:_∧Below wr.heap.size wr w'))
   have HLj:=Lib.hid (HLt.out (N2[j]'hlt))
   generalize wix (N2[j]'hlt)=it at HNx HNj hv HLj
   generalize wii (N2[j]'hlt)=ii at hv HWi
   generalize (N2[j]'hlt)=s at c0 HWi
   ((try clear b0 b1 b2 b3 b4);have b0:=box_cell HB1r.out 0;have b1:=box_cell HB1r.out 1;have b2:=box_cell HB1r.out 2;have b3:=box_cell HB1r.out 3;have b4:=box_cell HB1r.out 4;(try simp at b0 b1 b2 b3 b4))
   have e0:∀ g:Grow wr.heap.size wr,g.w'.cell? ⟨w.heap.size,0,none⟩=some (.string nm):=Grow.old b0 (Nat.le_refl _)
   have e1:∀ g:Grow wr.heap.size wr,g.w'.cell? ⟨w.heap.size,1,none⟩=some (.slice ai ins.length ci):=Grow.old b1 (Nat.le_refl _)
   have e2:∀ g:Grow wr.heap.size wr,g.w'.cell? ⟨w.heap.size,2,none⟩=some (.slice (some ⟨bw,ow,none⟩) n cw):=Grow.old b2 (Nat.le_refl _)
   have e3:∀ g:Grow wr.heap.size wr,g.w'.cell? ⟨w.heap.size,3,none⟩=some (.slice ar regs.length cr):=Grow.old b3 (Nat.le_refl _)
   have e4:∀ g:Grow wr.heap.size wr,g.w'.cell? ⟨w.heap.size,4,none⟩=some (.slice ao outs.length co):=Grow.old b4 (Nat.le_refl _)
   have e5:∀ g:Grow wr.heap.size wr,g.w'.cell? ⟨b,off+j,none⟩=some (.string s):=Grow.old c0 (Nat.le_refl _)
   clear b0 b1 b2 b3 b4 c0
   rcases hv with ⟨rfl,rfl⟩ | ⟨k,rfl,rfl⟩
   ·have HNx2:=Lib.hid (HNx.out (fun k hk=>by cases hk))
    clear HNx HNj
    go_wp2_with fail
    (refine wp_region_grow (B:=wr.heap.size) (w0:=wr) (by kernel_rfl) (by kernel_rfl) bel ?_;(repeat (go_big_quiet_step ((go_at_call 211;(with_reducible exact grow_call (HWi.out _ (Grow.h _)))))));refine wpQuiet_nil ?_;intro wg hCg;have hbg:=grow_out hCg;clear hCg)
    go_wp2_with fail
    go_roundw
    case rel=>exact⟨j+1,by go_num,by omega,HNx2,HBr.out.trans (hbg.mono HBr.out.size)⟩
    case measure=>(simp[intOf];try omega)
   ·have hkn:k < n:=HLj.out k rfl
    have HDr:=Lib.hid (fun W (hW:Below wr.heap.size wr W)=>((HD.out.keep HBwr.out).keep hW).cell hkn)
    cases hc:out.contains k
    ·have HR:=Lib.hid (HNj.out k rfl hc)
     rw[hc] at HDr
     clear HNx HNj hc
     go_wp2_with fail
     (refine wp_region_grow (B:=wr.heap.size) (w0:=wr) (by kernel_rfl) (by kernel_rfl) bel ?_;(repeat (go_big_quiet_step ((go_at_call 211;(with_reducible exact grow_call (HWi.out _ (Grow.h _)))))));refine wpQuiet_nil ?_;intro wg hCg;have hbg:=grow_out hCg;clear hCg)
     have d0:=HDr.out _ hbg
     go_wp2_with fail
     go_ret
     exact⟨by rw[HR.out];rfl,HBwr.out.trans (hbg.mono HBwr.out.size)⟩
    ·have HNx2:=Lib.hid (HNx.out (fun q hq=>by cases hq;exact hc))
     rw[hc] at HDr
     clear HNx HNj hc
     go_wp2_with fail
     (refine wp_region_grow (B:=wr.heap.size) (w0:=wr) (by kernel_rfl) (by kernel_rfl) bel ?_;(repeat (go_big_quiet_step ((go_at_call 211;(with_reducible exact grow_call (HWi.out _ (Grow.h _)))))));refine wpQuiet_nil ?_;intro wg hCg;have hbg:=grow_out hCg;clear hCg)
     have d0:=HDr.out _ hbg
     go_wp2_with fail
     go_roundw
     case rel=>exact⟨j+1,by go_num,by omega,HNx2,HBr.out.trans (hbg.mono HBr.out.size)⟩
     case measure=>(simp[intOf];try omega)
  ·obtain rfl:j=N2.length:=by omega
   have HR:=Lib.hid (HY.out (fun q hq=>HF.out q hq hq))
   go_wp2_with fail
   go_ret
   exact⟨by rw[HR.out];rfl,HBwr.out⟩
end Go.Proofs.YtebneadheaefdaaGreatDoor
namespace Go.Proofs.YtebneadheaefdaaGreatDoor
open Go.RowKit
theorem hide_old {w0 w:World} {p:Nat→Bool} (h:Below w0.heap.size w0 w) (hp:∀ k,k < w0.heap.size→p k=false):∀ a v,w0.cell? a=some v→(World.hide w p).cell? a=some v:=fun _ _ ha =>
 cell_hide.2 ⟨hp _ (lt_cell ha),keeps_of_below h _ _ ha⟩
end Go.Proofs.YtebneadheaefdaaGreatDoor
namespace Go.Proofs.YtebneadheaefdaaGreatDoor
theorem modify_set {α:Type} (l:List α) (i:Nat) (f:α→α) (hi:i < l.length):l.modify i f=l.set i (f (l[i]'hi)):=by
 refine List.ext_getElem (by simp) fun j h1 h2=>?_
 rw[List.getElem_modify,List.getElem_set]
 split
 ·rename_i e
  subst e
  rfl
 ·rfl
end Go.Proofs.YtebneadheaefdaaGreatDoor
namespace Go.Proofs.YtebneadheaefdaaGreatDoor
open Go.RowKit
attribute [local go_sem ↓] Go.wp_at_zero Go.wp_at_succ
theorem hk_store5 {W:World} {p:Nat→Bool} {b o0 o1 o2 o3 o4:Nat} {u0 u1 u2 u3 u4:Value} (h:p b=true):HK (World.hide W p) (World.hide (((((W.setCell ⟨b,o0,none⟩ u0).setCell ⟨b,o1,none⟩ u1).setCell ⟨b,o2,none⟩ u2).setCell ⟨b,o3,none⟩ u3).setCell ⟨b,o4,none⟩ u4) p):=(hk_store4 h).trans (hk_store h)
theorem bel5w {w0 w:World} {B b o0 o1 o2 o3 o4:Nat} {u0 u1 u2 u3 u4:Value} (h:Below B w0 w) (hb:B≤b):Below B w0 (((((w.setCell ⟨b,o0,none⟩ u0).setCell ⟨b,o1,none⟩ u1).setCell ⟨b,o2,none⟩ u2).setCell ⟨b,o3,none⟩ u3).setCell ⟨b,o4,none⟩ u4) :=
 ((((h.setCell hb _).setCell hb _).setCell hb _).setCell hb _).setCell hb _
end Go.Proofs.YtebneadheaefdaaGreatDoor
namespace Go.Proofs.YtebneadheaefdaaGreatDoor
open Go.RowKit
attribute [local go_sem ↓] Go.wp_at_zero Go.wp_at_succ
theorem regs_sameQ {w0 W:World} {l:List RegD} {a0:Option Addr} {c0 b off b' cap:Nat} {q:Nat→Bool} (h0:RegsIn w0 l a0 c0) (ha:a0=some ⟨b,off,none⟩) (hk:∀ a v,w0.cell? a=some v→(World.hide W q).cell? a=some v) (h:RowOf W b' 76 7 l.length cap (sameK w0 b off 7)) :
  RowOf W b' 76 7 l.length cap (reP W q l):=by
 refine h.mono fun i f hi hf=>?_
 obtain⟨ae,ce,g1,g2,g3,g4,g5,g6,g7,g8⟩:=h0.get ha hi
 exact⟨_,ae,ce,List.getElem?_eq_getElem hi,hf 0 _ (by omega) g1,hf 1 _ (by omega) g2,hf 2 _ (by omega) g3,hf 3 _ (by omega) g4,hf 4 _ (by omega) g5,hf 5 _ (by omega) g6,hf 6 _ (by omega) g7,g8.keep hk⟩
theorem rowSetRe {W:World} {l:List RegD} {cap b i:Nat} {q:Nat→Bool} (hq:q b=true) (hr:RowOf W b 76 7 l.length cap (reP W q l)) (hi:i < l.length) {r:RegD} {a:Option Addr} {c:Nat} (he:ExIn (World.hide W q) r.next a c) :
  RowOf (((((((W.setCell ⟨b,i * 7+0,none⟩ (.string r.name)).setCell ⟨b,i * 7+1,none⟩ (.int .i64 r.width)).setCell ⟨b,i * 7+2,none⟩ (.int .i64 r.init)).setCell ⟨b,i * 7+3,none⟩ (.int .i64 r.next.op)).setCell ⟨b,i * 7+4,none⟩ (.int .i64 r.next.n)).setCell ⟨b,i * 7+5,none⟩ (.string r.next.name)).setCell ⟨b,i * 7+6,none⟩ (.slice a r.next.args.length c)) b 76 7 l.length cap (reP (((((((W.setCell ⟨b,i * 7+0,none⟩ (.string r.name)).setCell ⟨b,i * 7+1,none⟩ (.int .i64 r.width)).setCell ⟨b,i * 7+2,none⟩ (.int .i64 r.init)).setCell ⟨b,i * 7+3,none⟩ (.int .i64 r.next.op)).setCell ⟨b,i * 7+4,none⟩ (.int .i64 r.next.n)).setCell ⟨b,i * 7+5,none⟩ (.string r.next.name)).setCell ⟨b,i * 7+6,none⟩ (.slice a r.next.args.length c)) q (l.set i r)):=by
 have k:HK (World.hide W q) (World.hide (((((((W.setCell ⟨b,i * 7+0,none⟩ (.string r.name)).setCell ⟨b,i * 7+1,none⟩ (.int .i64 r.width)).setCell ⟨b,i * 7+2,none⟩ (.int .i64 r.init)).setCell ⟨b,i * 7+3,none⟩ (.int .i64 r.next.op)).setCell ⟨b,i * 7+4,none⟩ (.int .i64 r.next.n)).setCell ⟨b,i * 7+5,none⟩ (.string r.next.name)).setCell ⟨b,i * 7+6,none⟩ (.slice a r.next.args.length c)) q):=(hk_store4 hq).trans ((hk_store hq).trans ((hk_store hq).trans (hk_store hq)))
 refine((((hr.store4 (k:=0) hi (by omega) (.string r.name) (.int .i64 r.width) (.int .i64 r.init) (.int .i64 r.next.op)).store (k:=4) hi (by omega) (.int .i64 r.next.n)).store (k:=5) hi (by omega) (.string r.next.name)).store (k:=6) hi (by omega) (.slice a r.next.args.length c)).mono fun j f hj hf=>?_
 by_cases ej:j=i
 ·subst ej
  rw[if_pos rfl] at hf
  obtain⟨g3,hf,rfl⟩:=hf
  rw[if_pos rfl] at hf
  obtain⟨g2,hf,rfl⟩:=hf
  rw[if_pos rfl] at hf
  obtain⟨g1,hf,rfl⟩:=hf
  rw[if_pos rfl] at hf
  obtain⟨g0,_,rfl⟩:=hf
  refine⟨r,a,c,?_,by simp[updF],by simp[updF],by simp[updF],by simp[updF],by simp[updF],by simp[updF],by simp[updF],he.keep k.cell⟩
  rw[List.getElem?_set_self hi]
 ·rw[if_neg ej,if_neg ej,if_neg ej,if_neg ej] at hf
  obtain⟨v,ae,ce,g0,g1,g2,g3,g4,g5,g6,g7,g8⟩:=hf
  exact⟨v,ae,ce,by rw[List.getElem?_set_ne (Ne.symm ej)];exact g0,g1,g2,g3,g4,g5,g6,g7,g8.keep k.cell⟩
theorem rowRe5 {W:World} {q:Nat→Bool} {g b n cap o0 o1 o2 o3 o4:Nat} {u0 u1 u2 u3 u4:Value} {l:List RegD} (h:RowOf W g 76 7 n cap (reP W q l)) (hne:g≠b) (hq:q b=true) :
  RowOf (((((W.setCell ⟨b,o0,none⟩ u0).setCell ⟨b,o1,none⟩ u1).setCell ⟨b,o2,none⟩ u2).setCell ⟨b,o3,none⟩ u3).setCell ⟨b,o4,none⟩ u4) g 76 7 n cap (reP (((((W.setCell ⟨b,o0,none⟩ u0).setCell ⟨b,o1,none⟩ u1).setCell ⟨b,o2,none⟩ u2).setCell ⟨b,o3,none⟩ u3).setCell ⟨b,o4,none⟩ u4) q l) :=
 ((h.other4 hne).other1 hne).mono fun k f _ ⟨v,ae,ce,g0,g1,g2,g3,g4,g5,g6,g7,g8⟩=>⟨v,ae,ce,g0,g1,g2,g3,g4,g5,g6,g7,g8.keep (hk_store5 hq).cell⟩
theorem rclocked_res (W:World) (tm:Array Value) (b:Nat) (m0 m1 m2 m3 m4:Value) (hW:W.heap[b]? = some (.cells #[m0,m1,m2,m3,m4] 27 (0,0))) (h0:tm.getD 6 undef=.pointer (some ⟨b,0,none⟩)) :
  (results Tryz.f74 tm).run Tryz.prog W=.ok (.agg #[m0,m1,m2,m3,m4]) W:=by
 have hr : Tryz.f74.results=#[.cell 6 27]:=rfl
 have c0:=cell_of_blk hW 0
 have c1:=cell_of_blk hW 1
 have c2:=cell_of_blk hW 2
 have c3:=cell_of_blk hW 3
 have c4:=cell_of_blk hW 4
 simp at c0 c1 c2 c3 c4
 rw[results_cellC hr,h0]
 simp[asAddr]
 go_simp
def RClkPost (p:Nat→Bool) (w:World) (d:DesD) (y:DesA) (r:Ending) (w':World):Prop:=(∃ x g,r=.returned (desVal d x)∧DesIn (World.hide w' p) d x∧x.ar=some ⟨g,0,none⟩∧w.heap.size≤g∧x.cr≤maxLen∧RowOf w' g 76 7 d.regs.length x.cr (reP w' (fun k=>p k || decide (w.heap.size≤k)) d.regs)∧x.ai=y.ai∧x.ci=y.ci∧x.aw=y.aw∧x.cw=y.cw∧x.ao=y.ao∧x.co=y.co)∧Below w.heap.size w w'
set_option maxHeartbeats 4000000 in
set_option maxRecDepth 100000 in
theorem clockedX_any (p:Nat→Bool) (d:DesD) (x:DesA) (i:Nat) (r:RegD) (ea:Option Addr) (ec:Nat) (w:World) (hp:∀ k,p k=true→k < w.heap.size) (hD:DesIn (World.hide w p) d x) (hi:i < d.regs.length) (hX:ExIn (World.hide w p) r.next ea ec) :
  Calls Tryz.prog 74 #[desVal d x,.int .i64 i,.agg #[.string r.name,.int .i64 r.width,.int .i64 r.init,.int .i64 r.next.op,.int .i64 r.next.n,.string r.next.name,.slice ea r.next.args.length ec]] w (RClkPost p w { d with regs:=d.regs.set i r } x):=by
 have HD:=Lib.hid hD
 have HX:=Lib.hid hX
 have hlen:=hD.regs.2.1
 obtain⟨b,off,xs,ha,h1,h2,h3⟩:=(regs_cells (hD.regs.keep (hk_unhide _ _).cell)).resolve_left (by omega)
 have Ha:=Lib.hid ha
 have HN:Hid (∀ j u,xs[j]? = some u→w.cell? ⟨b,off+j,none⟩=some u):=fun j u hu=>by
  have hj:j < d.regs.length * 7:=by rw[← h1];exact(List.getElem?_eq_some_iff.1 hu).1
  rw[← h3 j hj]
  exact hu
 have H12:=Lib.hid (⟨h1,h2,h3⟩:_∧_∧_)
 obtain⟨ht,inf,z,bytes,hinf,hz,hsz,hby,hzs,h0,hb⟩:=elemRg
 have HP:Hid (∀ y g W,y.ai=x.ai∧y.ci=x.ci∧y.aw=x.aw∧y.cw=x.cw∧y.ao=x.ao∧y.co=x.co→y.ar=some ⟨g,0,none⟩→w.heap.size≤g→y.cr≤maxLen→RowOf W g 76 7 (d.regs.set i r).length y.cr (reP W (fun k=>p k || decide (w.heap.size≤k)) (d.regs.set i r))→DesIn (World.hide W p) { d with regs:=d.regs.set i r } y→Below w.heap.size w W→RClkPost p w { d with regs:=d.regs.set i r } x (.returned (.agg #[.string d.name,.slice y.ai d.inputs.length y.ci,.slice y.aw d.wires.length y.cw,.slice y.ar d.regs.length y.cr,.slice y.ao d.outputs.length y.co])) W):=fun y g W e0 e1 e2 e3 e4 q1 q2=>⟨⟨y,g,by rw[← show (d.regs.set i r).length=d.regs.length from List.length_set];rfl,q1,e1,e2,e3,e4,e0⟩,q2⟩
 generalize RClkPost p w { d with regs:=d.regs.set i r } x=Po at HP⊢
 clear hD hX h1 h2 h3
 obtain⟨xai,xci,xaw,xcw,xar,xcr,xao,xco⟩:=x
 subst ha
 simp only[desVal,desVals]
 go_enter Tryz.func74, Tryz.ntmps74
 go_upto_region 1 with fail
 generalize hW3:((w.alloc (.cells #[.string d.name,.slice xai d.inputs.length xci,.slice xaw d.wires.length xcw,.slice (some ⟨b,off,none⟩) d.regs.length xcr,.slice xao d.outputs.length xco] 27)).alloc (.cells #[.string r.name,.int .i64 r.width,.int .i64 r.init,.int .i64 r.next.op,.int .i64 r.next.n,.string r.next.name,.slice ea r.next.args.length ec] 76)).alloc (.cells #[.string ⟨#[]⟩,.slice none 0 0,.slice none 0 0,.slice none 0 0,.slice none 0 0] 27)=W3
 have hz3:w.heap.size+3≤W3.heap.size:=by rw[← hW3];simp
 have HB3:Hid (Below w.heap.size w W3):=by show Below _ _ _;rw[← hW3];exact belr
 have HD3:Hid (W3.heap[w.heap.size]? = some (.cells #[.string d.name,.slice xai d.inputs.length xci,.slice xaw d.wires.length xcw,.slice (some ⟨b,off,none⟩) d.regs.length xcr,.slice xao d.outputs.length xco] 27 (0,0))):=by
  show _=_;rw[← hW3]
  exact hx_old (hx_old (hx_new rfl))
 have HE3:Hid (W3.heap[w.heap.size+1]? = some (.cells #[.string r.name,.int .i64 r.width,.int .i64 r.init,.int .i64 r.next.op,.int .i64 r.next.n,.string r.next.name,.slice ea r.next.args.length ec] 76 (0,0))):=by
  show _=_;rw[← hW3]
  exact hx_old (hx_new (by simp))
 have HR3:Hid (W3.heap[w.heap.size+1+1]? = some (.cells #[.string ⟨#[]⟩,.slice none 0 0,.slice none 0 0,.slice none 0 0,.slice none 0 0] 27 (0,0))):=by
  show _=_;rw[← hW3]
  exact hx_new (by simp)
 clear hW3
 obtain⟨d0,d1,d2,d3,d4,df⟩:=cell5 HD3.out
 have D2:=fun o=>keeps_of_below ((Below.refl W3.heap.size W3).alloc (Nat.le_refl _) o) _ _ d3
 have hn0:0 < d.regs.length:=by omega
 go_wp2_with (at_builtin;go_must (refine wpList_append_lies _ rfl (.tmp 7) (.tmp 9) 24 (by rfl) W3.heap.size 76 inf z 7 bytes ht hinf hz hsz hby hzs h0 _ 0 [] (by rfl) (World.ownsRow_made W3 #[] 0 (Nat.le_refl _) (Nat.zero_le _) rfl) ⟨b,off,none⟩ d.regs.length xcr xs (by rfl) H12.out.1 ?qc2 H12.out.2.1 hn0 ?qc4 ?qc5 ?qc6 _ rfl ?_))
 case qc2=>exact fun j u hj=>Lib.cell?_alloc_some _ (keeps_of_below HB3.out _ _ (HN.out j u hj))
 case qc4=>unfold maxLen;omega
 case qc5=>exact Nat.le_trans (Nat.mul_le_mul (show d.regs.length≤1073741824 by omega) hb) (by decide)
 intro g cap w5 ho hg hgat hglt
 try simp only[Nat.zero_add,List.nil_append] at ho
 clear d0 d1 d2 d3 d4 df D2
 have hcm:cap≤maxLen:=by
  rcases ho.2 with ⟨q,_⟩ | ⟨g',cap',cur,q,_,_,_,hm,_⟩
  ·simp at q
  ·simp only[Value.slice.injEq] at q
   obtain⟨_,_,rfl⟩:=q
   exact hm
 have hno:∀ j,j < W3.heap.size→(Value.slice (some ⟨W3.heap.size,0,none⟩) 0 0).ownBlock≠some j:=fun j hj e=>by
  have:W3.heap.size=j:=Option.some.inj e
  omega
 have HD5:=Lib.hid (gr_blk hg (hx_old HD3.out) (hno _ (by omega)))
 have HE5:=Lib.hid (gr_blk hg (hx_old HE3.out) (hno _ (by omega)))
 have HR5:=Lib.hid (gr_blk hg (hx_old HR3.out) (hno _ (by omega)))
 have hg3:W3.heap.size≤g:=by
  rcases hgat with q | q
  ·have:W3.heap.size=g:=Option.some.inj q
   omega
  ·rw[q];simp
 have HB5:Hid (Below w.heap.size w w5):=Below.grown (HB3.out.alloc (by omega) _) hg (by rw[World.size_alloc];omega) (fun j hj=>by
  have:W3.heap.size=j:=Option.some.inj hj
  omega)
 have HQo:Hid (∀ k,k < w.heap.size→(fun k=>p k || decide (w.heap.size≤k)) k=true→p k=true):=fun k hk h=>by
  rw[Bool.or_eq_true,decide_eq_true_eq] at h
  rcases h with h | h
  ·exact h
  ·omega
 have HQn:Hid (∀ k,w.heap.size≤k→(fun k=>p k || decide (w.heap.size≤k)) k=true):=fun k hk=>by simp[hk]
 have HQs:Hid (∀ k,p k=true→(fun k=>p k || decide (w.heap.size≤k)) k=true):=fun k hk=>by simp[hk]
 generalize (fun k=>p k || decide (w.heap.size≤k))=q at HQo HQn HQs HP
 have hk5:HK (World.hide w p) (World.hide w5 q):=hk_below HB5.out fun k hk h=>HQo.out k hk h
 have HRow:Hid (RowOf w5 g 76 7 d.regs.length cap (reP w5 q d.regs)):=by
  obtain⟨b2,cap2,he2,_,hr⟩:=rowOf_owns ho hn0
  simp only[Value.slice.injEq,Option.some.injEq,Addr.mk.injEq,and_true] at he2
  obtain⟨rfl,_,rfl⟩:=he2
  refine regs_sameQ HD.out.regs rfl hk5.cell (hr.mono fun k f hk hf j u hj hu=>?_)
  rw[hf j hj,H12.out.2.2 _ (by
   have:(k+1) * 7≤d.regs.length * 7:=Nat.mul_le_mul_right _ hk
   omega),← Nat.add_assoc]
  exact hide_cell _ _ hu
 have HX5:=Lib.hid (HX.out.keep hk5.cell)
 clear ho hg hgat hno hk5 HN H12 ht hinf hz hsz hby hzs h0 hb HD3 HE3 HR3
 obtain⟨d0,d1,d2,d3,d4,df⟩:=cell5 HD5.out
 have hbE:=cell_of_blk HE5.out
 have e0:=hbE 0
 have e1:=hbE 1
 have e2:=hbE 2
 have e3:=hbE 3
 have e4:=hbE 4
 have e5:=hbE 5
 have e6:=hbE 6
 simp at e0 e1 e2 e3 e4 e5 e6
 clear hbE
 have rf:=fun o=>HRow.out.unfrozen o
 have hii:(i:Int) < (d.regs.length:Int):=by omega
 obtain⟨f,⟨v0,ae,ce,g0,g1,g2,g3,g4,g5,g6,g7,_⟩,hf⟩:=HRow.out.get hi
 have r0:=hf 0 _ g1
 have r1:=hf 1 _ g2
 have r2:=hf 2 _ g3
 have r3:=hf 3 _ g4
 have r4:=hf 4 _ g5
 have r5:=hf 5 _ g6
 have r6:=hf 6 _ g7
 simp only[Nat.add_zero] at r0
 clear hf g0 g1 g2 g3 g4 g5 g6 g7
 go_upto_region 3 with fail
 have kq:=HQn.out w.heap.size (Nat.le_refl _)
 have HRow6:Hid (RowOf (w5.setCell ⟨w.heap.size,3,none⟩ (.slice (some ⟨g,0,none⟩) d.regs.length cap)) g 76 7 d.regs.length cap (reP (w5.setCell ⟨w.heap.size,3,none⟩ (.slice (some ⟨g,0,none⟩) d.regs.length cap)) q d.regs)) :=
  (HRow.out.other1 (by omega)).mono fun k f _ ⟨v,ae,ce,g0,g1,g2,g3,g4,g5,g6,g7,g8⟩=>⟨v,ae,ce,g0,g1,g2,g3,g4,g5,g6,g7,g8.keep (hk_store kq).cell⟩
 have HRow7:=Lib.hid (rowSetRe (HQn.out g (by omega)) HRow6.out hi (HX5.out.keep (hk_store kq).cell))
 generalize hW7:(((((((w5.setCell ⟨w.heap.size,3,none⟩ (.slice (some ⟨g,0,none⟩) d.regs.length cap)).setCell ⟨g,i * 7,none⟩ (.string r.name)).setCell ⟨g,i * 7+1,none⟩ (.int .i64 r.width)).setCell ⟨g,i * 7+2,none⟩ (.int .i64 r.init)).setCell ⟨g,i * 7+3,none⟩ (.int .i64 r.next.op)).setCell ⟨g,i * 7+4,none⟩ (.int .i64 r.next.n)).setCell ⟨g,i * 7+5,none⟩ (.string r.next.name)).setCell ⟨g,i * 7+6,none⟩ (.slice ea r.next.args.length ec)=W7
 have HRow8:Hid (RowOf W7 g 76 7 d.regs.length cap (reP W7 q (d.regs.set i r))):=by show RowOf _ _ _ _ _ _ _;rw[← hW7];exact HRow7.out
 have hgw:w.heap.size≤g:=by omega
 have HB7:Hid (Below w.heap.size w W7):=by show Below _ _ _;rw[← hW7];exact(((((((HB5.out.setCell (Nat.le_refl _) _).setCell hgw _).setCell hgw _).setCell hgw _).setCell hgw _).setCell hgw _).setCell hgw _).setCell hgw _
 have n1:w.heap.size≠g:=by omega
 have n2:w.heap.size+1+1≠g:=by omega
 have n3:w.heap.size+1+1≠w.heap.size:=by omega
 have HD7:Hid (W7.heap[w.heap.size]? = some (.cells #[.string d.name,.slice xai d.inputs.length xci,.slice xaw d.wires.length xcw,.slice (some ⟨g,0,none⟩) d.regs.length cap,.slice xao d.outputs.length xco] 27 (0,0))):=by
  show _=_;rw[← hW7]
  refine hx_set (hx_set (hx_set (hx_set (hx_set (hx_set (hx_set ?_ n1) n1) n1) n1) n1) n1) n1
  rw[heap_setCell_same _ _ _ _ _ _ HD5.out]
  rfl
 have HR7:Hid (W7.heap[w.heap.size+1+1]? = some (.cells #[.string ⟨#[]⟩,.slice none 0 0,.slice none 0 0,.slice none 0 0,.slice none 0 0] 27 (0,0))):=by
  show _=_;rw[← hW7]
  exact hx_set (hx_set (hx_set (hx_set (hx_set (hx_set (hx_set (hx_set HR5.out n3) n2) n2) n2) n2) n2) n2) n2
 clear hW7 HRow7 HRow6 HRow d0 d1 d2 d3 d4 df e0 e1 e2 e3 e4 e5 e6 rf r0 r1 r2 r3 r4 r5 r6 n1 n3
 obtain⟨d0,d1,d2,d3,d4,df⟩:=cell5 HD7.out
 obtain⟨r0,r1,r2,r3,r4,rf⟩:=cell5 HR7.out
 go_wp2_with fail
 refine bodyPost_ret (v:=.agg #[.string d.name,.slice xai d.inputs.length xci,.slice xaw d.wires.length xcw,.slice (some ⟨g,0,none⟩) d.regs.length cap,.slice xao d.outputs.length xco]) (rclocked_res _ _ (w.heap.size+1+1) _ _ _ _ _ (set5M HR7.out) rfl) rfl (HP.out ⟨xai,xci,xaw,xcw,some ⟨g,0,none⟩,cap,xao,xco⟩ g _ ⟨rfl,rfl,rfl,rfl,rfl,rfl⟩ rfl hgw hcm ?hrow ?hdes (bel5w HB7.out (by omega)))
 case hrow =>
  have hlm:(d.regs.set i r).length=d.regs.length:=List.length_set
  have hr9:=HRow8.out
  rw[← hlm] at hr9
  exact rowRe5 hr9 (Ne.symm n2) (HQn.out (w.heap.size+1+1) (by omega))
 have hk:=(hk_below (p:=p) (q:=p) (bel5w (o0:=0) (o1:=1) (o2:=2) (o3:=3) (o4:=4) (u0:=.string d.name) (u1:=.slice xai d.inputs.length xci) (u2:=.slice xaw d.wires.length xcw) (u3:=.slice (some ⟨g,0,none⟩) d.regs.length cap) (u4:=.slice xao d.outputs.length xco) HB7.out (b:=w.heap.size+1+1) (by omega)) fun _ _ h=>h).cell
 have pg:p g=false:=by
  cases h:p g with
  | false=>rfl
  | true=>have:=hp _ h;omega
 have hlm:(d.regs.set i r).length=d.regs.length:=List.length_set
 have hr9:=HRow8.out
 rw[← hlm] at hr9
 exact⟨HD.out.ins.keep hk,HD.out.wires.keep hk,rowRe_in (rowRe5 hr9 (Ne.symm n2) (HQn.out (w.heap.size+1+1) (by omega))) pg (Nat.le_trans (Nat.le_of_eq hlm) hlen) (hk_mono fun k h=>HQs.out k h).cell,HD.out.outs.keep hk⟩
end Go.Proofs.YtebneadheaefdaaGreatDoor
namespace Go.Proofs.YtebneadheaefdaaGreatDoor
open Go.RowKit
attribute [local go_sem ↓] Go.wp_at_zero Go.wp_at_succ
theorem fmt_nat (n:Nat):fmtS (n:Int)=⟨(Lib.decDigits n).toArray⟩:=by unfold fmtS Lib.itoa;rw[if_neg (by omega)];rfl
theorem dec_lenR {n:Nat} (h:n≤65535):(Lib.decDigits n).length≤21:=by
 have:=Lib.itoa_length_le (n:Int) (by omega) (by omega)
 unfold Lib.itoa at this
 rw[if_neg (by omega)] at this
 exact this
theorem dec_small {n:Nat} (h:n < 10):Lib.decDigits n=[UInt8.ofNat (48+n % 10)]:=by rw[Lib.decDigits,dif_pos h,Nat.mod_eq_of_lt h]
theorem dec_big {n:Nat} (h:¬ n < 10):Lib.decDigits n=Lib.decDigits (n / 10)++[UInt8.ofNat (48+n % 10)]:=by rw[Lib.decDigits,dif_neg h]
theorem one_str (c:Nat) (S:ByteArray):(strOfNums [(c:Int)]++S).data.toList=UInt8.ofNat c::S.data.toList:=by
 rw[ByteArray.data_append]
 simp[strOfNums]
theorem bytes_of {S:ByteArray} {l:List UInt8} (h:S.data.toList=l):S=⟨l.toArray⟩:=by rw[← h]
theorem conv1 (W:World) (b:Nat) (j:Int) (h:W.cell? ⟨b,0,none⟩=some (.int .u8 j)):(convert 121 9 (.slice (some ⟨b,0,none⟩) 1 1)).run Tryz.prog W=.ok (.string (strOfNums [j])) W :=
 run_convert_bytes_arg W 121 5 Tryz.underlying121 Tryz.underlying5 b 0 1 1 [j] rfl (fun j' hj=>by have hj0:j'=0:=(by omega);subst hj0;simpa using h) 9 Tryz.underlying9
theorem below01_any (i:Nat) (hi:i≤65535) (w:World):Calls Tryz.prog 149 #[.int .i64 i] w fun e w'=>e=.returned (.int .i64 (-(i:Int)))∧w=w':=by
 by_cases h:i=0
 ·subst h
  go_enter Tryz.func149, Tryz.ntmps149
  go_wp2_with fail
  go_ret
  exact⟨rfl,rfl⟩
 ·have hd:decide ((0:Int) < (i:Int))=true:=decide_eq_true (by omega)
  go_enter Tryz.func149, Tryz.ntmps149
  go_wp2_with fail
  go_ret
  exact⟨rfl,rfl⟩
theorem neg_mod (q:Nat):(-(q:Int)).tmod 10=-((q % 10:Nat):Int):=by rw[Int.neg_tmod,Int.tmod_eq_emod_of_nonneg (by omega)];omega
theorem neg_div (q:Nat):(-(q:Int)).tdiv 10=-((q / 10:Nat):Int):=by rw[Int.neg_tdiv,Int.tdiv_eq_ediv_of_nonneg (by omega)];omega
set_option maxRecDepth 100000 in
set_option maxHeartbeats 4000000 in
theorem rFmt_any (n:Nat) (hn:n≤65535) (w:World):Calls Tryz.prog 90 #[.int .i64 n] w (SPost (fmtS n) w):=by
 have hcv:=conv1
 have HBl:=Lib.hid (below01_any n hn w)
 have HP:Hid (∀ S w',S.data.toList=Lib.decDigits n→Below w.heap.size w w'→SPost (fmtS n) w (.returned (.string S)) w'):=fun S w' h1 h2=>⟨by rw[fmt_nat,bytes_of h1],h2⟩
 generalize SPost (fmtS n) w=Po at HP⊢
 have hdl:=dec_lenR hn
 go_enter Tryz.func90, Tryz.ntmps90
 go_wp2_with fail
 refine HBl.out.mono ?_
 rintro e w1 ⟨rfl,rfl⟩
 go_wp2_with fail
 go_loopw [3,4] (fun s m wr=>∃ (S:ByteArray) (q:Nat),s=.string S∧m=.int .i64 (-(q:Int))∧q≤65535∧Hid (Lib.decDigits n=Lib.decDigits q++S.data.toList)∧Hid (Below w.heap.size w wr)) (fun _ m _=>(-(intOf m)).toNat)
 case atStart=>exact⟨.empty,n,rfl,rfl,hn,(by show Lib.decDigits n=Lib.decDigits n++[];simp),Below.refl _ _⟩
 case round =>
  obtain⟨S,q,rfl,rfl,hq,HD,HB⟩:=hrel
  have hS:S.size≤21:=by
   have h1:=congrArg List.length HD.out
   rw[List.length_append] at h1
   have h2:S.data.toList.length=S.size:=Array.length_toList
   omega
  have hr:=neg_mod q
  have hd:=neg_div q
  have hr10:q % 10 < 10:=Nat.mod_lt _ (by omega)
  have h48:(48:Int) - -((q % 10:Nat):Int)=((48+q % 10:Nat):Int):=by omega
  have HO:Hid ((strOfNums [((48+q % 10:Nat):Int)]++S).data.toList=UInt8.ofNat (48+q % 10)::S.data.toList):=one_str _ _
  by_cases hq10:q < 10
  ·have hq0:q / 10=0:=by omega
   have HF:Hid ((strOfNums [((48+q % 10:Nat):Int)]++S).data.toList=Lib.decDigits n):=by
    show _=_
    rw[HO.out,HD.out,dec_small hq10]
    rfl
   rw[hq0] at hd
   have hd0:(-(q:Int)).tdiv 10=0:=by rw[hd];rfl
   clear hd
   have hcl:48+q % 10 < 58:=by omega
   generalize (48+q % 10)=cc at *
   generalize ((q % 10:Nat):Int)=rr at *
   have q1:¬ 9223372036854775807 < 1+S.size:=by omega
   have HPe:=Lib.hid (fun W (hW:Below w.heap.size w W)=>HP.out _ W HF.out hW)
   have hnn:decide ((n:Int) < 0)=false:=decide_eq_false (by omega)
   clear HO HF HP HD
   go_wp2_with fail
   first | exact HPe.out _ (HB.out.alloc HB.out.size _) | (go_ret;exact HPe.out _ (HB.out.alloc HB.out.size _))
  ·have HF:Hid (Lib.decDigits n=Lib.decDigits (q / 10)++(strOfNums [((48+q % 10:Nat):Int)]++S).data.toList):=by
    show _=_
    rw[HO.out,HD.out,dec_big hq10]
    simp
   have hcl:48+q % 10 < 58:=by omega
   have hq1:1≤q / 10:=by omega
   have hq2:q / 10 < q:=by omega
   generalize (48+q % 10)=cc at *
   generalize ((q % 10:Nat):Int)=rr at *
   generalize q / 10=qd at *
   have hne:(-(qd:Int) == 0)=false:=beq_eq_false_iff_ne.2 (by omega)
   have q1:¬ 9223372036854775807 < 1+S.size:=by omega
   clear HO HD
   go_wp2_with fail
   go_roundw
   case rel=>exact⟨_,qd,rfl,rfl,by omega,HF,HB.out.alloc HB.out.size _⟩
   case measure=>(simp[intOf];try omega)
end Go.Proofs.YtebneadheaefdaaGreatDoor
namespace Go.Proofs.YtebneadheaefdaaGreatDoor
open Go.RowKit
attribute [local go_sem ↓] Go.wp_at_zero Go.wp_at_succ
theorem nextO_at {n:Nat} {nd:Nat→List Nat} {out:List Nat} {q:Nat} (hq:q < n) (h0:∀ r,r < q→out.contains r=true∨readyB nd out r=false) (h1:out.contains q=false) (h2:readyB nd out q=true):nextO n nd out=some q:=by
 unfold nextO
 have:=find_at (p:=fun i=>!out.contains i && readyB nd out i) (l:=List.range n) (q:=q) (by simpa using hq) (fun r hr hrq=>by
  simp only[List.getElem_range]
  rcases h0 r hrq with h | h
  ·rw[h];rfl
  ·rw[h];simp) (by simp only[List.getElem_range];rw[h1,h2];rfl)
 simpa using this
theorem nextO_no {n:Nat} {nd:Nat→List Nat} {out:List Nat} (h0:∀ r,r < n→out.contains r=true∨readyB nd out r=false):nextO n nd out=none:=by
 unfold nextO
 refine find_no fun r hr=>?_
 simp only[List.getElem_range]
 rcases h0 r (by simpa using hr) with h | h
 ·rw[h];rfl
 ·rw[h];simp
theorem stepO_some {n:Nat} {nd:Nat→List Nat} {out:List Nat} {q:Nat} (h:nextO n nd out=some q):stepO n nd out=out++[q]:=by unfold stepO;rw[h]
theorem stepO_none {n:Nat} {nd:Nat→List Nat} {out:List Nat} (h:nextO n nd out=none):stepO n nd out=out:=by unfold stepO;rw[h]
set_option maxRecDepth 100000 in
set_option maxHeartbeats 16000000 in
theorem rorder_fresh (d:DesD) (x:DesA) (w:World) (hE:DesIn w d x) (hs:DesSmall d) :
  Calls Tryz.prog 105 #[desVal d x] w fun e w'=>(∃ a cap,e=.returned (.slice a d.order.length cap)∧IntsIn w' (natI d.order) a cap∧∀ p,a=some p→w.heap.size≤p.block)∧Below w.heap.size w w':=by
 have hn:d.wires.length≤1048576:=hs.len.2.1
 have HRd0:=Lib.hid (fun i bd out W (hW:Below w.heap.size w W) (hi:i < d.wires.length) (hD:DoneRow W bd d.wires.length out)=>ready_any d x i bd out W (hE.below hW) hs hi hD)
 have HOl:Hid (∀ k,(orderO d.wires.length d.needs k).length≤k∧∀ i∈orderO d.wires.length d.needs k,i < d.wires.length):=fun k=>⟨(orderO_ok _ _ k).1,(orderO_ok _ _ k).2.2⟩
 have HOs:Hid (∀ k,orderO d.wires.length d.needs (k+1)=stepO d.wires.length d.needs (orderO d.wires.length d.needs k)):=fun k=>rfl
 have HOD:Hid (d.order=orderO d.wires.length d.needs d.wires.length):=rfl
 have HO00:Hid (orderO d.wires.length d.needs 0=[]):=rfl
 generalize d.order=OD at HOD⊢
 have hwc:=hE.wires.1
 clear hE hs
 simp only[desVal,desVals] at HRd0⊢
 generalize d.wires.length=n at *
 generalize d.name=nm at *
 generalize hins:d.inputs=ins at *
 generalize hregs:d.regs=regs at *
 generalize houts:d.outputs=outs at *
 clear hins hregs houts
 generalize hO:orderO n d.needs=O at HOl HOs HOD HO00
 clear hO
 obtain⟨ai,ci,aw,cw,ar,cr,ao,co⟩:=x
 simp only at HRd0 hwc⊢
 have hmk:=mk_bools n (by omega)
 have HFr:=Lib.hid (frow_new (w.alloc (.cells #[.string nm,.slice ai ins.length ci,.slice aw n cw,.slice ar regs.length cr,.slice ao outs.length co] 27)) 4 n (.bool false))
 have hBm:Below (w.heap.size+1) (w.alloc (.cells #[.string nm,.slice ai ins.length ci,.slice aw n cw,.slice ar regs.length cr,.slice ao outs.length co] 27)) ((w.alloc (.cells #[.string nm,.slice ai ins.length ci,.slice aw n cw,.slice ar regs.length cr,.slice ao outs.length co] 27)).alloc (.cells (List.replicate n (Value.bool false)).toArray 4)):=(Below.refl _ _).alloc (by simp) _
 have HBm:=Lib.hid hBm
 clear hBm
 rw[show (List.replicate n (Value.bool false)).toArray=Array.replicate n (Value.bool false) by simp] at HFr HBm
 simp only[World.size_alloc] at HFr
 go_enter Tryz.func105, Tryz.ntmps105
 go_wp2_with fail
 generalize hwm:(World.alloc (World.alloc w _) _)=wm at HFr HBm⊢
 clear hwm hmk
 go_loopw [13,4,5] (fun i v _ wr=>∃ k:Nat,i=.int .i64 k∧k≤n∧Hid (DoneRow wr (w.heap.size+1) n (O k))∧Hid (wr.ownsRow (w.heap.size+2) 3 1 v (O k).length ((natI (O k)).map (Value.int .i64)))∧Hid (Below (w.heap.size+1) (w.alloc (.cells #[.string nm,.slice ai ins.length ci,.slice aw n cw,.slice ar regs.length cr,.slice ao outs.length co] 27)) wr)) (fun i _ _ _=>n - (intOf i).toNat)
 case atStart=>exact⟨0,rfl,Nat.zero_le _,(by rw[HO00.out];exact HFr.out),(by rw[HO00.out];exact World.ownsRow_nil _ _ _ _),HBm⟩
 case round =>
  obtain⟨k,rfl,hk,HDr,HOw,HBr⟩:=hrel
  have HBw:=Lib.hid (boxW _ HBr.out)
  have hzr:=HDr.out.lt
  have hlk:=(HOl.out k).1
  by_cases hlt:k < n
  ·have HNe:Hid ((∀ r,r < n→(O k).contains r=true∨readyB d.needs (O k) r=false)→O (k+1)=O k):=fun h=>by rw[HOs.out,stepO_none (nextO_no h)]
   have HSo:Hid (∀ q,q < n→(∀ r,r < q→(O k).contains r=true∨readyB d.needs (O k) r=false)→(O k).contains q=false→readyB d.needs (O k) q=true→O (k+1)=O k++[q]):=fun q hq h0 h1 h2=>by rw[HOs.out,stepO_some (nextO_at hq h0 h1 h2)]
   generalize hOk1:O (k+1)=Ok1 at HNe HSo
   have HOk1:=Lib.hid hOk1
   clear hOk1
   generalize hOk:O k=Ok at HDr HOw HNe HSo hlk
   clear hOk
   obtain⟨va,vc,hv,_⟩:=slice_of_own HOw.out (by omega)
   subst hv
   have HBx:=Lib.hid HBr.out
   go_wp2_with fail
   go_loopw [5,4] (fun i vv wz=>∃ q:Nat,i=.int .i64 q∧vv=.slice va Ok.length vc∧q≤n∧Hid (∀ r,r < q→Ok.contains r=true∨readyB d.needs Ok r=false)∧Hid (Below wr.heap.size wr wz)) (fun i _ _=>n - (intOf i).toNat)
   case atStart=>exact⟨0,rfl,rfl,Nat.zero_le _,fun r h=>absurd h (by omega),Below.refl _ _⟩
   case round =>
    rename World=>wz
    obtain⟨q,rfl,rfl,hq,HF,HBz⟩:=hrel
    have hBxz:Below (w.heap.size+1) (w.alloc (.cells #[.string nm,.slice ai ins.length ci,.slice aw n cw,.slice ar regs.length cr,.slice ao outs.length co] 27)) wz:=HBr.out.trans (HBz.out.mono (by omega))
    have HBxz:=Lib.hid hBxz
    have HBwz:=Lib.hid (boxW _ hBxz)
    have HDz:=Lib.hid (HDr.out.keep HBz.out)
    have HOz:=Lib.hid (ownsRow_below HOw.out HBz.out)
    clear hBxz
    ((try clear b0 b1 b2 b3 b4);have b0:=box_cell HBxz.out 0;have b1:=box_cell HBxz.out 1;have b2:=box_cell HBxz.out 2;have b3:=box_cell HBxz.out 3;have b4:=box_cell HBxz.out 4;(try simp at b0 b1 b2 b3 b4))
    by_cases hlq:q < n
    ·have d0:=HDz.out.cell hlq
     cases hc:Ok.contains q
     ·rw[hc] at d0
      have HRd:=Lib.hid (HRd0.out q (w.heap.size+1) Ok wz HBwz.out hlq HDz.out)
      cases hr:readyB d.needs Ok q
      ·rw[hr] at HRd
       have HFx:Hid (∀ r,r < q+1→Ok.contains r=true∨readyB d.needs Ok r=false):=fun r h=>by
        by_cases e:r=q
        ·subst e;exact Or.inr hr
        ·exact HF.out r (by omega)
       clear hr hc
       go_wp2_with fail
       refine HRd.out.mono ?_
       rintro e wy ⟨rfl,hby⟩
       have HBy:=Lib.hid (HBz.out.trans (hby.mono HBz.out.size))
       clear hby d0 b0 b1 b2 b3 b4
       go_wp2_with fail
       go_roundw
       case rel=>exact⟨q+1,by go_num,rfl,by omega,HFx,HBy⟩
       case measure=>(simp[intOf];try omega)
      ·rw[hr] at HRd
       have HSq:=Lib.hid (HSo.out q hlq HF.out hc hr)
       clear hr hc
       go_wp2_with fail
       refine HRd.out.mono ?_
       rintro e wy ⟨rfl,hby⟩
       have HDy:=Lib.hid (HDz.out.keep hby)
       have HOy:=Lib.hid (ownsRow_below HOz.out hby)
       have HBy:=Lib.hid (HBxz.out.trans (hby.mono (by have:=HBxz.out.size;simp at this;omega)))
       clear hby d0 b0 b1 b2 b3 b4
       have d1:=HDy.out.cell hlq
       have f1:=HDy.out.free q
       have hzy:=HDy.out.lt
       have HO2:Hid ((wy.setCell ⟨w.heap.size+1,q,none⟩ (.bool true)).ownsRow (w.heap.size+2) 3 1 (.slice va Ok.length vc) Ok.length ((natI Ok).map (Value.int .i64))):=ownsRow_setCell_other HOy.out (fun h=>by have h1:=(HOy.out.lt _ h).1;simp only at h1;omega) _
       have HB2:Hid (Below (w.heap.size+1) (w.alloc (.cells #[.string nm,.slice ai ins.length ci,.slice aw n cw,.slice ar regs.length cr,.slice ao outs.length co] 27)) (wy.setCell ⟨w.heap.size+1,q,none⟩ (.bool true))):=HBy.out.setCell (by simp) _
       have HD2:=Lib.hid (DoneRow.set (show DoneRow _ _ _ _ from HDy.out) hlq)
       have hz2:(wy.setCell ⟨w.heap.size+1,q,none⟩ (.bool true)).heap.size=wy.heap.size:=by simp
       have hok:Ok.length≤1073741824:=by omega
       go_wp2_with (at_builtin;go_must (refine own_app elemI _ rfl (.tmp 36) (.tmp 38) rfl (w.heap.size+2) (.slice va Ok.length vc) Ok.length ((natI Ok).map (Value.int .i64)) rfl HO2.out [.int .i64 q] rfl (by simp[Value.oneCell']) _ 1 rfl (by first | rfl | simp) hok sz ?_))
       intro v' w3 ho3 hg3
       have HO3:=Lib.hid ho3
       have HG3:=Lib.hid hg3
       clear ho3 hg3
       go_wp2_with fail
       go_roundw
       case rel =>
        refine⟨k+1,by go_num,by omega,?_,?_,?_⟩
        ·show DoneRow _ _ _ _
         rw[HOk1.out,HSq.out]
         have h1:=FRow.keep HD2.out ((Below.refl _ _).alloc (Nat.le_refl _) (.cells #[.int .i64 q] 3))
         unfold DoneRow FRow at h1⊢
         rw[HG3.out.block _ (by simp;omega) (fun e=>by have:=(HO2.out.lt _ e.symm).1;omega)]
         exact h1
        ·show World.ownsRow _ _ _ _ _ _ _
         rw[HOk1.out,HSq.out]
         simpa [natI] using HO3.out
        ·exact Below.grown (HB2.out.alloc (by rw[hz2];omega) _) HG3.out (by simp;omega) (fun j hj=>by have:=(HO2.out.lt j hj).1;omega)
       case measure=>(simp[intOf];try omega)
     ·rw[hc] at d0
      have HFx:Hid (∀ r,r < q+1→Ok.contains r=true∨readyB d.needs Ok r=false):=fun r h=>by
       by_cases e:r=q
       ·subst e;exact Or.inl hc
       ·exact HF.out r (by omega)
      clear hc
      go_wp2_with fail
      go_roundw
      case rel=>exact⟨q+1,by go_num,rfl,by omega,HFx,HBz⟩
      case measure=>(simp[intOf];try omega)
    ·obtain rfl:q=n:=by omega
     have HNq:=Lib.hid (HNe.out HF.out)
     go_wp2_with fail
     go_roundw
     case rel=>exact⟨k+1,by go_num,by omega,(by show DoneRow _ _ _ _;rw[HOk1.out,HNq.out];exact HDz.out),(by show World.ownsRow _ _ _ _ _ _ _;rw[HOk1.out,HNq.out];exact HOz.out),HBxz⟩
     case measure=>(simp[intOf];try omega)
  ·obtain rfl:k=n:=by omega
   have hO:=HOw.out
   rw[← HOD.out] at hO hlk
   have HOb:=Lib.hid (HOw.out.lt)
   obtain⟨a,cap,rfl,hI⟩:=ints_of_own (l:=natI OD) (by rw[natI_len];exact hO) (by rw[natI_len];omega)
   have HI:=Lib.hid hI
   clear hI hO
   rw[natI_len]
   go_wp2_with fail
   go_ret
   exact⟨⟨a,cap,rfl,HI.out,fun p hp=>by subst hp;have:=(HOb.out _ rfl).1;omega⟩,HBw.out⟩
theorem rorder_any (d:DesD) (x:DesA) (w:World) (hE:DesIn w d x) (hs:DesSmall d) :
  Calls Tryz.prog 105 #[desVal d x] w fun e w'=>(∃ a cap,e=.returned (.slice a d.order.length cap)∧IntsIn w' (natI d.order) a cap)∧Below w.heap.size w w' :=
 (rorder_fresh d x w hE hs).mono fun e w' h=>⟨h.1.imp fun _ h=>h.imp fun _ h=>⟨h.1,h.2.1⟩,h.2⟩
end Go.Proofs.YtebneadheaefdaaGreatDoor
namespace Go.Proofs.YtebneadheaefdaaGreatDoor
open Go.RowKit
attribute [local go_sem ↓] Go.wp_at_zero Go.wp_at_succ
def errC (e0 e1 e2 e3:Int) (short:Bool):Int:=if e0≠0 then e0 else if e1≠0 then e1 else if e2≠0 then e2 else if e3≠0 then e3 else if short then 10 else 0
theorem err_ref (d:DesD):d.err=errC d.nmErr d.numErr d.expErr d.outE (decide (d.order.length < d.wires.length)):=by
 rw[err_eq,sigErr_two]
 unfold errC firstErr
 by_cases h0:d.nmErr=0
 ·simp[h0,firstErr]
  congr 1
  congr 1
  congr 1
  split<;>simp_all
 ·simp[h0]
set_option maxRecDepth 100000 in
set_option maxHeartbeats 8000000 in
theorem rValidD_any (d:DesD) (x:DesA) (w:World) (hE:DesIn w d x) (hs:DesSmall d) :
  Calls Tryz.prog 53 #[desVal d x] w fun e w'=>e=.returned (.int .i64 d.err)∧Below w.heap.size w w':=by
 have H0:=Lib.hid (fun W (hW:Below w.heap.size w W)=>named_any d x W (hE.below hW) hs)
 have H1:=Lib.hid (fun W (hW:Below w.heap.size w W)=>numbered_any d x W (hE.below hW) hs)
 have H2:=Lib.hid (fun W (hW:Below w.heap.size w W)=>written_any d x W (hE.below hW) hs)
 have H3:=Lib.hid (fun W (hW:Below w.heap.size w W)=>shown_any d x W (hE.below hW) hs)
 have H4:=Lib.hid (fun W (hW:Below w.heap.size w W)=>rorder_any d x W (hE.below hW) hs)
 have HE:=Lib.hid (err_ref d)
 generalize d.err=err at HE⊢
 generalize d.nmErr=e0 at HE H0
 generalize d.numErr=e1 at HE H1
 generalize d.expErr=e2 at HE H2
 generalize d.outE=e3 at HE H3
 generalize d.order=OD at HE H4
 clear hE hs
 obtain⟨nm,ins,wires,regs,outs⟩:=d
 obtain⟨ai,ci,aw,cw,ar,cr,ao,co⟩:=x
 simp only[desVal,desVals] at HE H0 H1 H2 H3 H4⊢
 have H4b:=Lib.hid (fun W (hW:Below (w.heap.size+1) (w.alloc (.cells #[.string nm,.slice ai ins.length ci,.slice aw wires.length cw,.slice ar regs.length cr,.slice ao outs.length co] 27)) W)=>(H4.out W (boxW _ hW)).mono (R':=fun e w'=>(∃ a cap,e=.returned (.slice a OD.length cap)∧IntsIn w' (natI OD) a cap)∧Below (w.heap.size+1) (w.alloc (.cells #[.string nm,.slice ai ins.length ci,.slice aw wires.length cw,.slice ar regs.length cr,.slice ao outs.length co] 27)) w') (fun e w' h=>⟨h.1,hW.trans (h.2.mono (by have:=hW.size;simp at this;omega))⟩))
 have HALL:Hid (∀ w',Below (w.heap.size+1) (w.alloc (.cells #[.string nm,.slice ai ins.length ci,.slice aw wires.length cw,.slice ar regs.length cr,.slice ao outs.length co] 27)) w'→w'.cell? ⟨w.heap.size,0,none⟩=some (.string nm)∧w'.cell? ⟨w.heap.size,1,none⟩=some (.slice ai ins.length ci)∧w'.cell? ⟨w.heap.size,2,none⟩=some (.slice aw wires.length cw)∧w'.cell? ⟨w.heap.size,3,none⟩=some (.slice ar regs.length cr)∧w'.cell? ⟨w.heap.size,4,none⟩=some (.slice ao outs.length co)):=fun w' h=>by
  have b0:=box_cell h 0
  have b1:=box_cell h 1
  have b2:=box_cell h 2
  have b3:=box_cell h 3
  have b4:=box_cell h 4
  simp at b0 b1 b2 b3 b4
  exact⟨b0,b1,b2,b3,b4⟩
 have HB0:Hid (Below (w.heap.size+1) (w.alloc (.cells #[.string nm,.slice ai ins.length ci,.slice aw wires.length cw,.slice ar regs.length cr,.slice ao outs.length co] 27)) (w.alloc (.cells #[.string nm,.slice ai ins.length ci,.slice aw wires.length cw,.slice ar regs.length cr,.slice ao outs.length co] 27))):=Below.refl _ _
 have HC0:=Lib.hid (H0.out (w.alloc (.cells #[.string nm,.slice ai ins.length ci,.slice aw wires.length cw,.slice ar regs.length cr,.slice ao outs.length co] 27)) (boxW _ HB0.out))
 clear H0 H4
 go_enter Tryz.func53, Tryz.ntmps53
 go_wp2_with fail
 refine HC0.out.mono ?_
 rintro e w1 ⟨rfl,hb1⟩
 have HB1:=Lib.hid (HB0.out.trans (hb1.mono (by simp)))
 have HBw1:=Lib.hid (boxW _ HB1.out)
 clear hb1 HC0
 by_cases h0:e0=0
 rotate_left
 ·have hne:(e0 != (0:Int))=true:=by simpa using h0
  have HR:Hid (err=e0):=by show _=_;rw[HE.out];unfold errC;rw[if_pos h0]
  clear h0
  go_wp2_with fail
  go_ret
  exact⟨by rw[HR.out];rfl,HBw1.out⟩
 subst h0
 have HC1:=Lib.hid (H1.out w1 HBw1.out)
 obtain⟨b0,b1,b2,b3,b4⟩:=HALL.out _ HB1.out
 go_wp2_with fail
 refine HC1.out.mono ?_
 rintro e w2 ⟨rfl,hb2⟩
 have HB2:=Lib.hid (HB1.out.trans (hb2.mono (by have:=HB1.out.size;simp at this;omega)))
 have HBw2:=Lib.hid (boxW _ HB2.out)
 clear hb2 HC1 H1 b0 b1 b2 b3 b4
 by_cases h1:e1=0
 rotate_left
 ·have hne:(e1 != (0:Int))=true:=by simpa using h1
  have HR:Hid (err=e1):=by show _=_;rw[HE.out];unfold errC;simp[h1]
  clear h1
  go_wp2_with fail
  go_ret
  exact⟨by rw[HR.out];rfl,HBw2.out⟩
 subst h1
 have HC2:=Lib.hid (H2.out w2 HBw2.out)
 obtain⟨b0,b1,b2,b3,b4⟩:=HALL.out _ HB2.out
 go_wp2_with fail
 refine HC2.out.mono ?_
 rintro e w3 ⟨rfl,hb3⟩
 have HB3:=Lib.hid (HB2.out.trans (hb3.mono (by have:=HB2.out.size;simp at this;omega)))
 have HBw3:=Lib.hid (boxW _ HB3.out)
 clear hb3 HC2 H2 b0 b1 b2 b3 b4
 by_cases h2:e2=0
 rotate_left
 ·have hne:(e2 != (0:Int))=true:=by simpa using h2
  have HR:Hid (err=e2):=by show _=_;rw[HE.out];unfold errC;simp[h2]
  clear h2
  go_wp2_with fail
  go_ret
  exact⟨by rw[HR.out];rfl,HBw3.out⟩
 subst h2
 have HC3:=Lib.hid (H3.out w3 HBw3.out)
 obtain⟨b0,b1,b2,b3,b4⟩:=HALL.out _ HB3.out
 go_wp2_with fail
 refine HC3.out.mono ?_
 rintro e w4 ⟨rfl,hb4⟩
 have HB4:=Lib.hid (HB3.out.trans (hb4.mono (by have:=HB3.out.size;simp at this;omega)))
 have HBw4:=Lib.hid (boxW _ HB4.out)
 clear hb4 HC3 H3 b0 b1 b2 b3 b4
 by_cases h3:e3=0
 rotate_left
 ·have hne:(e3 != (0:Int))=true:=by simpa using h3
  have HR:Hid (err=e3):=by show _=_;rw[HE.out];unfold errC;simp[h3]
  clear h3
  go_wp2_with fail
  go_ret
  exact⟨by rw[HR.out];rfl,HBw4.out⟩
 subst h3
 obtain⟨b0,b1,b2,b3,b4⟩:=HALL.out _ HB4.out
 have hB4:=HB4.out
 by_cases hs:OD.length < wires.length
 ·have hd:decide (OD.length < wires.length)=true:=decide_eq_true hs
  have HR:Hid (err=10):=by show _=_;rw[HE.out,hd];rfl
  clear hs
  go_wp2_with fail
  go_region_held3 (fun w'=>Below (w.heap.size+1) (w.alloc (.cells #[.string nm,.slice ai ins.length ci,.slice aw wires.length cw,.slice ar regs.length cr,.slice ao outs.length co] 27)) w'∧w'.cell? ⟨w.heap.size,0,none⟩=some (.string nm)∧w'.cell? ⟨w.heap.size,1,none⟩=some (.slice ai ins.length ci)∧w'.cell? ⟨w.heap.size,2,none⟩=some (.slice aw wires.length cw)∧w'.cell? ⟨w.heap.size,3,none⟩=some (.slice ar regs.length cr)∧w'.cell? ⟨w.heap.size,4,none⟩=some (.slice ao outs.length co)) ((refine(fun h=>⟨h,HALL.out _ h⟩) ?_;first | assumption | exact bel)) ((go_at_call 105;(with_reducible refine(H4b.out _ (by first | assumption | exact And.left (by assumption))).mono ?_);rintro e w5 ⟨⟨a1,c1,rfl,_⟩,hb5⟩))
  have HB5:=Lib.hid (by assumption:Below (w.heap.size+1) (w.alloc (.cells #[.string nm,.slice ai ins.length ci,.slice aw wires.length cw,.slice ar regs.length cr,.slice ao outs.length co] 27)) w5)
  go_wp2_with fail
  go_ret
  exact⟨by rw[HR.out];rfl,boxW _ HB5.out⟩
 ·have hd:decide (OD.length < wires.length)=false:=decide_eq_false hs
  have HR:Hid (err=0):=by show _=_;rw[HE.out,hd];rfl
  clear hs
  go_wp2_with fail
  go_region_held3 (fun w'=>Below (w.heap.size+1) (w.alloc (.cells #[.string nm,.slice ai ins.length ci,.slice aw wires.length cw,.slice ar regs.length cr,.slice ao outs.length co] 27)) w'∧w'.cell? ⟨w.heap.size,0,none⟩=some (.string nm)∧w'.cell? ⟨w.heap.size,1,none⟩=some (.slice ai ins.length ci)∧w'.cell? ⟨w.heap.size,2,none⟩=some (.slice aw wires.length cw)∧w'.cell? ⟨w.heap.size,3,none⟩=some (.slice ar regs.length cr)∧w'.cell? ⟨w.heap.size,4,none⟩=some (.slice ao outs.length co)) ((refine(fun h=>⟨h,HALL.out _ h⟩) ?_;first | assumption | exact bel)) ((go_at_call 105;(with_reducible refine(H4b.out _ (by first | assumption | exact And.left (by assumption))).mono ?_);rintro e w5 ⟨⟨a1,c1,rfl,_⟩,hb5⟩))
  have HB5:=Lib.hid (by assumption:Below (w.heap.size+1) (w.alloc (.cells #[.string nm,.slice ai ins.length ci,.slice aw wires.length cw,.slice ar regs.length cr,.slice ao outs.length co] 27)) w5)
  go_wp2_with fail
  go_ret
  exact⟨by rw[HR.out];rfl,boxW _ HB5.out⟩
end Go.Proofs.YtebneadheaefdaaGreatDoor
namespace Go.Proofs.YtebneadheaefdaaGreatDoor
open Go.RowKit
attribute [local go_sem ↓] Go.wp_at_zero Go.wp_at_succ
theorem exq_eq {op n:Int} {s:ByteArray} {args:List Ex} {op' n':Int} {s':ByteArray} {args':List Ex}:(Ex.mk op n s args=Ex.mk op' n' s' args')↔op=op'∧n=n'∧s=s'∧args=args':=by
 constructor
 ·intro h;injection h with h1 h2 h3 h4;exact⟨h1,h2,h3,h4⟩
 ·rintro ⟨rfl,rfl,rfl,rfl⟩;rfl
theorem tl_ne {s s':ByteArray} (h:¬ s=s'):(s.toList != s'.toList)=true:=by
 cases he:(s.toList == s'.toList)
 ·simp[bne,he]
 ·have h1:s.toList=s'.toList:=by simpa using he
  rw[ByteArray.toList_eq,ByteArray.toList_eq] at h1
  exact absurd (ByteArray.ext (Array.toList_inj.1 h1)) h
set_option maxRecDepth 100000 in
set_option maxHeartbeats 8000000 in
theorem same08_any (x:Ex):∀ (y:Ex) (ax:Option Addr) (cx:Nat) (ay:Option Addr) (cy:Nat) (w:World),ExIn w x ax cx→ExIn w y ay cy →
  Calls Tryz.prog 62 #[exVal x ax cx,exVal y ay cy] w fun e w'=>e=.returned (.bool (pB (x=y)))∧Below w.heap.size w w':=by
 induction x using Ex.ind with
 | h x ih =>
  intro y ax cx ay cy w hX hY
  obtain⟨op,n,s,args⟩:=x
  obtain⟨op',n',s',args'⟩:=y
  have HX:=Lib.hid hX.2
  have HY:=Lib.hid hY.2
  have HAX:=Lib.hid hX.2.addr
  have HAY:=Lib.hid hY.2.addr
  have hlx:=hX.2.2.1
  have hly:=hY.2.2.1
  simp only[Ex.args_mk] at HX HY HAX HAY hlx hly ih
  have HIH:=Lib.hid ih
  clear hX hY ih
  simp only[exVal,Ex.op_mk,Ex.n_mk,Ex.name_mk,Ex.args_mk]
  by_cases h1:op=op'∧n=n'∧s=s'∧args.length=args'.length
  ·obtain⟨rfl,rfl,rfl,hl⟩:=h1
   have Hl:=Lib.hid hl
   have hd1:(op != op)=false:=by simp
   have hd2:(n != n)=false:=by simp
   have hd3:(s.toList != s.toList)=false:=by simp
   have hd4:((args.length:Int) != (args'.length:Int))=false:=by simp;omega
   clear hl
   go_enter Tryz.func62, Tryz.ntmps62
   go_wp2_with fail
   generalize hW2:(w.alloc (.cells #[.int .i64 op,.int .i64 n,.string s,.slice ax args.length cx] 72)).alloc (.cells #[.int .i64 op,.int .i64 n,.string s,.slice ay args'.length cy] 72)=W2
   have hz2:W2.heap.size=w.heap.size+2:=by rw[← hW2];simp
   have HB2:Hid (Below w.heap.size w W2):=by show Below _ _ _;rw[← hW2];exact bel
   have HK1:Hid (W2.heap[w.heap.size]? = some (.cells #[.int .i64 op,.int .i64 n,.string s,.slice ax args.length cx] 72 (0,0))):=by
    show _=_;rw[← hW2]
    exact(Below.heap_alloc _ _ _ (by simp)).trans (heap_alloc_new' w _)
   have HK2:Hid (W2.heap[w.heap.size+1]? = some (.cells #[.int .i64 op,.int .i64 n,.string s,.slice ay args'.length cy] 72 (0,0))):=by
    show _=_;rw[← hW2]
    have h:=heap_alloc_new' (w.alloc (.cells #[.int .i64 op,.int .i64 n,.string s,.slice ax args.length cx] 72)) (.cells #[.int .i64 op,.int .i64 n,.string s,.slice ay args'.length cy] 72)
    simp only[World.size_alloc] at h
    exact h
   clear hW2
   go_loopw [5] (fun i wr=>∃ k:Nat,i=.int .i64 k∧k≤args.length∧Hid (∀ j (hj:j < args.length),j < k→args[j]'hj=args'[j]'(by have:=Hl.out;omega))∧Below (w.heap.size+2) W2 wr) (fun i _=>args.length - (intOf i).toNat)
   case atStart=>exact⟨0,rfl,Nat.zero_le _,fun _ _ h=>absurd h (by omega),Below.refl _ _⟩
   case round =>
    obtain⟨k,rfl,hk,HAl,hB⟩:=hrel
    have hzr:=hB.size
    have HBw:Hid (Below w.heap.size w wr):=HB2.out.trans (hB.mono (by omega))
    have hk1:=(hB.block w.heap.size (by omega)).trans HK1.out
    have hk2:=(hB.block (w.heap.size+1) (by omega)).trans HK2.out
    have x3:wr.cell? ⟨w.heap.size,3,none⟩=some (.slice ax args.length cx):=by simp[World.cell?,hk1]
    have y3:wr.cell? ⟨w.heap.size+1,3,none⟩=some (.slice ay args'.length cy):=by simp[World.cell?,hk2]
    have HB:=Lib.hid hB
    clear hk1 hk2 hB
    by_cases hlt:k < args.length
    ·have hltb:k < args'.length:=by have:=Hl.out;omega
     obtain⟨ba,oa,ha⟩:=HAX.out.resolve_left (by omega)
     obtain⟨bb,ob,hb⟩:=HAY.out.resolve_left (by omega)
     subst ha
     subst hb
     obtain⟨a1,k1,g0,g1,g2,g3,hP⟩:=HX.out.get rfl hlt
     obtain⟨a2,k2,q0,q1,q2,q3,hQ⟩:=HY.out.get rfl hltb
     have kk:=keeps_of_below HBw.out
     have c0:∀ g:Grow wr.heap.size wr,g.w'.cell? _=_:=Grow.old (kk _ _ g0) (Nat.le_refl _)
     have c1:∀ g:Grow wr.heap.size wr,g.w'.cell? _=_:=Grow.old (kk _ _ g1) (Nat.le_refl _)
     have c2:∀ g:Grow wr.heap.size wr,g.w'.cell? _=_:=Grow.old (kk _ _ g2) (Nat.le_refl _)
     have c3:∀ g:Grow wr.heap.size wr,g.w'.cell? _=_:=Grow.old (kk _ _ g3) (Nat.le_refl _)
     have d0:∀ g:Grow wr.heap.size wr,g.w'.cell? _=_:=Grow.old (kk _ _ q0) (Nat.le_refl _)
     have d1:∀ g:Grow wr.heap.size wr,g.w'.cell? _=_:=Grow.old (kk _ _ q1) (Nat.le_refl _)
     have d2:∀ g:Grow wr.heap.size wr,g.w'.cell? _=_:=Grow.old (kk _ _ q2) (Nat.le_refl _)
     have d3:∀ g:Grow wr.heap.size wr,g.w'.cell? _=_:=Grow.old (kk _ _ q3) (Nat.le_refl _)
     have X3:∀ g:Grow wr.heap.size wr,g.w'.cell? _=_:=Grow.old x3 (Nat.le_refl _)
     have Y3:∀ g:Grow wr.heap.size wr,g.w'.cell? _=_:=Grow.old y3 (Nat.le_refl _)
     have HC:=Lib.hid (fun W (hW:Below wr.heap.size wr W)=>(HIH.out _ (List.getElem_mem hlt) _ a1 k1 a2 k2 W ((hP.keep kk).keep (keeps_of_below hW)) ((hQ.keep kk).keep (keeps_of_below hW))).mono fun e w' h=>(⟨h.1,hW.trans (h.2.mono hW.size)⟩:_∧Below wr.heap.size wr w'))
     simp only[exVal] at HC
     have HNx:Hid (args[k]'hlt=args'[k]'hltb→∀ j (hj:j < args.length),j < k+1→args[j]'hj=args'[j]'(by have:=Hl.out;omega)):=fun he j hj hjk=>by
      by_cases e:j=k
      ·subst e;exact he
      ·exact HAl.out j hj (by omega)
     have HNo:Hid (¬ (args[k]'hlt=args'[k]'hltb)→pB (Ex.mk op n s args=Ex.mk op n s args')=false):=fun he=>pB_false (fun h=>he (by have h2:=(exq_eq.1 h).2.2.2;subst h2;rfl))
     generalize args[k]'hlt=u at c0 c1 c2 c3 HC HNx HNo
     generalize args'[k]'hltb=v at d0 d1 d2 d3 HC HNx HNo
     clear g0 g1 g2 g3 q0 q1 q2 q3 kk hP hQ
     by_cases he:u=v
     ·have HNx':=Lib.hid (HNx.out he)
      rw[pB_true he] at HC
      clear he HNx HNo
      go_wp2_with fail
      (refine wp_region_grow (B:=wr.heap.size) (w0:=wr) (by kernel_rfl) (by kernel_rfl) bel ?_;(repeat (go_big_quiet_step ((go_at_call 62;with_reducible exact grow_call (HC.out _ (Grow.h _))))));refine wpQuiet_nil ?_;intro wg hCg;have hbg:=grow_out hCg;clear hCg)
      go_wp2_with fail
      go_roundw
      case rel=>exact⟨k+1,by go_num,by omega,HNx'.out,HB.out.trans ((by assumption:Below wr.heap.size wr _).mono (by omega))⟩
      case measure=>simp[intOf];omega
     ·have HNo':=Lib.hid (HNo.out he)
      rw[pB_false he] at HC
      clear he HNx HNo
      go_wp2_with fail
      (refine wp_region_grow (B:=wr.heap.size) (w0:=wr) (by kernel_rfl) (by kernel_rfl) bel ?_;(repeat (go_big_quiet_step ((go_at_call 62;with_reducible exact grow_call (HC.out _ (Grow.h _))))));refine wpQuiet_nil ?_;intro wg hCg;have hbg:=grow_out hCg;clear hCg)
      go_wp2_with fail
      go_ret
      exact⟨by rw[HNo'.out];rfl,HBw.out.trans ((by assumption:Below wr.heap.size wr _).mono HBw.out.size)⟩
    ·obtain rfl:k=args.length:=by omega
     have HYes:Hid (pB (Ex.mk op n s args=Ex.mk op n s args')=true):=pB_true (exq_eq.2 ⟨rfl,rfl,rfl,List.ext_getElem Hl.out (fun j hj _=>HAl.out j hj hj)⟩)
     go_wp2_with fail
     go_ret
     exact⟨by rw[HYes.out];rfl,HBw.out⟩
  ·have HNo:Hid (pB (Ex.mk op n s args=Ex.mk op' n' s' args')=false):=pB_false (fun h=>h1 (by have h2:=exq_eq.1 h;exact⟨h2.1,h2.2.1,h2.2.2.1,by rw[h2.2.2.2]⟩))
   have hcase:(op != op')=true∨(op != op')=false∧((n != n')=true∨(n != n')=false∧((¬ s.toList=s'.toList)∨s=s'∧((args.length:Int) != (args'.length:Int))=true)):=by
    by_cases e1:op=op'
    ·by_cases e2:n=n'
     ·by_cases e3:s=s'
      ·refine Or.inr ⟨by simp[e1],Or.inr ⟨by simp[e2],Or.inr ⟨e3,?_⟩⟩⟩
       have:args.length≠args'.length:=fun e4=>h1 ⟨e1,e2,e3,e4⟩
       simp;omega
      ·refine Or.inr ⟨by simp[e1],Or.inr ⟨by simp[e2],Or.inl ?_⟩⟩
       exact fun h=>by have:=tl_ne e3;rw[h] at this;simp at this
     ·exact Or.inr ⟨by simp[e1],Or.inl (by simpa using e2)⟩
    ·exact Or.inl (by simpa using e1)
   clear h1
   rcases hcase with hd | ⟨hd,hd2 | ⟨hd2,hd3 | ⟨rfl,hd4⟩⟩⟩
   all_goals
    go_enter Tryz.func62, Tryz.ntmps62
    go_wp2_with fail
    go_ret
    exact⟨by rw[HNo.out];rfl,bel⟩
end Go.Proofs.YtebneadheaefdaaGreatDoor
namespace Go.Proofs.YtebneadheaefdaaGreatDoor
open Go.RowKit
attribute [local go_sem ↓] Go.wp_at_zero Go.wp_at_succ
theorem des_eq {nm nm2:ByteArray} {ins ins2:List PortD} {wires wires2:List WireD} {regs regs2:List RegD} {outs outs2:List ByteArray} :
  ((⟨nm,ins,wires,regs,outs⟩:DesD)=⟨nm2,ins2,wires2,regs2,outs2⟩)↔nm=nm2∧ins=ins2∧wires=wires2∧regs=regs2∧outs=outs2:=by
 constructor
 ·intro h;injection h with h1 h2 h3 h4 h5;exact⟨h1,h2,h3,h4,h5⟩
 ·rintro ⟨rfl,rfl,rfl,rfl,rfl⟩;rfl
theorem list_next {α:Type} {l l2:List α} (hl:l.length=l2.length) {k:Nat} (hk:k < l.length) (hk2:k < l2.length) (h:∀ j (hj:j < l.length) (hj2:j < l2.length),j < k→l[j]'hj=l2[j]'hj2) (he:l[k]'hk=l2[k]'hk2):∀ j (hj:j < l.length) (hj2:j < l2.length),j < k+1→l[j]'hj=l2[j]'hj2:=by
 intro j hj hj2 h1
 by_cases e:j=k
 ·subst e;exact he
 ·exact h j hj hj2 (by omega)
theorem list_ne {α:Type} {l l2:List α} {k:Nat} (hk:k < l.length) (hk2:k < l2.length) (h:¬ l[k]'hk=l2[k]'hk2):¬ l=l2:=by rintro rfl;exact h rfl
theorem bel_drewN {B:Nat} {w0 w:World} (h:Below B w0 w) (n:Nat):Below B w0 (w.drewN n):=⟨h.os,h.tape,h.output,h.size,h.block⟩
theorem cell_al {w:World} {a:Addr} {v:Value} (h:w.cell? a=some v) (o:Obj):(w.alloc o).cell? a=some v:=keeps_of_below ((Below.refl _ _).alloc (Nat.le_refl _) o) _ _ h
theorem five_cells {p:Nat} {W2 wr:World} {t:TypeId} {a0 a1 a2 a3 a4 c0 c1 c2 c3 c4:Value} (h:Below (p+2) W2 wr) (h1:W2.heap[p]? = some (.cells #[a0,a1,a2,a3,a4] t (0,0))) (h2:W2.heap[p+1]? = some (.cells #[c0,c1,c2,c3,c4] t (0,0))) :
  (wr.cell? ⟨p,1,none⟩=some a1∧wr.cell? ⟨p,2,none⟩=some a2∧wr.cell? ⟨p,3,none⟩=some a3∧wr.cell? ⟨p,4,none⟩=some a4)∧wr.cell? ⟨p+1,1,none⟩=some c1∧wr.cell? ⟨p+1,2,none⟩=some c2∧wr.cell? ⟨p+1,3,none⟩=some c3∧wr.cell? ⟨p+1,4,none⟩=some c4:=by
 have e1:=(h.block p (by omega)).trans h1
 have e2:=(h.block (p+1) (by omega)).trans h2
 refine⟨⟨?_,?_,?_,?_⟩,?_,?_,?_,?_⟩<;>simp[World.cell?,e1,e2]
set_option maxRecDepth 100000 in
set_option maxHeartbeats 16000000 in
theorem same31_any (a b:DesD) (x y:DesA) (w:World) (hA:DesIn w a x) (hB:DesIn w b y) :
  Calls Tryz.prog 33 #[desVal a x,desVal b y] w (BoolIs (pB (a=b)) w):=by
 obtain⟨nm,ins,wires,regs,outs⟩:=a
 obtain⟨nm2,ins2,wires2,regs2,outs2⟩:=b
 have HI:=Lib.hid hA.ins
 have HW:=Lib.hid hA.wires
 have HR:=Lib.hid hA.regs
 have HO:=Lib.hid hA.outs
 have HI2:=Lib.hid hB.ins
 have HW2:=Lib.hid hB.wires
 have HR2:=Lib.hid hB.regs
 have HO2:=Lib.hid hB.outs
 have HIA:=Lib.hid (SliceIn.addr hA.ins)
 have HWA:=Lib.hid (SliceIn.addr hA.wires)
 have HRA:=Lib.hid (SliceIn.addr hA.regs)
 have HOA:=Lib.hid (SliceIn.addr hA.outs)
 have HIB:=Lib.hid (SliceIn.addr hB.ins)
 have HWB:=Lib.hid (SliceIn.addr hB.wires)
 have HRB:=Lib.hid (SliceIn.addr hB.regs)
 have HOB:=Lib.hid (SliceIn.addr hB.outs)
 have li:=hA.ins.2.1
 have lw:=hA.wires.2.1
 have lr:=hA.regs.2.1
 have lo:=hA.outs.2.1
 have HS8:=Lib.hid (fun u v ax cx ay cy W h1 h2=>same08_any u v ax cx ay cy W h1 h2)
 have HY:Hid (∀ w',nm=nm2→ins=ins2→wires=wires2→regs=regs2→outs=outs2→Below w.heap.size w w'→BoolIs (pB ((⟨nm,ins,wires,regs,outs⟩:DesD)=⟨nm2,ins2,wires2,regs2,outs2⟩)) w (.returned (.bool true)) w'):=fun w' h1 h2 h3 h4 h5 h=>⟨by rw[pB_true (des_eq.2 ⟨h1,h2,h3,h4,h5⟩)],h⟩
 have HN:Hid (∀ w',¬ (nm=nm2∧ins=ins2∧wires=wires2∧regs=regs2∧outs=outs2)→Below w.heap.size w w'→BoolIs (pB ((⟨nm,ins,wires,regs,outs⟩:DesD)=⟨nm2,ins2,wires2,regs2,outs2⟩)) w (.returned (.bool false)) w'):=fun w' h1 h=>⟨by rw[pB_false (fun e=>h1 (des_eq.1 e))],h⟩
 generalize BoolIs (pB ((⟨nm,ins,wires,regs,outs⟩:DesD)=⟨nm2,ins2,wires2,regs2,outs2⟩)) w=Po at HY HN⊢
 clear hA hB
 obtain⟨ai,ci,aw,cw,ar,cr,ao,co⟩:=x
 obtain⟨bi,di,bw,dw,br,dr,bo,dO⟩:=y
 simp only[desVal,desVals] at *
 by_cases h1:nm=nm2∧ins.length=ins2.length∧wires.length=wires2.length∧regs.length=regs2.length∧outs.length=outs2.length
 ·obtain⟨rfl,l1,l2,l3,l4⟩:=h1
  have L1:=Lib.hid l1
  have L2:=Lib.hid l2
  have L3:=Lib.hid l3
  have L4:=Lib.hid l4
  have hd1:(nm.toList != nm.toList)=false:=by simp
  have hd2:((ins.length:Int) != (ins2.length:Int))=false:=by simp;omega
  have hd3:((wires.length:Int) != (wires2.length:Int))=false:=by simp;omega
  have hd4:((regs.length:Int) != (regs2.length:Int))=false:=by simp;omega
  have hd5:((outs.length:Int) != (outs2.length:Int))=false:=by simp;omega
  clear l1 l2 l3 l4
  go_enter Tryz.func33, Tryz.ntmps33
  go_wp2_with fail
  clear hd1 hd2 hd3 hd4 hd5
  generalize hW2:(w.alloc (.cells #[.string nm,.slice ai ins.length ci,.slice aw wires.length cw,.slice ar regs.length cr,.slice ao outs.length co] 27)).alloc (.cells #[.string nm,.slice bi ins2.length di,.slice bw wires2.length dw,.slice br regs2.length dr,.slice bo outs2.length dO] 27)=V2
  have hz2:V2.heap.size=w.heap.size+2:=by rw[← hW2];simp
  have HB2:Hid (Below w.heap.size w V2):=by show Below _ _ _;rw[← hW2];exact bel
  have HV1:Hid (V2.heap[w.heap.size]? = some (.cells #[.string nm,.slice ai ins.length ci,.slice aw wires.length cw,.slice ar regs.length cr,.slice ao outs.length co] 27 (0,0))):=by
   show _=_
   rw[← hW2]
   exact(Below.heap_alloc _ _ _ (by simp)).trans (heap_alloc_new' w _)
  have HV2:Hid (V2.heap[w.heap.size+1]? = some (.cells #[.string nm,.slice bi ins2.length di,.slice bw wires2.length dw,.slice br regs2.length dr,.slice bo outs2.length dO] 27 (0,0))):=by
   show _=_
   rw[← hW2]
   have h:=heap_alloc_new' (w.alloc (.cells #[.string nm,.slice ai ins.length ci,.slice aw wires.length cw,.slice ar regs.length cr,.slice ao outs.length co] 27)) (.cells #[.string nm,.slice bi ins2.length di,.slice bw wires2.length dw,.slice br regs2.length dr,.slice bo outs2.length dO] 27)
   simp only[World.size_alloc] at h
   exact h
  have HK:Hid (∀ wr,Below (w.heap.size+2) V2 wr→((wr.cell? ⟨w.heap.size,1,none⟩=some (.slice ai ins.length ci)∧wr.cell? ⟨w.heap.size,2,none⟩=some (.slice aw wires.length cw)∧wr.cell? ⟨w.heap.size,3,none⟩=some (.slice ar regs.length cr)∧wr.cell? ⟨w.heap.size,4,none⟩=some (.slice ao outs.length co))∧wr.cell? ⟨w.heap.size+1,1,none⟩=some (.slice bi ins2.length di)∧wr.cell? ⟨w.heap.size+1,2,none⟩=some (.slice bw wires2.length dw)∧wr.cell? ⟨w.heap.size+1,3,none⟩=some (.slice br regs2.length dr)∧wr.cell? ⟨w.heap.size+1,4,none⟩=some (.slice bo outs2.length dO))∧Below w.heap.size w wr∧w.heap.size+2≤wr.heap.size):=fun wr h=>by
   exact⟨five_cells h HV1.out HV2.out,HB2.out.trans (h.mono (by omega)),by have:=h.size;omega⟩
  clear hW2
  have HB:Hid (Below (w.heap.size+2) V2 V2):=Below.refl _ _
  go_loopw [5] (fun i wr=>∃ k:Nat,i=.int .i64 k∧k≤ins.length∧Hid (∀ j (hj:j < ins.length) (hj2:j < ins2.length),j < k→ins[j]'hj=ins2[j]'hj2)∧Hid (Below (w.heap.size+2) V2 wr)) (fun i _=>ins.length - (intOf i).toNat)
  case atStart=>exact⟨0,rfl,Nat.zero_le _,fun _ _ _ h=>absurd h (Nat.not_lt_zero _),HB⟩
  case round =>
   clear HB
   obtain⟨k,rfl,hk,HAl,HB⟩:=hrel
   obtain⟨⟨⟨x1,x2,x3,x4⟩,y1,y2,y3,y4⟩,hbw,hzr⟩:=HK.out wr HB.out
   by_cases hlt:k < ins.length
   ·have hltb:k < ins2.length:=by have:=L1.out;omega
    obtain⟨p1,o1,ha1⟩:=HIA.out.resolve_left (by omega)
    obtain⟨p2,o2,ha2⟩:=HIB.out.resolve_left (by omega)
    subst ha1 ha2
    have HNx:=Lib.hid (fun he=>list_next L1.out hlt hltb HAl.out he)
    have HNo:Hid (¬ (ins[k]'hlt=ins2[k]'hltb)→∀ w',Below w.heap.size w w'→Po (.returned (.bool false)) w'):=fun he w' h=>HN.out w' (fun e=>list_ne hlt hltb he e.2.1) h
    clear HAl
    obtain⟨c0,c1⟩:=(HI.out.keep (keeps_of_below hbw)).get rfl hlt
    obtain⟨d0,d1⟩:=(HI2.out.keep (keeps_of_below hbw)).get rfl hltb
    generalize (ins[k]'hlt)=u at c0 c1 HNx HNo
    generalize (ins2[k]'hltb)=v at d0 d1 HNx HNo
    obtain⟨un,uw⟩:=u
    obtain⟨vn,vw⟩:=v
    simp only[PortD.mk.injEq] at c0 c1 d0 d1 HNx HNo
    by_cases he:un=vn∧uw=vw
    ·have HNx1:=Lib.hid (HNx.out he)
     obtain⟨rfl,rfl⟩:=he
     have q1:(un.toList != un.toList)=false:=by simp
     have q2:(un.toList == un.toList)=true:=by simp
     clear HNx HNo
     go_wp2_with fail
     go_quiet (fail)
     go_wp2_with fail
     go_roundw
     case rel=>exact⟨k+1,by go_num,by omega,HNx1,Lib.hid (bel_drewN HB.out _)⟩
     case measure=>(simp[intOf];try omega)
    ·have HPf:=Lib.hid (HNo.out he)
     clear HNx HNo
     have hq:(un.toList == vn.toList)=false∨un=vn∧(uw == vw)=false:=by
      by_cases e1:un=vn
      ·exact Or.inr ⟨e1,beq_eq_false_iff_ne.2 fun e2=>he ⟨e1,e2⟩⟩
      ·exact Or.inl (by have:=tl_ne e1;simpa [bne] using this)
     clear he
     rcases hq with q | ⟨rfl,q⟩
     all_goals
      go_wp2_with fail
      go_quiet (fail)
      go_wp2_with fail
      first | exact HPf.out _ (bel_drewN hbw _) | (go_ret;exact HPf.out _ (bel_drewN hbw _))
   ·obtain rfl:k=ins.length:=by omega
    have HE1:Hid (ins=ins2):=List.ext_getElem L1.out fun j hj hj2=>HAl.out j hj hj2 hj
    clear HAl
    rename World=>wa1
    go_wp2_with fail
    clear x1 x2 x3 x4 y1 y2 y3 y4 hbw hzr
    go_loopw [6] (fun i wr=>∃ k:Nat,i=.int .i64 k∧k≤wires.length∧Hid (∀ j (hj:j < wires.length) (hj2:j < wires2.length),j < k→wires[j]'hj=wires2[j]'hj2)∧Hid (Below (w.heap.size+2) V2 wr)) (fun i _=>wires.length - (intOf i).toNat)
    case atStart=>exact⟨0,rfl,Nat.zero_le _,fun _ _ _ h=>absurd h (Nat.not_lt_zero _),HB⟩
    case round =>
     clear HB
     obtain⟨k,rfl,hk,HAl,HB⟩:=hrel
     obtain⟨⟨⟨x1,x2,x3,x4⟩,y1,y2,y3,y4⟩,hbw,hzr⟩:=HK.out wr HB.out
     by_cases hlt:k < wires.length
     ·have hltb:k < wires2.length:=by have:=L2.out;omega
      obtain⟨p1,o1,ha1⟩:=HWA.out.resolve_left (by omega)
      obtain⟨p2,o2,ha2⟩:=HWB.out.resolve_left (by omega)
      subst ha1 ha2
      have HNx:=Lib.hid (fun he=>list_next L2.out hlt hltb HAl.out he)
      have HNo:Hid (¬ (wires[k]'hlt=wires2[k]'hltb)→∀ w',Below w.heap.size w w'→Po (.returned (.bool false)) w'):=fun he w' h=>HN.out w' (fun e=>list_ne hlt hltb he e.2.2.1) h
      clear HAl
      obtain⟨ae,ce,c0,c1,c2,c3,c4,c5,hX⟩:=(HW.out.keep (keeps_of_below hbw)).get rfl hlt
      obtain⟨be,de,d0,d1,d2,d3,d4,d5,hY⟩:=(HW2.out.keep (keeps_of_below hbw)).get rfl hltb
      have HC:=Lib.hid (fun W (hW:Below wr.heap.size wr W)=>HS8.out _ _ ae ce be de W (hX.keep (keeps_of_below hW)) (hY.keep (keeps_of_below hW)))
      clear hX hY
      generalize (wires[k]'hlt)=u at c0 c1 c2 c3 c4 c5 HC HNx HNo
      generalize (wires2[k]'hltb)=v at d0 d1 d2 d3 d4 d5 HC HNx HNo
      obtain⟨un,uw,⟨uop,unn,unm,uargs⟩⟩:=u
      obtain⟨vn,vw,⟨vop,vnn,vnm,vargs⟩⟩:=v
      simp only[WireD.mk.injEq,Ex.op_mk,Ex.n_mk,Ex.name_mk,Ex.args_mk,exVal] at c0 c1 c2 c3 c4 c5 d0 d1 d2 d3 d4 d5 HC HNx HNo
      generalize hue:Ex.mk uop unn unm uargs=ue at HC HNx HNo
      generalize hve:Ex.mk vop vnn vnm vargs=ve at HC HNx HNo
      generalize uargs.length=ul at c5 HC
      generalize vargs.length=vl at d5 HC
      clear hue hve
      have a0:=fun o=>cell_al d0 o
      have a1:=fun o=>cell_al d1 o
      have a2:=fun o=>cell_al d2 o
      have a3:=fun o=>cell_al d3 o
      have a4:=fun o=>cell_al d4 o
      have a5:=fun o=>cell_al d5 o
      have z2:=fun o=>cell_al y2 o
      by_cases he:un=vn∧uw=vw∧ue=ve
      ·have HNx1:=Lib.hid (HNx.out he)
       obtain⟨rfl,rfl,hx⟩:=he
       rw[pB_true hx] at HC
       have qn:(un.toList != un.toList)=false:=by simp
       have qw:(uw != uw)=false:=by simp
       clear HNx HNo hx
       go_wp2_with fail
       refine(HC.out _ bel).mono ?_
       rintro e w3 ⟨rfl,hb3⟩
       have hw3:Below wr.heap.size wr w3:=Below.trans bel (hb3.mono (by simp;try omega))
       have HB3:=Lib.hid (HB.out.trans (hw3.mono hzr))
       clear hb3 hw3
       go_wp2_with fail
       go_roundw
       case rel=>exact⟨k+1,by go_num,by omega,HNx1,HB3⟩
       case measure=>(simp[intOf];try omega)
      ·have HPf:=Lib.hid (HNo.out he)
       clear HNx HNo
       have hq:¬ un.toList=vn.toList∨un=vn∧((uw != vw)=true∨uw=vw∧(¬ ue=ve)):=by
        by_cases en:un=vn
        ·refine Or.inr ⟨en,?_⟩
         by_cases ew:uw=vw
         ·refine Or.inr ⟨ew,?_⟩
          exact fun e=>he ⟨en,ew,e⟩
         ·exact Or.inl (by simpa using ew)
        ·exact Or.inl (fun e=>by have:=tl_ne en;rw[e] at this;simp at this)
       clear he
       rcases hq with q | ⟨rfl,q | ⟨rfl,q⟩⟩
       ·clear HC
        go_wp2_with fail
        first | exact HPf.out _ ((hbw.alloc (by omega) _).alloc (by simp;omega) _) | (go_ret;exact HPf.out _ ((hbw.alloc (by omega) _).alloc (by simp;omega) _))
       ·have qn:(un.toList != un.toList)=false:=by simp
        clear HC
        go_wp2_with fail
        first | exact HPf.out _ ((hbw.alloc (by omega) _).alloc (by simp;omega) _) | (go_ret;exact HPf.out _ ((hbw.alloc (by omega) _).alloc (by simp;omega) _))
       ·have qn:(un.toList != un.toList)=false:=by simp
        have qw:(uw != uw)=false:=by simp
        rw[pB_false q] at HC
        clear q
        go_wp2_with fail
        refine(HC.out _ bel).mono ?_
        rintro e w3 ⟨rfl,hb3⟩
        have hw3:Below wr.heap.size wr w3:=Below.trans bel (hb3.mono (by simp;try omega))
        have HPe:=Lib.hid (HPf.out w3 (hbw.trans (hw3.mono (by omega))))
        clear hb3 hw3
        go_wp2_with fail
        first | exact HPe.out | (go_ret;exact HPe.out)
     ·obtain rfl:k=wires.length:=by omega
      have HE2:Hid (wires=wires2):=List.ext_getElem L2.out fun j hj hj2=>HAl.out j hj hj2 hj
      clear HAl
      rename World=>wa2
      go_wp2_with fail
      clear x1 x2 x3 x4 y1 y2 y3 y4 hbw hzr
      go_loopw [9] (fun i wr=>∃ k:Nat,i=.int .i64 k∧k≤regs.length∧Hid (∀ j (hj:j < regs.length) (hj2:j < regs2.length),j < k→regs[j]'hj=regs2[j]'hj2)∧Hid (Below (w.heap.size+2) V2 wr)) (fun i _=>regs.length - (intOf i).toNat)
      case atStart=>exact⟨0,rfl,Nat.zero_le _,fun _ _ _ h=>absurd h (Nat.not_lt_zero _),HB⟩
      case round =>
       clear HB
       obtain⟨k,rfl,hk,HAl,HB⟩:=hrel
       obtain⟨⟨⟨x1,x2,x3,x4⟩,y1,y2,y3,y4⟩,hbw,hzr⟩:=HK.out wr HB.out
       by_cases hlt:k < regs.length
       ·have hltb:k < regs2.length:=by have:=L3.out;omega
        obtain⟨p1,o1,ha1⟩:=HRA.out.resolve_left (by omega)
        obtain⟨p2,o2,ha2⟩:=HRB.out.resolve_left (by omega)
        subst ha1 ha2
        have HNx:=Lib.hid (fun he=>list_next L3.out hlt hltb HAl.out he)
        have HNo:Hid (¬ (regs[k]'hlt=regs2[k]'hltb)→∀ w',Below w.heap.size w w'→Po (.returned (.bool false)) w'):=fun he w' h=>HN.out w' (fun e=>list_ne hlt hltb he e.2.2.2.1) h
        clear HAl
        obtain⟨ae,ce,c0,c1,c2,c3,c4,c5,c6,hX⟩:=(HR.out.keep (keeps_of_below hbw)).get rfl hlt
        obtain⟨be,de,d0,d1,d2,d3,d4,d5,d6,hY⟩:=(HR2.out.keep (keeps_of_below hbw)).get rfl hltb
        have HC:=Lib.hid (fun W (hW:Below wr.heap.size wr W)=>HS8.out _ _ ae ce be de W (hX.keep (keeps_of_below hW)) (hY.keep (keeps_of_below hW)))
        clear hX hY
        generalize (regs[k]'hlt)=u at c0 c1 c2 c3 c4 c5 c6 HC HNx HNo
        generalize (regs2[k]'hltb)=v at d0 d1 d2 d3 d4 d5 d6 HC HNx HNo
        obtain⟨un,uw,ui,⟨uop,unn,unm,uargs⟩⟩:=u
        obtain⟨vn,vw,vi,⟨vop,vnn,vnm,vargs⟩⟩:=v
        simp only[RegD.mk.injEq,Ex.op_mk,Ex.n_mk,Ex.name_mk,Ex.args_mk,exVal] at c0 c1 c2 c3 c4 c5 c6 d0 d1 d2 d3 d4 d5 d6 HC HNx HNo
        generalize hue:Ex.mk uop unn unm uargs=ue at HC HNx HNo
        generalize hve:Ex.mk vop vnn vnm vargs=ve at HC HNx HNo
        generalize uargs.length=ul at c6 HC
        generalize vargs.length=vl at d6 HC
        clear hue hve
        have a0:=fun o=>cell_al d0 o
        have a1:=fun o=>cell_al d1 o
        have a2:=fun o=>cell_al d2 o
        have a3:=fun o=>cell_al d3 o
        have a4:=fun o=>cell_al d4 o
        have a5:=fun o=>cell_al d5 o
        have a6:=fun o=>cell_al d6 o
        have z3:=fun o=>cell_al y3 o
        by_cases he:un=vn∧uw=vw∧ui=vi∧ue=ve
        ·have HNx1:=Lib.hid (HNx.out he)
         obtain⟨rfl,rfl,rfl,hx⟩:=he
         rw[pB_true hx] at HC
         have qn:(un.toList != un.toList)=false:=by simp
         have qw:(uw != uw)=false:=by simp
         have qi:(ui != ui)=false:=by simp
         clear HNx HNo hx
         go_wp2_with fail
         refine(HC.out _ bel).mono ?_
         rintro e w3 ⟨rfl,hb3⟩
         have hw3:Below wr.heap.size wr w3:=Below.trans bel (hb3.mono (by simp;try omega))
         have HB3:=Lib.hid (HB.out.trans (hw3.mono hzr))
         clear hb3 hw3
         go_wp2_with fail
         go_roundw
         case rel=>exact⟨k+1,by go_num,by omega,HNx1,HB3⟩
         case measure=>(simp[intOf];try omega)
        ·have HPf:=Lib.hid (HNo.out he)
         clear HNx HNo
         have hq:¬ un.toList=vn.toList∨un=vn∧((uw != vw)=true∨uw=vw∧((ui != vi)=true∨ui=vi∧(¬ ue=ve))):=by
          by_cases en:un=vn
          ·refine Or.inr ⟨en,?_⟩
           by_cases ew:uw=vw
           ·refine Or.inr ⟨ew,?_⟩
            by_cases ei:ui=vi
            ·refine Or.inr ⟨ei,?_⟩
             exact fun e=>he ⟨en,ew,ei,e⟩
            ·exact Or.inl (by simpa using ei)
           ·exact Or.inl (by simpa using ew)
          ·exact Or.inl (fun e=>by have:=tl_ne en;rw[e] at this;simp at this)
         clear he
         rcases hq with q | ⟨rfl,q | ⟨rfl,q | ⟨rfl,q⟩⟩⟩
         ·clear HC
          go_wp2_with fail
          first | exact HPf.out _ ((hbw.alloc (by omega) _).alloc (by simp;omega) _) | (go_ret;exact HPf.out _ ((hbw.alloc (by omega) _).alloc (by simp;omega) _))
         ·have qn:(un.toList != un.toList)=false:=by simp
          clear HC
          go_wp2_with fail
          first | exact HPf.out _ ((hbw.alloc (by omega) _).alloc (by simp;omega) _) | (go_ret;exact HPf.out _ ((hbw.alloc (by omega) _).alloc (by simp;omega) _))
         ·have qn:(un.toList != un.toList)=false:=by simp
          have qw:(uw != uw)=false:=by simp
          clear HC
          go_wp2_with fail
          first | exact HPf.out _ ((hbw.alloc (by omega) _).alloc (by simp;omega) _) | (go_ret;exact HPf.out _ ((hbw.alloc (by omega) _).alloc (by simp;omega) _))
         ·have qn:(un.toList != un.toList)=false:=by simp
          have qw:(uw != uw)=false:=by simp
          have qi:(ui != ui)=false:=by simp
          rw[pB_false q] at HC
          clear q
          go_wp2_with fail
          refine(HC.out _ bel).mono ?_
          rintro e w3 ⟨rfl,hb3⟩
          have hw3:Below wr.heap.size wr w3:=Below.trans bel (hb3.mono (by simp;try omega))
          have HPe:=Lib.hid (HPf.out w3 (hbw.trans (hw3.mono (by omega))))
          clear hb3 hw3
          go_wp2_with fail
          first | exact HPe.out | (go_ret;exact HPe.out)
       ·obtain rfl:k=regs.length:=by omega
        have HE3:Hid (regs=regs2):=List.ext_getElem L3.out fun j hj hj2=>HAl.out j hj hj2 hj
        clear HAl
        rename World=>wa3
        go_wp2_with fail
        clear x1 x2 x3 x4 y1 y2 y3 y4 hbw hzr
        go_loopw [12] (fun i wr=>∃ k:Nat,i=.int .i64 k∧k≤outs.length∧Hid (∀ j (hj:j < outs.length) (hj2:j < outs2.length),j < k→outs[j]'hj=outs2[j]'hj2)∧Hid (Below (w.heap.size+2) V2 wr)) (fun i _=>outs.length - (intOf i).toNat)
        case atStart=>exact⟨0,rfl,Nat.zero_le _,fun _ _ _ h=>absurd h (Nat.not_lt_zero _),HB⟩
        case round =>
         clear HB
         obtain⟨k,rfl,hk,HAl,HB⟩:=hrel
         obtain⟨⟨⟨x1,x2,x3,x4⟩,y1,y2,y3,y4⟩,hbw,hzr⟩:=HK.out wr HB.out
         by_cases hlt:k < outs.length
         ·have hltb:k < outs2.length:=by have:=L4.out;omega
          obtain⟨p1,o1,ha1⟩:=HOA.out.resolve_left (by omega)
          obtain⟨p2,o2,ha2⟩:=HOB.out.resolve_left (by omega)
          subst ha1 ha2
          have HNx:=Lib.hid (fun he=>list_next L4.out hlt hltb HAl.out he)
          have HNo:Hid (¬ (outs[k]'hlt=outs2[k]'hltb)→∀ w',Below w.heap.size w w'→Po (.returned (.bool false)) w'):=fun he w' h=>HN.out w' (fun e=>list_ne hlt hltb he e.2.2.2.2) h
          clear HAl
          have c0:=(HO.out.keep (keeps_of_below hbw)).get rfl hlt
          have d0:=(HO2.out.keep (keeps_of_below hbw)).get rfl hltb
          generalize (outs[k]'hlt)=u at c0 HNx HNo
          generalize (outs2[k]'hltb)=v at d0 HNx HNo
          by_cases he:u=v
          ·have HNx1:=Lib.hid (HNx.out he)
           subst he
           have q1:(u.toList != u.toList)=false:=by simp
           clear HNx HNo
           go_wp2_with fail
           go_quiet (fail)
           go_wp2_with fail
           go_roundw
           case rel=>exact⟨k+1,by go_num,by omega,HNx1,Lib.hid (bel_drewN HB.out _)⟩
           case measure=>(simp[intOf];try omega)
          ·have HPf:=Lib.hid (HNo.out he)
           clear HNx HNo
           have q:(u.toList != v.toList)=true:=tl_ne he
           have q2:¬ u.toList=v.toList:=fun e=>by rw[e] at q;simp at q
           have q3:(u.toList == v.toList)=false:=beq_eq_false_iff_ne.2 q2
           clear he
           go_wp2_with fail
           go_quiet (fail)
           go_wp2_with fail
           first | exact HPf.out _ (bel_drewN hbw _) | (go_ret;exact HPf.out _ (bel_drewN hbw _))
         ·obtain rfl:k=outs.length:=by omega
          have HE4:Hid (outs=outs2):=List.ext_getElem L4.out fun j hj hj2=>HAl.out j hj hj2 hj
          clear HAl
          have HPe:=Lib.hid (HY.out wr (by first | rfl | trivial) HE1.out HE2.out HE3.out HE4.out hbw)
          go_wp2_with fail
          first | exact HPe.out | (go_ret;exact HPe.out)
 ·have HPf:Hid (∀ w',Below w.heap.size w w'→Po (.returned (.bool false)) w'):=fun w' h=>HN.out w' (fun e=>h1 ⟨e.1,by rw[e.2.1],by rw[e.2.2.1],by rw[e.2.2.2.1],by rw[e.2.2.2.2]⟩) h
  have hq:(¬ nm.toList=nm2.toList)∨nm=nm2∧(((ins.length:Int) != (ins2.length:Int))=true∨((ins.length:Int) != (ins2.length:Int))=false∧(((wires.length:Int) != (wires2.length:Int))=true∨((wires.length:Int) != (wires2.length:Int))=false∧(((regs.length:Int) != (regs2.length:Int))=true∨((regs.length:Int) != (regs2.length:Int))=false∧((outs.length:Int) != (outs2.length:Int))=true))):=by
   by_cases e1:nm=nm2
   ·refine Or.inr ⟨e1,?_⟩
    by_cases e2:ins.length=ins2.length
    ·refine Or.inr ⟨by simp;omega,?_⟩
     by_cases e3:wires.length=wires2.length
     ·refine Or.inr ⟨by simp;omega,?_⟩
      by_cases e4:regs.length=regs2.length
      ·refine Or.inr ⟨by simp;omega,?_⟩
       have:¬ outs.length=outs2.length:=fun e5=>h1 ⟨e1,e2,e3,e4,e5⟩
       simp;omega
      ·exact Or.inl (by simp;omega)
     ·exact Or.inl (by simp;omega)
    ·exact Or.inl (by simp;omega)
   ·exact Or.inl (fun e=>by have:=tl_ne e1;rw[e] at this;simp at this)
  clear h1 HN HY
  rcases hq with q | ⟨rfl,q | ⟨q1,q | ⟨q2,q | ⟨q3,q⟩⟩⟩⟩
  ·go_enter Tryz.func33, Tryz.ntmps33
   go_wp2_with fail
   first | exact HPf.out _ bel | (go_ret;exact HPf.out _ bel)
  all_goals
   have q0:(nm.toList != nm.toList)=false:=by simp
   go_enter Tryz.func33, Tryz.ntmps33
   go_wp2_with fail
   first | exact HPf.out _ bel | (go_ret;exact HPf.out _ bel)
end Go.Proofs.YtebneadheaefdaaGreatDoor
namespace Go.Proofs.YtebneadheaefdaaGreatDoor
open Go.RowKit
attribute [local go_sem ↓] Go.wp_at_zero Go.wp_at_succ
def RegAt (l:List RegD) (nm:ByteArray) (i:Int):Prop:=(∃ k:Nat,∃ hk:k < l.length,i=k∧(l[k]'hk).name=nm∧∀ j (hj:j < k),(l[j]'(Nat.lt_trans hj hk)).name≠nm)∨(i=-1∧∀ r∈l,r.name≠nm)
def RegPost34 (l:List RegD) (nm:ByteArray) (w:World) (e:Ending) (w':World):Prop:=(∃ i,e=.returned (.int .i64 i)∧RegAt l nm i)∧Below w.heap.size w w'
set_option maxHeartbeats 4000000 in
set_option maxRecDepth 100000 in
theorem register_any (d:DesD) (x:DesA) (nm:ByteArray) (w:World) (hD:DesIn w d x) :
  Calls Tryz.prog 70 #[desVal d x,.string nm] w (RegPost34 d.regs nm w):=by
 have HR:=Lib.hid hD.regs
 have hlen:=hD.regs.2.1
 have HEl:Hid (d.regs.length=0∨∃ b off,x.ar=some ⟨b,off,none⟩):=hD.regs.addr
 have HP1:Hid (∀ k (hk:k < d.regs.length) W,(d.regs[k]'hk).name=nm→(∀ j (hj:j < k),(d.regs[j]'(Nat.lt_trans hj hk)).name≠nm)→Below w.heap.size w W→RegPost34 d.regs nm w (.returned (.int .i64 k)) W):=fun k hk W h1 h2 h3=>⟨⟨k,rfl,Or.inl ⟨k,hk,rfl,h1,h2⟩⟩,h3⟩
 have HP2:Hid (∀ W,(∀ r∈d.regs,r.name≠nm)→Below w.heap.size w W→RegPost34 d.regs nm w (.returned (.int .i64 (-1))) W):=fun W h2 h3=>⟨⟨-1,rfl,Or.inr ⟨rfl,h2⟩⟩,h3⟩
 obtain⟨xai,xci,xaw,xcw,xar,xcr,xao,xco⟩:=x
 simp only[desVal,desVals]
 generalize RegPost34 d.regs nm w=Po at HP1 HP2⊢
 clear hD
 go_enter Tryz.func70, Tryz.ntmps70
 go_wp2_with fail
 generalize hW1:w.alloc (.cells #[.string d.name,.slice xai d.inputs.length xci,.slice xaw d.wires.length xcw,.slice xar d.regs.length xcr,.slice xao d.outputs.length xco] 27)=W1
 have HB1:Hid (Below w.heap.size w W1):=by show Below _ _ _;rw[← hW1];exact belr
 have HD1:Hid (W1.heap[w.heap.size]? = some (.cells #[.string d.name,.slice xai d.inputs.length xci,.slice xaw d.wires.length xcw,.slice xar d.regs.length xcr,.slice xao d.outputs.length xco] 27 (0,0))):=by
  show _=_;rw[← hW1]
  exact hx_new rfl
 clear hW1
 obtain⟨d0,d1,d2,d3,d4,_⟩:=cell5 HD1.out
 have HRw:=Lib.hid (HR.out.keep (keeps_of_below HB1.out))
 go_loop [5] (fun i=>∃ k:Nat,i=.int .i64 k∧k≤d.regs.length∧Hid (∀ j (hj:j < d.regs.length),j < k→(d.regs[j]'hj).name≠nm)) (fun i=>d.regs.length - (intOf i).toNat)
 case atStart=>exact⟨0,rfl,Nat.zero_le _,fun j hj h=>absurd h (Nat.not_lt_zero _)⟩
 case round =>
  obtain⟨k,rfl,hk,HN⟩:=hrel
  by_cases hlt:k < d.regs.length
  ·obtain⟨b,off,ha⟩:=HEl.out.resolve_left (by omega)
   try simp only at ha
   subst ha
   obtain⟨ae,ce,g0,-⟩:=HRw.out.get rfl hlt
   by_cases hnm:(d.regs[k]'hlt).name=nm
   ·have HPk:=Lib.hid (HP1.out k hlt W1 hnm (fun j hj=>HN.out j (Nat.lt_trans hj hlt) hj) HB1.out)
    rw[hnm] at g0
    clear hnm
    go_wp2_with fail
    first | exact HPk.out | (go_ret;exact HPk.out)
   ·have hne:((d.regs[k]'hlt).name.toList == nm.toList)=false:=by
     rw[ByteArray.toList_eq,ByteArray.toList_eq]
     simp only[beq_eq_false_iff_ne,ne_eq]
     exact fun h=>hnm (ByteArray.ext (Array.toList_inj.1 (by simpa using h)))
    have HNk:Hid (∀ j (hj:j < d.regs.length),j < k+1→(d.regs[j]'hj).name≠nm):=fun j hj h=>by
     by_cases e:j=k
     ·subst e;exact hnm
     ·exact HN.out j hj (by omega)
    clear hnm
    generalize (d.regs[k]'hlt).name=rn at g0 hne
    go_wp2_with fail
    go_round
    case rel=>exact⟨k+1,by go_num,by omega,HNk⟩
    case measure=>(simp[intOf];try omega)
  ·obtain rfl:k=d.regs.length:=by omega
   have HPn:=Lib.hid (HP2.out W1 (fun r hr=>by
    obtain⟨j,hj,rfl⟩:=List.mem_iff_getElem.1 hr
    exact HN.out j hj hj) HB1.out)
   go_wp2_with fail
   first | exact HPn.out | (go_ret;exact HPn.out)
end Go.Proofs.YtebneadheaefdaaGreatDoor
namespace Go.Proofs.YtebneadheaefdaaGreatDoor
open Go.RowKit
attribute [local go_sem ↓] Go.wp_at_zero Go.wp_at_succ
noncomputable def widS (d:DesD) (s:ByteArray):Int:=match idxT d.names s with
 | some i=>d.widths.getD i 0
 | none=>0
theorem names_widths (d:DesD):d.names.length=d.widths.length:=by simp[DesD.names,DesD.widths]
set_option maxRecDepth 100000 in
set_option maxHeartbeats 8000000 in
theorem RWidth_any (d:DesD) (x:DesA) (s:ByteArray) (w:World) (hE:DesIn w d x) (hs:DesSmall d) :
  Calls Tryz.prog 126 #[desVal d x,.string s] w fun e w'=>e=.returned (.int .i64 (widS d s))∧Below w.heap.size w w':=by
 have hl:=hs.len
 have HN:=Lib.hid (fun W (hW:Below w.heap.size w W)=>rNames31_any d x W (hE.below hW) (by simp[DesD.names];omega))
 have hwl:d.widths.length≤1073741824:=by simp[DesD.widths];omega
 have HWd:=Lib.hid (fun W (hW:Below w.heap.size w W)=>rwidths31_any d x W (hE.below hW) hwl)
 have HIx:Hid (∀ W a c,StrsIn W d.names a c→Calls Tryz.prog 161 #[.slice a d.names.length c,.string s] W fun e w'=>e=.returned (.int .i64 (idxI d.names s))∧W=w'):=fun W a c h=>index_any d.names a c s W h
 have hcase:(idxI d.names s=-1∧widS d s=0)∨∃ i:Nat,∃ hi:i < d.widths.length,idxI d.names s=(i:Int)∧widS d s=d.widths[i]'hi:=by
  unfold idxI widS
  cases h:idxT d.names s with
  | none=>exact Or.inl ⟨rfl,rfl⟩
  | some i =>
   obtain⟨h1,_⟩:=idxT_some h
   have h2:i < d.widths.length:=by rw[← names_widths];exact h1
   exact Or.inr ⟨i,h2,rfl,by simp[List.getD_eq_getElem?_getD,h2]⟩
 simp only[desVal,desVals] at HN HWd⊢
 have hbA:Below w.heap.size w (w.alloc (.cells #[.string d.name,.slice x.ai d.inputs.length x.ci,.slice x.aw d.wires.length x.cw,.slice x.ar d.regs.length x.cr,.slice x.ao d.outputs.length x.co] 27)):=bel
 have HB0:Hid (Below (w.heap.size+1) (w.alloc (.cells #[.string d.name,.slice x.ai d.inputs.length x.ci,.slice x.aw d.wires.length x.cw,.slice x.ar d.regs.length x.cr,.slice x.ao d.outputs.length x.co] 27)) (w.alloc (.cells #[.string d.name,.slice x.ai d.inputs.length x.ci,.slice x.aw d.wires.length x.cw,.slice x.ar d.regs.length x.cr,.slice x.ao d.outputs.length x.co] 27))):=Below.refl _ _
 have HN0:=Lib.hid (HN.out _ hbA)
 clear hE hs HN hbA hl
 rcases hcase with ⟨h1,h2⟩ | ⟨i,hi,h1,h2⟩
 ·rw[h1] at HIx
  rw[h2]
  clear h1 h2 HWd
  generalize d.names=N at HN0 HIx
  go_enter Tryz.func126, Tryz.ntmps126
  go_wp2_with fail
  refine HN0.out.mono ?_
  rintro e w1 ⟨⟨a1,c1,rfl,hS1⟩,hb1⟩
  have HB1:=Lib.hid (HB0.out.trans (hb1.mono (by simp)))
  have HIx1:=Lib.hid (HIx.out w1 a1 c1 hS1)
  clear hb1 hS1
  go_wp2_with fail
  refine HIx1.out.mono ?_
  rintro e w2 ⟨rfl,rfl⟩
  go_wp2_with fail
  go_ret
  exact⟨rfl,boxW _ HB1.out⟩
 ·have HV:Hid (∀ W a c,IntsIn W d.widths a c→∃ b off,a=some ⟨b,off,none⟩∧W.cell? ⟨b,off+i,none⟩=some (.int .i64 (d.widths[i]'hi))):=fun W a c h=>by
   obtain⟨b,off,ha⟩:=(SliceIn.addr h).resolve_left (by omega)
   exact⟨b,off,ha,intsIn_get h ha hi⟩
  have hlen:((i:Int) < (d.widths.length:Int)):=by omega
  rw[h1] at HIx
  rw[h2]
  generalize (d.widths[i]'hi)=v at HV⊢
  have hd0:decide ((i:Int) < 0)=false:=decide_eq_false (by omega)
  generalize hml:d.names.length=nl at HN0 HIx
  generalize hmw:d.widths.length=wl at HWd hlen hwl
  clear hml hmw h1 h2
  go_enter Tryz.func126, Tryz.ntmps126
  go_wp2_with fail
  refine HN0.out.mono ?_
  rintro e w1 ⟨⟨a1,c1,rfl,hS1⟩,hb1⟩
  have HB1:=Lib.hid (HB0.out.trans (hb1.mono (by simp)))
  have HIx1:=Lib.hid (HIx.out w1 a1 c1 hS1)
  have hz1:=HB1.out.size
  simp only[World.size_alloc] at hz1
  clear hb1 hS1
  go_wp2_with fail
  refine HIx1.out.mono ?_
  rintro e w2 ⟨rfl,rfl⟩
  ((try clear b0 b1 b2 b3 b4);have b0:=box_cell HB1.out 0;have b1:=box_cell HB1.out 1;have b2:=box_cell HB1.out 2;have b3:=box_cell HB1.out 3;have b4:=box_cell HB1.out 4;(try simp at b0 b1 b2 b3 b4))
  go_wp2_with fail
  refine(HWd.out w1 (boxW _ HB1.out)).mono ?_
  rintro e w3 ⟨⟨a3,c3,rfl,hI3⟩,hb3⟩
  obtain⟨b,off,rfl,hc⟩:=HV.out _ _ _ hI3
  have HB3:Hid (Below w.heap.size w w3):=(boxW _ HB1.out).trans (hb3.mono (boxW _ HB1.out).size)
  clear hb3 hI3
  go_wp2_with fail
  go_ret
  exact⟨rfl,HB3.out⟩
end Go.Proofs.YtebneadheaefdaaGreatDoor
namespace Go.Proofs.YtebneadheaefdaaGreatDoor
open Go.RowKit
attribute [local go_sem ↓] Go.wp_at_zero Go.wp_at_succ
set_option maxHeartbeats 4000000 in
set_option maxRecDepth 100000 in
theorem counter_any (d:DesD) (x:DesA) (w:World) (hD:DesIn w d x) (hs:DesSmall d) (hw1:∀ s∈d.names,0 < widS d s) (hw0:∀ s,s∉d.names→widS d s=0) (hn:d.names.length≤65535) :
  Calls Tryz.prog 71 #[desVal d x] w (fun e w'=>e=.returned (.string (cntN d))∧Below w.heap.size w w'):=by
 obtain⟨hf1,hf2,hf3⟩:=freeK_spec d.names
 have HWd:Hid (∀ s W,Below w.heap.size w W→Calls Tryz.prog 126 #[desVal d x,.string s] W fun e w'=>e=.returned (.int .i64 (widS d s))∧Below W.heap.size W w'):=fun s W hW=>RWidth_any d x s W (hD.below hW) hs
 have HFm:Hid (∀ n:Nat,n≤65535→∀ W,Calls Tryz.prog 90 #[.int .i64 n] W (SPost (fmtS n) W)):=fun n h W=>rFmt_any n h W
 unfold SPost at HFm
 have H1:Hid (∀ k,k < freeK d.names→0 < widS d (tryN k)):=fun k hk=>hw1 _ (hf2 k hk)
 have H0:Hid (widS d (tryN (freeK d.names))=0):=hw0 _ hf1
 have HT:Hid (∀ k,tryN (k+1)=kFault++fmtS k):=fun k=>rfl
 have HT0:Hid (tryN 0=⟨#[102,97,117,108,116]⟩):=rfl
 have HSz:Hid (∀ k:Nat,k≤65535→(fmtS k).size≤65536):=fun k hk=>by have:=fmt_len k;omega
 have HP:Hid (∀ W,Below w.heap.size w W→(fun e w'=>e=.returned (.string (cntN d))∧Below w.heap.size w w') (Ending.returned (.string (tryN (freeK d.names)))) W):=fun W h=>⟨rfl,h⟩
 generalize (fun e w'=>e=Ending.returned (.string (cntN d))∧Below w.heap.size w w')=Po at HP⊢
 clear hD hs hw1 hw0 hf1 hf2
 generalize freeK d.names=fk at H1 H0 HP hf3
 generalize tryN=tr at H1 H0 HT HT0 HP
 generalize widS d=wd at HWd H1 H0
 obtain⟨xai,xci,xaw,xcw,xar,xcr,xao,xco⟩:=x
 simp only[desVal,desVals] at HWd⊢
 unfold kFault at HT
 go_enter Tryz.func71, Tryz.ntmps71
 go_wp2_with fail
 generalize hW1:w.alloc (.cells #[.string d.name,.slice xai d.inputs.length xci,.slice xaw d.wires.length xcw,.slice xar d.regs.length xcr,.slice xao d.outputs.length xco] 27)=W1
 have HB1:Hid (Below w.heap.size w W1):=by show Below _ _ _;rw[← hW1];exact belr
 have HD1:Hid (W1.heap[w.heap.size]? = some (.cells #[.string d.name,.slice xai d.inputs.length xci,.slice xaw d.wires.length xcw,.slice xar d.regs.length xcr,.slice xao d.outputs.length xco] 27 (0,0))):=by
  show _=_;rw[← hW1]
  exact hx_new rfl
 clear hW1
 go_loopw [4,3] (fun i nm wr=>∃ k:Nat,i=.int .i64 k∧k≤fk∧nm=.string (tr k)∧Hid (Below w.heap.size w wr)∧Hid (wr.heap[w.heap.size]? = some (.cells #[.string d.name,.slice xai d.inputs.length xci,.slice xaw d.wires.length xcw,.slice xar d.regs.length xcr,.slice xao d.outputs.length xco] 27 (0,0)))) (fun i _ _=>fk - (intOf i).toNat)
 case atStart=>exact⟨0,rfl,Nat.zero_le _,by rw[HT0.out],HB1,HD1⟩
 case round =>
  obtain⟨k,rfl,hk,rfl,HB,HDr⟩:=hrel
  obtain⟨d0,d1,d2,d3,d4,_⟩:=cell5 HDr.out
  go_wp2_with fail
  refine(HWd.out _ wr HB.out).mono ?_
  rintro r w2 ⟨rfl,hb2⟩
  have HB2:Hid (Below w.heap.size w w2):=HB.out.trans (hb2.mono HB.out.size)
  have HD2:=Lib.hid (hx_below hb2 HDr.out)
  clear hb2 d0 d1 d2 d3 d4
  by_cases hlt:k < fk
  ·have h1:=H1.out k hlt
   have hd:decide (0 < wd (tr k))=true:=decide_eq_true h1
   have hsz:=HSz.out k (by omega)
   have hn1:¬ 9223372036854775807 < 5+(fmtS k).size:=by omega
   have HFk:=Lib.hid (HFm.out k (by omega))
   have HTk:=Lib.hid (HT.out k)
   generalize fmtS (k:Int)=fs at HFk HTk hsz hn1
   go_wp2_with fail
   refine(HFk.out w2).mono ?_
   rintro r w3 ⟨rfl,hb3⟩
   have HB3:Hid (Below w.heap.size w w3):=HB2.out.trans (hb3.mono HB2.out.size)
   have HD3:=Lib.hid (hx_below hb3 HD2.out)
   clear hb3
   go_wp2_with fail
   go_roundw
   case rel=>exact⟨k+1,by go_num,by omega,by rw[HTk.out],HB3,HD3⟩
   case measure=>(simp[intOf];try omega)
  ·obtain rfl:k=fk:=by omega
   have h0:wd (tr k)=0:=H0.out
   rw[h0]
   have HPn:=Lib.hid (HP.out w2 HB2.out)
   clear h0
   go_wp2_with fail
   first | exact HPn.out | (go_ret;exact HPn.out)
end Go.Proofs.YtebneadheaefdaaGreatDoor
namespace Go.Proofs.YtebneadheaefdaaGreatDoor
theorem regAt_regI {d:DesD} {nm:ByteArray} {i:Int} (h:RegAt d.regs nm i):i=regI d nm:=by
 rcases h with ⟨k,hk,rfl,h1,h2⟩ | ⟨rfl,h⟩
 ·unfold regI
  rw[idxP_at (isReg nm) d.regs k 0 hk (fun j hj=>by
   cases e:isReg nm (d.regs[j]'(Nat.lt_trans hj hk)) with
   | false=>rfl
   | true=>exact absurd (isReg_iff.1 e) (h2 j hj)) (isReg_iff.2 h1)]
  rfl
 ·unfold regI
  rw[idxP_none (isReg nm) d.regs 0 fun j hj=>by
   cases e:isReg nm (d.regs[j]'hj) with
   | false=>rfl
   | true=>exact absurd (isReg_iff.1 e) (h _ (List.getElem_mem hj))]
theorem inj_set {d:DesD} {k:Nat} (hk:k < d.regs.length) (cyc bit:Int):injD d k cyc bit={ d with regs:=d.regs.set k { (d.regs[k]'hk) with next:=hitE (cntN d) cyc bit (d.regs[k]'hk).next }++[⟨cntN d,16,0,twoE 7 (varE (cntN d)) (numE 1)⟩] }:=by
 unfold injD
 rw[modify_set _ _ _ hk]
end Go.Proofs.YtebneadheaefdaaGreatDoor
namespace Go.Proofs.YtebneadheaefdaaGreatDoor
open Go.RowKit
attribute [local go_sem ↓] Go.wp_at_zero Go.wp_at_succ
theorem rnumM_res (W:World) (tm:Array Value) (b:Nat) (m0 m1 m2 m3:Value) (hW:W.heap[b]? = some (.cells #[m0,m1,m2,m3] 72 (0,0))) (h0:tm.getD 2 undef=.pointer (some ⟨b,0,none⟩)) :
  (results Tryz.f73 tm).run Tryz.prog W=.ok (.agg #[m0,m1,m2,m3]) W:=by
 have hr : Tryz.f73.results=#[.cell 2 72]:=rfl
 obtain⟨c0,c1,c2,c3,_⟩:=cell4 hW
 rw[results_cellC hr,h0]
 simp[asAddr]
 go_simp
set_option maxHeartbeats 2000000 in
set_option maxRecDepth 100000 in
theorem rnumM_any (n:Int) (w:World):Calls Tryz.prog 73 #[.int .i64 n] w fun r w'=>r=.returned (.agg #[.int .i64 1,.int .i64 n,.string ⟨#[]⟩,.slice none 0 0])∧Below w.heap.size w w':=by
 go_enter Tryz.func73, Tryz.ntmps73
 go_wp2_with fail
 refine bodyPost_ret (v:=.agg #[.int .i64 1,.int .i64 n,.string ⟨#[]⟩,.slice none 0 0]) (rnumM_res _ _ w.heap.size _ _ _ _ (hx_new rfl) rfl) rfl ?_
 exact⟨rfl,belr⟩
theorem rtwoM_res (W:World) (tm:Array Value) (b:Nat) (m0 m1 m2 m3:Value) (hW:W.heap[b]? = some (.cells #[m0,m1,m2,m3] 72 (0,0))) (h0:tm.getD 6 undef=.pointer (some ⟨b,0,none⟩)) :
  (results Tryz.f72 tm).run Tryz.prog W=.ok (.agg #[m0,m1,m2,m3]) W:=by
 have hr : Tryz.f72.results=#[.cell 6 72]:=rfl
 obtain⟨c0,c1,c2,c3,_⟩:=cell4 hW
 rw[results_cellC hr,h0]
 simp[asAddr]
 go_simp
set_option maxHeartbeats 4000000 in
set_option maxRecDepth 100000 in
theorem rtwoM_any (p:Nat→Bool) (op:Int) (a b:Ex) (aa ba:Option Addr) (ac bc:Nat) (w:World) (hp:∀ k,p k=true→k < w.heap.size) (hA:ExIn (World.hide w p) a aa ac) (hB:ExIn (World.hide w p) b ba bc) :
  Calls Tryz.prog 72 #[.int .i64 op,exVal a aa ac,exVal b ba bc] w (ExPost p w (twoE op a b)):=by
 have HP:Hid (∀ g W,W.heap[g]? = some (.cells #[.int .i64 a.op,.int .i64 a.n,.string a.name,.slice aa a.args.length ac,.int .i64 b.op,.int .i64 b.n,.string b.name,.slice ba b.args.length bc] 72 (0,0))→w.heap.size≤g→Below w.heap.size w W→ExPost p w (twoE op a b) (.returned (.agg #[.int .i64 op,.int .i64 0,.string ⟨#[]⟩,.slice (some ⟨g,0,none⟩) 2 2])) W):=fun g W h1 h2 h3=>by
  have hk:=(hk_below (p:=p) (q:=p) h3 fun _ _ h=>h).cell
  have pg:p g=false:=by
   cases e:p g with
   | false=>rfl
   | true=>have:=hp g e;omega
  exact⟨⟨some ⟨g,0,none⟩,2,rfl,by show (0:Nat)≤_;omega,two_row h1 pg (hA.keep hk) (hB.keep hk)⟩,h3⟩
 generalize ExPost p w (twoE op a b)=Po at HP⊢
 simp only[exVal]
 clear hA hB hp
 go_enter Tryz.func72, Tryz.ntmps72
 go_upto_region 1 with fail
 generalize hW1:((w.alloc (.cells #[.int .i64 a.op,.int .i64 a.n,.string a.name,.slice aa a.args.length ac] 72)).alloc (.cells #[.int .i64 b.op,.int .i64 b.n,.string b.name,.slice ba b.args.length bc] 72)).alloc (.cells #[.int .i64 0,.int .i64 0,.string ⟨#[]⟩,.slice none 0 0] 72)=W1
 have hz1:w.heap.size+3≤W1.heap.size:=by rw[← hW1];simp
 have HB1:Hid (Below w.heap.size w W1):=by show Below _ _ _;rw[← hW1];exact belr
 have HXa:Hid (W1.heap[w.heap.size]? = some (.cells #[.int .i64 a.op,.int .i64 a.n,.string a.name,.slice aa a.args.length ac] 72 (0,0))):=by
  show _=_;rw[← hW1]
  exact hx_old (hx_old (hx_new rfl))
 have HXb:Hid (W1.heap[w.heap.size+1]? = some (.cells #[.int .i64 b.op,.int .i64 b.n,.string b.name,.slice ba b.args.length bc] 72 (0,0))):=by
  show _=_;rw[← hW1]
  exact hx_old (hx_new (by simp))
 have HXr:Hid (W1.heap[w.heap.size+1+1]? = some (.cells #[.int .i64 0,.int .i64 0,.string ⟨#[]⟩,.slice none 0 0] 72 (0,0))):=by
  show _=_;rw[← hW1]
  exact hx_new (by simp)
 clear hW1
 obtain⟨a0,a1,a2,a3,_⟩:=cell4 HXa.out
 obtain⟨b0,b1,b2,b3,_⟩:=cell4 HXb.out
 obtain⟨c0,c1,c2,c3,cf⟩:=cell4 HXr.out
 have hlt:w.heap.size+1+1 < W1.heap.size:=by omega
 have CF:=fun (o:Obj) (j:Nat)=>(((Below.refl W1.heap.size W1).alloc (Nat.le_refl _) o).frozen (p:=⟨w.heap.size+1+1,j,none⟩) hlt).trans (cf j)
 have C0:=fun o=>keeps_of_below ((Below.refl W1.heap.size W1).alloc (Nat.le_refl _) o) _ _ c0
 have C1:=fun o=>keeps_of_below ((Below.refl W1.heap.size W1).alloc (Nat.le_refl _) o) _ _ c1
 have C2:=fun o=>keeps_of_below ((Below.refl W1.heap.size W1).alloc (Nat.le_refl _) o) _ _ c2
 have C3:=fun o=>keeps_of_below ((Below.refl W1.heap.size W1).alloc (Nat.le_refl _) o) _ _ c3
 go_wp2_with fail
 generalize hW3:(((W1.setCell ⟨w.heap.size+1+1,0,none⟩ (.int .i64 op)).setCell ⟨w.heap.size+1+1,1,none⟩ (.int .i64 0)).setCell ⟨w.heap.size+1+1,2,none⟩ (.string ⟨#[]⟩)).setCell ⟨w.heap.size+1+1,3,none⟩ (.slice (some ⟨W1.heap.size,0,none⟩) 2 2)=W3
 have hz3:W3.heap.size=W1.heap.size:=by rw[← hW3];simp only[World.size_setCell]
 have hX3:W3.heap[w.heap.size+1+1]? = some (.cells #[.int .i64 op,.int .i64 0,.string ⟨#[]⟩,.slice (some ⟨W1.heap.size,0,none⟩) 2 2] 72 (0,0)):=by rw[← hW3];exact set4M HXr.out
 have hB3:Below w.heap.size w W3:=by rw[← hW3];exact bel4 HB1.out (by omega)
 clear hW3
 refine bodyPost_ret (v:=.agg #[.int .i64 op,.int .i64 0,.string ⟨#[]⟩,.slice (some ⟨W1.heap.size,0,none⟩) 2 2]) (rtwoM_res _ _ (w.heap.size+1+1) _ _ _ _ (hx_old hX3) rfl) rfl ?_
 exact HP.out W1.heap.size _ (hx_new hz3.symm) (by omega) (hB3.alloc (by omega) _)
end Go.Proofs.YtebneadheaefdaaGreatDoor
namespace Go.Proofs.YtebneadheaefdaaGreatDoor
open Go.RowKit
section
variable {W W' : World} {d : DesD} {x : DesA} {regs : List RegD} {P P' : Nat → Bool} {g cap : Nat}
theorem InjSt.belowP (h:InjSt W d x regs P g cap) (hb:Below W.heap.size W W') (hp:∀ k,k < W.heap.size→P' k=true→P k=true) (hg:P' g=true):InjSt W' d x regs P' g cap :=
 h.to (hk_below hb hp).cell (hb.block _ h.row.lt) hg
end
end Go.Proofs.YtebneadheaefdaaGreatDoor
namespace Go.Proofs.YtebneadheaefdaaGreatDoor
open Go.RowKit
attribute [local go_sem ↓] Go.wp_at_zero Go.wp_at_succ
theorem wid_pos {d:DesD} (h:d.err=0):(∀ s∈d.names,0 < widS d s)∧∀ s,s∉d.names→widS d s=0:=by
 refine⟨fun s hs=>?_,fun s hs=>?_⟩
 ·have h1:=idxT_mem hs rfl
  unfold widS
  cases e:idxT d.names s with
  | none=>rw[e] at h1;simp at h1
  | some k =>
   obtain⟨hk,_⟩:=idxT_some e
   have hk2:k < d.widths.length:=by rw[← names_widths];exact hk
   simp only[]
   rw[List.getD_eq_getElem?_getD,List.getElem?_eq_getElem hk2]
   have:=(desOk_of_err h).widths _ (List.getElem_mem hk2)
   simp
   omega
 ·unfold widS
  rw[idxT_none.2 fun y hy e=>hs (by have e2:y=s:=bytes_toList.1 e;rw[← e2];exact hy)]
theorem rinj_res (W:World) (tm:Array Value) (b:Nat) (m0 m1 m2 m3 m4 e:Value) (hW:W.heap[b]? = some (.cells #[m0,m1,m2,m3,m4] 27 (0,0))) (h0:tm.getD 8 undef=.pointer (some ⟨b,0,none⟩)) (h1:tm.getD 9 undef=e) :
  (results Tryz.f35 tm).run Tryz.prog W=.ok (.tuple #[.agg #[m0,m1,m2,m3,m4],e]) W:=by
 have hr : Tryz.f35.results=#[.cell 8 27,.tmp 9]:=rfl
 obtain⟨c0,c1,c2,c3,c4,_⟩:=cell5 hW
 rw[results_cell_tmp hr,h0,h1]
 simp[asAddr]
 go_simp
theorem wrap_powU {bit:Int} (h:0≤bit∧bit≤15):IntKind.i64.wrap ((2:Int) ^ min (IntKind.u64.wrap bit).toNat 64)=(2:Int) ^ bit.toNat:=by
 obtain⟨n,rfl⟩:=Int.eq_ofNat_of_zero_le h.1
 have hn:n≤15:=by omega
 have:n=0∨n=1∨n=2∨n=3∨n=4∨n=5∨n=6∨n=7∨n=8∨n=9∨n=10∨n=11∨n=12∨n=13∨n=14∨n=15:=by omega
 rcases this with rfl | rfl | rfl | rfl | rfl | rfl | rfl | rfl | rfl | rfl | rfl | rfl | rfl | rfl | rfl | rfl<;>decide
theorem set7r {W:World} {b:Nat} {m0 m1 m2 m3 m4 m5 m6 u3 u4 u5 u6:Value} {t:TypeId} (h:W.heap[b]? = some (.cells #[m0,m1,m2,m3,m4,m5,m6] t (0,0))) :
  ((((W.setCell ⟨b,3,none⟩ u3).setCell ⟨b,3+1,none⟩ u4).setCell ⟨b,3+2,none⟩ u5).setCell ⟨b,3+3,none⟩ u6).heap[b]? = some (.cells #[m0,m1,m2,u3,u4,u5,u6] t (0,0)):=by
 have h0:=heap_setCell_same _ b 3 _ _ u3 h
 have h1:=heap_setCell_same _ b (3+1) _ _ u4 h0
 have h2:=heap_setCell_same _ b (3+2) _ _ u5 h1
 have h3:=heap_setCell_same _ b (3+3) _ _ u6 h2
 rw[h3]
 rfl
set_option maxHeartbeats 32000000 in
set_option maxRecDepth 100000 in
theorem rinject_any (d:DesD) (x:DesA) (nm:ByteArray) (cyc bit:Int) (w:World) (hE:DesIn w d x) (hs:DesSmall d) :
  Calls Tryz.prog 35 #[desVal d x,.string nm,.int .i64 cyc,.int .i64 bit] w (InjPost w d nm cyc bit):=by
 have hl:=hs.len
 have HV:Hid (∀ W,Below w.heap.size w W→Calls Tryz.prog 53 #[desVal d x] W fun e w'=>e=.returned (.int .i64 d.err)∧Below W.heap.size W w'):=fun W hW=>rValidD_any d x W (hE.below hW) hs
 have HVJ:Hid (d.err=0→∀ k y W,DesIn W (injD d k cyc bit) y→Calls Tryz.prog 53 #[desVal (injD d k cyc bit) y] W fun e w'=>e=.returned (.int .i64 (injD d k cyc bit).err)∧Below W.heap.size W w'):=fun he k y W hD=>rValidD_any (injD d k cyc bit) y W hD (inj_small he hs k cyc bit)
 have HCt:Hid (d.err=0→∀ W,Below w.heap.size w W→Calls Tryz.prog 71 #[desVal d x] W fun e w'=>e=.returned (.string (cntN d))∧Below W.heap.size W w'):=fun he W hW=>counter_any d x W (hE.below hW) hs (wid_pos he).1 (wid_pos he).2 (by have:d.names.length≤48:=(desOk_of_err he).len;omega)
 have HRg:Hid (∀ W,Below w.heap.size w W→Calls Tryz.prog 70 #[desVal d x,.string nm] W fun e w'=>e=.returned (.int .i64 (regI d nm))∧Below W.heap.size W w'):=fun W hW=>(register_any d x nm W (hE.below hW)).mono fun _ _ ⟨⟨i,h1,h2⟩,h3⟩=>⟨by rw[h1,regAt_regI h2],h3⟩
 have HCk:Hid (∀ (p:Nat→Bool) (k:Nat) (r:RegD) ea ec W,(∀ j,p j=true→j < W.heap.size)→(∀ j,p j=true→¬ j < w.heap.size)→k < d.regs.length→Below w.heap.size w W→ExIn (World.hide W p) r.next ea ec→Calls Tryz.prog 74 #[desVal d x,.int .i64 k,.agg #[.string r.name,.int .i64 r.width,.int .i64 r.init,.int .i64 r.next.op,.int .i64 r.next.n,.string r.next.name,.slice ea r.next.args.length ec]] W (RClkPost p W { d with regs:=d.regs.set k r } x)):=fun p k r ea ec W hp hp2 hk hW hX=>clockedX_any p d x k r ea ec W hp (hE.keep (hide_old hW fun j hj=>by
  cases e:p j with
  | false=>rfl
  | true=>exact absurd hj (hp2 j e))) hk hX
 unfold RClkPost at HCk
 have HPz:Hid (∀ e W,injA d nm cyc bit=(zD,e)→Below w.heap.size w W→InjPost w d nm cyc bit (.returned (.tuple #[.agg #[.string ⟨#[]⟩,.slice none 0 0,.slice none 0 0,.slice none 0 0,.slice none 0 0],.int .i64 e])) W):=fun e W h1 h2=>by
  refine⟨⟨zA,?_,?_⟩,h2⟩
  ·rw[h1];rfl
  ·rw[h1];exact NewD.des (zD_new W 0)
 have HPm:Hid (∀ dm xm W,injA d nm cyc bit=(dm,0)→DesIn W dm xm→Below w.heap.size w W→InjPost w d nm cyc bit (.returned (.tuple #[.agg #[.string dm.name,.slice xm.ai dm.inputs.length xm.ci,.slice xm.aw dm.wires.length xm.cw,.slice xm.ar dm.regs.length xm.cr,.slice xm.ao dm.outputs.length xm.co],.int .i64 0])) W):=fun dm xm W h1 h2 h3=>by
  refine⟨⟨xm,?_,?_⟩,h3⟩
  ·rw[h1];rfl
  ·rw[h1];exact h2
 have HA1:=Lib.hid (@injA_err d nm cyc bit)
 have HA2:=Lib.hid (@injA_none d nm cyc bit)
 have HA3:=Lib.hid (@injA_arg d nm cyc bit)
 have HA4:=Lib.hid (@injA_lim d nm cyc bit)
 have HA5:=Lib.hid (@injA_ok d nm cyc bit)
 have hrc:regI d nm=-1∨∃ k,∃ hk:k < d.regs.length,regI d nm=(k:Int):=by
  rcases idxP_cases (isReg nm) d.regs with ⟨h,_⟩ | ⟨k,hk,h,_⟩
  ·exact Or.inl h
  ·exact Or.inr ⟨k,hk,h⟩
 have HE:=Lib.hid hE
 have HSz:Hid (d.err=0→(∀ k (hk:k < d.regs.length),1≤(d.regs[k]'hk).width∧(d.regs[k]'hk).width≤16)∧d.names.length≤65535):=fun he=>⟨fun k hk=>(desOk_of_err he).widths _ (by unfold DesD.widths;simp only[List.mem_append,List.mem_map];exact Or.inr ⟨_,List.getElem_mem hk,rfl⟩),by have:d.names.length≤48:=(desOk_of_err he).len;omega⟩
 clear hE hs
 generalize injA d nm cyc bit=IA at HPz HPm HA1 HA2 HA3 HA4 HA5
 generalize InjPost w d nm cyc bit=Po at HPz HPm⊢
 simp only[desVal,desVals] at HV HCt HRg HCk⊢
 generalize hri:regI d nm=ri at HRg hrc HA2 HA3 HA4 HA5
 clear hri
 go_enter Tryz.func35, Tryz.ntmps35
 go_wp2_with fail
 generalize hW2:(w.alloc (.cells #[.string d.name,.slice x.ai d.inputs.length x.ci,.slice x.aw d.wires.length x.cw,.slice x.ar d.regs.length x.cr,.slice x.ao d.outputs.length x.co] 27)).alloc (.cells #[.string ⟨#[]⟩,.slice none 0 0,.slice none 0 0,.slice none 0 0,.slice none 0 0] 27)=W2
 have hz2:w.heap.size+2≤W2.heap.size:=by rw[← hW2];simp
 have HB2:Hid (Below w.heap.size w W2):=by show Below _ _ _;rw[← hW2];exact belr
 have HD2:Hid (W2.heap[w.heap.size]? = some (.cells #[.string d.name,.slice x.ai d.inputs.length x.ci,.slice x.aw d.wires.length x.cw,.slice x.ar d.regs.length x.cr,.slice x.ao d.outputs.length x.co] 27 (0,0))):=by
  show _=_;rw[← hW2]
  exact hx_old (hx_new rfl)
 have HR2:Hid (W2.heap[w.heap.size+1]? = some (.cells #[.string ⟨#[]⟩,.slice none 0 0,.slice none 0 0,.slice none 0 0,.slice none 0 0] 27 (0,0))):=by
  show _=_;rw[← hW2]
  exact hx_new (by simp)
 clear hW2
 refine(HV.out W2 HB2.out).mono ?_
 rintro r w3 ⟨rfl,hb3⟩
 have HB3:Hid (Below w.heap.size w w3):=HB2.out.trans (hb3.mono (by omega))
 have HD3:=Lib.hid (hx_below hb3 HD2.out)
 have HR3:=Lib.hid (hx_below hb3 HR2.out)
 have hz3:w.heap.size+2≤w3.heap.size:=by have:=hb3.size;omega
 clear hb3 HD2 HR2 HB2 hz2
 obtain⟨d0,d1,d2,d3,d4,_⟩:=cell5 HD3.out
 obtain⟨y0,y1,y2,y3,y4,yf⟩:=cell5 HR3.out
 by_cases he:d.err=0
 ·have HVJ:=Lib.hid (HVJ.out he)
  have HCt:=Lib.hid (HCt.out he)
  have hA2:=fun h=>HA2.out he h
  have HA2:=Lib.hid hA2
  have hA3:=fun k h1 h2 h3=>HA3.out he (k:=k) h1 h2 h3
  have HA3:=Lib.hid hA3
  have hA4:=fun k h1 h2 h3 h4=>HA4.out he (k:=k) h1 h2 h3 h4
  have HA4:=Lib.hid hA4
  have hA5:=fun k h1 h2 h3 h4=>HA5.out he (k:=k) h1 h2 h3 h4
  have HA5:=Lib.hid hA5
  have HSz:=Lib.hid (HSz.out he)
  rw[he]
  clear hA2 hA3 hA4 hA5 HA1 he
  go_wp2_with fail
  refine(HRg.out w3 HB3.out).mono ?_
  rintro r w4 ⟨rfl,hb4⟩
  have HB4:Hid (Below w.heap.size w w4):=HB3.out.trans (hb4.mono (by omega))
  have HD4:=Lib.hid (hx_below hb4 HD3.out)
  have HR4:=Lib.hid (hx_below hb4 HR3.out)
  have hz4:w.heap.size+2≤w4.heap.size:=by have:=hb4.size;omega
  clear hb4 HD3 HR3 HB3 hz3 d0 d1 d2 d3 d4 y0 y1 y2 y3 y4 yf HRg
  obtain⟨d0,d1,d2,d3,d4,_⟩:=cell5 HD4.out
  obtain⟨y0,y1,y2,y3,y4,yf⟩:=cell5 HR4.out
  rcases hrc with hri | ⟨k,hk,hri⟩
  ·have HMt:=Lib.hid (HA2.out hri)
   rw[hri]
   clear hri
   go_wp2_with fail
   exact bodyPost_ret (v:=.tuple #[.agg #[.string ⟨#[]⟩,.slice none 0 0,.slice none 0 0,.slice none 0 0,.slice none 0 0],.int .i64 7]) (rinj_res _ _ (w.heap.size+1) _ _ _ _ _ _ (set5M HR4.out) rfl rfl) rfl (HPz.out 7 _ HMt.out (bel5 HB4.out (by omega)))
  ·rw[hri]
   have hki:(k:Int) < d.regs.length:=by omega
   have hk0:¬ ((k:Int) < 0):=by omega
   have hcr:=HE.out.regs.1
   have hcri:(d.regs.length:Int)≤x.cr:=by omega
   obtain⟨bR,oR,har⟩:=(SliceIn.addr HE.out.regs).resolve_left (by omega)
   obtain⟨ae,ce,g0,g1,g2,g3,g4,g5,g6,hXr⟩:=HE.out.regs.get har hk
   have HXr:=Lib.hid hXr
   have g0:=keeps_of_below HB4.out _ _ g0
   have g1:=keeps_of_below HB4.out _ _ g1
   have g2:=keeps_of_below HB4.out _ _ g2
   have g3:=keeps_of_below HB4.out _ _ g3
   have g4:=keeps_of_below HB4.out _ _ g4
   have g5:=keeps_of_below HB4.out _ _ g5
   have g6:=keeps_of_below HB4.out _ _ g6
   have hwd:=HSz.out.1 k hk
   have HA3:=Lib.hid (HA3.out k hri hk)
   have HA4:=Lib.hid (HA4.out k hri hk)
   have HA5:=Lib.hid (HA5.out k hri hk)
   have Har:=Lib.hid har
   rw[har] at d3
   obtain⟨rk,Hrk⟩:∃ rk,Hid (rk=d.regs[k]'hk):=⟨_,rfl⟩
   rw[← Hrk.out] at g0 g1 g2 g3 g4 g5 g6 HXr hwd HA3 HA4 HA5
   clear hri HA2 har hXr
   go_upto_region 8 with fail
   generalize hW5:w4.alloc (.cells #[.string rk.name,.int .i64 rk.width,.int .i64 rk.init,.int .i64 rk.next.op,.int .i64 rk.next.n,.string rk.next.name,.slice ae rk.next.args.length ce] 76)=W5
   have hz5:w4.heap.size+1≤W5.heap.size:=by rw[← hW5];simp
   have HB45:Hid (Below w4.heap.size w4 W5):=by show Below _ _ _;rw[← hW5];exact belr
   have HG5:Hid (W5.heap[w4.heap.size]? = some (.cells #[.string rk.name,.int .i64 rk.width,.int .i64 rk.init,.int .i64 rk.next.op,.int .i64 rk.next.n,.string rk.next.name,.slice ae rk.next.args.length ce] 76 (0,0))):=by
    show _=_;rw[← hW5]
    exact hx_new rfl
   clear hW5
   have HB5:Hid (Below w.heap.size w W5):=HB4.out.trans (HB45.out.mono (by omega))
   have HD5:=Lib.hid (hx_below HB45.out HD4.out)
   have HR5:=Lib.hid (hx_below HB45.out HR4.out)
   clear d0 d1 d2 d3 d4 y0 y1 y2 y3 y4 yf g0 g1 g2 g3 g4 g5 g6 HD4 HR4 HB45
   obtain⟨y0,y1,y2,y3,y4,yf⟩:=cell5 HR5.out
   have g1:=cell_of_blk HG5.out 1
   simp at g1
   by_cases hbad:cyc < 0∨4096≤cyc∨bit < 0∨rk.width≤bit
   ·have HMt:=Lib.hid (HA3.out hbad)
    generalize rk.width=wd at g1 hbad hwd
    by_cases h1:cyc < 0
    ·clear hbad
     go_wp2_with fail
     exact bodyPost_ret (v:=.tuple #[.agg #[.string ⟨#[]⟩,.slice none 0 0,.slice none 0 0,.slice none 0 0,.slice none 0 0],.int .i64 1]) (rinj_res _ _ (w.heap.size+1) _ _ _ _ _ _ (set5M HR5.out) rfl rfl) rfl (HPz.out 1 _ HMt.out (bel5 HB5.out (by omega)))
    ·by_cases h2:4096≤cyc
     ·clear hbad
      go_wp2_with fail
      exact bodyPost_ret (v:=.tuple #[.agg #[.string ⟨#[]⟩,.slice none 0 0,.slice none 0 0,.slice none 0 0,.slice none 0 0],.int .i64 1]) (rinj_res _ _ (w.heap.size+1) _ _ _ _ _ _ (set5M HR5.out) rfl rfl) rfl (HPz.out 1 _ HMt.out (bel5 HB5.out (by omega)))
     ·by_cases h3:bit < 0
      ·clear hbad
       go_wp2_with fail
       exact bodyPost_ret (v:=.tuple #[.agg #[.string ⟨#[]⟩,.slice none 0 0,.slice none 0 0,.slice none 0 0,.slice none 0 0],.int .i64 1]) (rinj_res _ _ (w.heap.size+1) _ _ _ _ _ _ (set5M HR5.out) rfl rfl) rfl (HPz.out 1 _ HMt.out (bel5 HB5.out (by omega)))
      ·have h4:wd≤bit:=by omega
       clear hbad
       go_wp2_with fail
       exact bodyPost_ret (v:=.tuple #[.agg #[.string ⟨#[]⟩,.slice none 0 0,.slice none 0 0,.slice none 0 0,.slice none 0 0],.int .i64 1]) (rinj_res _ _ (w.heap.size+1) _ _ _ _ _ _ (set5M HR5.out) rfl rfl) rfl (HPz.out 1 _ HMt.out (bel5 HB5.out (by omega)))
   ·have HA4:=Lib.hid (HA4.out hbad)
    have HA5:=Lib.hid (HA5.out hbad)
    have h1:¬ cyc < 0:=by omega
    have h2:¬ 4096≤cyc:=by omega
    have h3:¬ bit < 0:=by omega
    have h4:¬ rk.width≤bit:=by omega
    have h5:bit≤15:=by omega
    have hd4:decide (rk.width≤bit)=false:=decide_eq_false h4
    clear hbad HA3
    obtain⟨d0,d1,d2,d3,d4,_⟩:=cell5 HD5.out
    go_wp2_with fail
    clear y0 y1 y2 y3 y4 yf g1
    obtain⟨cn,HCn⟩:∃ cn,Hid (cn=cntN d):=⟨_,rfl⟩
    rw[← HCn.out] at HCt
    refine(HCt.out W5 HB5.out).mono ?_
    rintro r w6 ⟨rfl,hb6⟩
    have hz6:=hb6.size
    have HB6:Hid (Below w.heap.size w w6):=HB5.out.trans (hb6.mono (by omega))
    have HD6:=Lib.hid (hx_below hb6 HD5.out)
    have HR6:=Lib.hid (hx_below hb6 HR5.out)
    have HG6:=Lib.hid (hx_below hb6 HG5.out)
    clear hb6 d0 d1 d2 d3 d4 HD5 HR5 HG5
    go_upto_region 12 with fail
    generalize hW7:w6.alloc (.cells #[.int .i64 2,.int .i64 0,.string cn,.slice none 0 0] 72)=W7
    have hz7:w6.heap.size+1≤W7.heap.size:=by rw[← hW7];simp
    have HB67:Hid (Below w6.heap.size w6 W7):=by show Below _ _ _;rw[← hW7];exact belr
    have HN7:Hid (W7.heap[w6.heap.size]? = some (.cells #[.int .i64 2,.int .i64 0,.string cn,.slice none 0 0] 72 (0,0))):=by
     show _=_;rw[← hW7]
     exact hx_new rfl
    clear hW7
    have HG7:=Lib.hid (hx_below HB67.out HG6.out)
    obtain⟨_,_,_,g3,g4,g5,g6,_⟩:=cell7 HG7.out
    go_upto_region 13 with fail
    generalize hW8:W7.alloc (.cells #[.int .i64 rk.next.op,.int .i64 rk.next.n,.string rk.next.name,.slice ae rk.next.args.length ce] 72)=W8
    have hz8:W7.heap.size+1≤W8.heap.size:=by rw[← hW8];simp
    have HB78:Hid (Below W7.heap.size W7 W8):=by show Below _ _ _;rw[← hW8];exact belr
    have HO8:Hid (W8.heap[W7.heap.size]? = some (.cells #[.int .i64 rk.next.op,.int .i64 rk.next.n,.string rk.next.name,.slice ae rk.next.args.length ce] 72 (0,0))):=by
     show _=_;rw[← hW8]
     exact hx_new rfl
    clear hW8 g3 g4 g5 g6
    have HB68:Hid (Below w6.heap.size w6 W8):=HB67.out.trans (HB78.out.mono (by omega))
    have HN8:=Lib.hid (hx_below HB78.out HN7.out)
    have HG8:=Lib.hid (hx_below HB78.out HG7.out)
    have HD8:=Lib.hid (hx_below HB68.out HD6.out)
    have HR8:=Lib.hid (hx_below HB68.out HR6.out)
    have HB8:Hid (Below w.heap.size w W8):=HB6.out.trans (HB68.out.mono (by omega))
    clear HN7 HG7 HG6 HD6 HR6 HB68 HB78 HB67
    obtain⟨p,Hp⟩:∃ p:Nat→Bool,Hid (∀ j,p j=true↔j=w.heap.size+1∨j=w4.heap.size):=⟨fun j=>j == w.heap.size+1 || j == w4.heap.size,fun j=>by simp⟩
    have hnz:cn.size≤1073741824:=by rw[HCn.out];have:=cnt_size HSz.out.2;omega
    have HNu:Hid (∀ n W,Below W8.heap.size W8 W→Calls Tryz.prog 73 #[.int .i64 n] W fun r w'=>r=.returned (.agg #[.int .i64 1,.int .i64 n,.string ⟨#[]⟩,.slice none 0 0])∧Below W.heap.size W w'∧Below W8.heap.size W8 w'):=fun n W hW=>lift_to hW (rnumM_any n W)
    have hPc:∀ W,Below W8.heap.size W8 W→∀ j,p j=true→j < W.heap.size:=fun W hW j hj=>by have:=(Hp.out j).1 hj;have:=hW.size;have:=HB8.out.size;omega
    have hXo:∀ W,Below W8.heap.size W8 W→ExIn (World.hide W p) rk.next ae ce:=fun W hW=>HXr.out.keep (hide_old (HB8.out.trans (hW.mono HB8.out.size)) fun j hj=>by
     cases e:p j with
     | false=>rfl
     | true=>have:=(Hp.out j).1 e;omega)
    have HT1:Hid (∀ W,Below W8.heap.size W8 W→Calls Tryz.prog 72 #[.int .i64 15,.agg #[.int .i64 2,.int .i64 0,.string cn,.slice none 0 0],.agg #[.int .i64 1,.int .i64 cyc,.string ⟨#[]⟩,.slice none 0 0]] W fun r w'=>(∃ a c,r=.returned (.agg #[.int .i64 15,.int .i64 0,.string ⟨#[]⟩,.slice a 2 c])∧ExIn (World.hide w' p) (twoE 15 (varE cn) (numE cyc)) a c)∧Below W.heap.size W w'∧Below W8.heap.size W8 w'):=fun W hW=>lift_to hW ((rtwoM_any p 15 (varE cn) (numE cyc) none none 0 0 W (hPc W hW) (exIn_leafM hnz) (exIn_leafM (by decide))).mono fun _ _ h=>h)
    have HT2:Hid (∀ n W,Below W8.heap.size W8 W→Calls Tryz.prog 72 #[.int .i64 12,.agg #[.int .i64 rk.next.op,.int .i64 rk.next.n,.string rk.next.name,.slice ae rk.next.args.length ce],.agg #[.int .i64 1,.int .i64 n,.string ⟨#[]⟩,.slice none 0 0]] W fun r w'=>(∃ a c,r=.returned (.agg #[.int .i64 12,.int .i64 0,.string ⟨#[]⟩,.slice a 2 c])∧ExIn (World.hide w' p) (twoE 12 rk.next (numE n)) a c)∧Below W.heap.size W w'∧Below W8.heap.size W8 w'):=fun n W hW=>lift_to hW ((rtwoM_any p 12 rk.next (numE n) ae none ce 0 W (hPc W hW) (hXo W hW) (exIn_leafM (by decide))).mono fun _ _ h=>h)
    have HXo:=Lib.hid hXo
    have HALL:Hid (∀ w',W8.grownBy w' (some w4.heap.size)→w'.cell? ⟨w6.heap.size,0,none⟩=some (.int .i64 2)∧w'.cell? ⟨w6.heap.size,1,none⟩=some (.int .i64 0)∧w'.cell? ⟨w6.heap.size,2,none⟩=some (.string cn)∧w'.cell? ⟨w6.heap.size,3,none⟩=some (.slice none 0 0)∧w'.cell? ⟨W7.heap.size,0,none⟩=some (.int .i64 rk.next.op)∧w'.cell? ⟨W7.heap.size,1,none⟩=some (.int .i64 rk.next.n)∧w'.cell? ⟨W7.heap.size,2,none⟩=some (.string rk.next.name)∧w'.cell? ⟨W7.heap.size,3,none⟩=some (.slice ae rk.next.args.length ce)):=fun w' h=>by
     obtain⟨c0,c1,c2,c3,_⟩:=cell4 (gr_blk h HN8.out (fun e=>by have:=Option.some.inj e;omega))
     obtain⟨e0,e1,e2,e3,_⟩:=cell4 (gr_blk h HO8.out (fun e=>by have:=Option.some.inj e;omega))
     exact⟨c0,c1,c2,c3,e0,e1,e2,e3⟩
    have hG0:W8.grownBy W8 (some w4.heap.size):=gr_refl _ _
    have hbc:Below W8.heap.size W8 W8:=Below.refl _ _
    have h30:0≤bit:=by omega
    have hlr:w4.heap.size < W8.heap.size:=by omega
    obtain⟨_,_,_,r3,r4,r5,r6,hfr⟩:=cell7 HG8.out
    obtain⟨c0,c1,c2,c3,e0,e1,e2,e3⟩:=HALL.out _ hG0
    clear hXo hPc
    go_wp2_with fail
    go_region_held3 (fun w'=>W8.grownBy w' (some w4.heap.size)∧w'.cell? ⟨w6.heap.size,0,none⟩=some (.int .i64 2)∧w'.cell? ⟨w6.heap.size,1,none⟩=some (.int .i64 0)∧w'.cell? ⟨w6.heap.size,2,none⟩=some (.string cn)∧w'.cell? ⟨w6.heap.size,3,none⟩=some (.slice none 0 0)∧w'.cell? ⟨W7.heap.size,0,none⟩=some (.int .i64 rk.next.op)∧w'.cell? ⟨W7.heap.size,1,none⟩=some (.int .i64 rk.next.n)∧w'.cell? ⟨W7.heap.size,2,none⟩=some (.string rk.next.name)∧w'.cell? ⟨W7.heap.size,3,none⟩=some (.slice ae rk.next.args.length ce))
     ((refine(fun h=>⟨h,HALL.out _ h⟩) ?_;repeat (first | with_reducible assumption | with_reducible exact gr_refl _ _ | with_reducible refine gr_drew ?_ | with_reducible refine gr_set ?_ | with_reducible refine gr_alloc ?_ _)))
     (first
      | ((fail_if_success (have q:=hB10));go_at_call 73;(with_reducible refine(HNu.out _ _ (by first | with_reducible assumption | exact belr)).mono ?_);rintro r w10 ⟨rfl,hb10,hB10⟩;have hG10:=gr_below (gr_refl W8 (some w4.heap.size)) hB10)
      | (go_at_call 73;(with_reducible refine(HNu.out _ _ (by first | with_reducible assumption | exact belr)).mono ?_);rintro r w12 ⟨rfl,hb12,hB12⟩;have hG12:=gr_below (gr_refl W8 (some w4.heap.size)) hB12)
      | ((fail_if_success (have q:=hB11));go_at_call 72;(with_reducible refine(HT1.out _ (by first | with_reducible assumption | exact belr)).mono ?_);rintro r w11 ⟨⟨a11,c11,rfl,hX11⟩,hb11,hB11⟩;have hG11:=gr_below (gr_refl W8 (some w4.heap.size)) hB11)
      | (go_at_call 72;(with_reducible refine(HT2.out _ _ (by first | with_reducible assumption | exact belr)).mono ?_);rintro r w13 ⟨⟨a13,c13,rfl,hX13⟩,hb13,hB13⟩;have hG13:=gr_below (gr_refl W8 (some w4.heap.size)) hB13;have p3:=keeps_of_below hB13 _ _ r3;have p4:=keeps_of_below hB13 _ _ r4;have p5:=keeps_of_below hB13 _ _ r5;have p6:=keeps_of_below hB13 _ _ r6;have pf:=fun j=>(hB13.frozen (p:=⟨w4.heap.size,j,none⟩) hlr).trans (hfr j);have hlw:=Nat.lt_of_lt_of_le hlr hB13.size;have P3:=fun o=>keeps_of_below ((Below.refl w13.heap.size w13).alloc (Nat.le_refl _) o) _ _ p3;have P4:=fun o=>keeps_of_below ((Below.refl w13.heap.size w13).alloc (Nat.le_refl _) o) _ _ p4;have P5:=fun o=>keeps_of_below ((Below.refl w13.heap.size w13).alloc (Nat.le_refl _) o) _ _ p5;have P6:=fun o=>keeps_of_below ((Below.refl w13.heap.size w13).alloc (Nat.le_refl _) o) _ _ p6;have PF:=fun (o:Obj) (j:Nat)=>(((Below.refl w13.heap.size w13).alloc (Nat.le_refl _) o).frozen (p:=⟨w4.heap.size,j,none⟩) hlw).trans (pf j)))
    have hz13:W8.heap.size≤w13.heap.size:=hB13.size
    generalize hZ:(((((w13.setCell ⟨w4.heap.size,3,none⟩ (.int .i64 22)).setCell ⟨w4.heap.size,3+1,none⟩ (.int .i64 0)).setCell ⟨w4.heap.size,3+2,none⟩ (.string ⟨#[]⟩)).setCell ⟨w4.heap.size,3+3,none⟩ (.slice (some ⟨w13.heap.size,0,none⟩) 3 3)).alloc (.cells #[.int .i64 15,.int .i64 0,.string ⟨#[]⟩,.slice a11 2 c11,.int .i64 12,.int .i64 0,.string ⟨#[]⟩,.slice a13 2 c13,.int .i64 rk.next.op,.int .i64 rk.next.n,.string rk.next.name,.slice ae rk.next.args.length ce] 72))=Z
    have hgZ:w13.grownBy Z (some w4.heap.size):=by rw[← hZ];exact gr_alloc (gr_set (gr_set (gr_set (gr_set (gr_refl _ _))))) _
    have hZn:Z.heap[w13.heap.size]? = some (.cells #[.int .i64 15,.int .i64 0,.string ⟨#[]⟩,.slice a11 2 c11,.int .i64 12,.int .i64 0,.string ⟨#[]⟩,.slice a13 2 c13,.int .i64 rk.next.op,.int .i64 rk.next.n,.string rk.next.name,.slice ae rk.next.args.length ce] 72 (0,0)):=by
     rw[← hZ]
     exact hx_new (by simp only[World.size_setCell])
    have hZr:Z.heap[w4.heap.size]? = some (.cells #[.string rk.name,.int .i64 rk.width,.int .i64 rk.init,.int .i64 22,.int .i64 0,.string ⟨#[]⟩,.slice (some ⟨w13.heap.size,0,none⟩) 3 3] 76 (0,0)):=by
     rw[← hZ,Below.heap_alloc _ _ _ (by simp only[World.size_setCell];omega)]
     exact set7r (hx_below hB13 HG8.out)
    have hZz:w13.heap.size+1≤Z.heap.size:=by rw[← hZ];simp
    clear hZ
    have hpb:p w4.heap.size=true:=(Hp.out _).2 (Or.inr rfl)
    have hkZ:=cell_gr hgZ hpb
    have hpw:Hid (IntKind.i64.wrap ((2:Int) ^ min (IntKind.u64.wrap bit).toNat 64)=(2:Int) ^ bit.toNat):=wrap_powU (by omega)
    rw[hpw.out] at hX13
    have hpZ:p w13.heap.size=false:=by
     cases e:p w13.heap.size with
     | false=>rfl
     | true=>have:=(Hp.out _).1 e;omega
    have heZ:ExIn (World.hide Z p) (hitE cn cyc bit rk.next) (some ⟨w13.heap.size,0,none⟩) 3 :=
     ⟨by show (0:Nat)≤_;omega,three_row (x:=twoE 15 (varE cn) (numE cyc)) (y:=twoE 12 rk.next (numE (2 ^ bit.toNat))) (z:=rk.next) hZn hpZ ((hX11.keep (hk_below (hb12.trans (hb13.mono hb12.size)) fun _ _ h=>h).cell).keep hkZ) (hX13.keep hkZ) ((HXo.out _ hB13).keep hkZ)⟩
    have HeZ:=Lib.hid heZ
    have HGc:Hid (W8.grownBy Z (some w4.heap.size)):=gr_trans hG13 hgZ
    have HDZ:=Lib.hid (gr_blk HGc.out HD8.out (fun e=>by have:=Option.some.inj e;omega))
    have HNZ:=Lib.hid (gr_blk HGc.out HN8.out (fun e=>by have:=Option.some.inj e;omega))
    have HRZ:=Lib.hid (gr_blk HGc.out HR8.out (fun e=>by have:=Option.some.inj e;omega))
    have HGZ:=Lib.hid hZr
    have HBZ:Hid (Below w.heap.size w Z):=gr_bel HB8.out HGc.out (by omega) fun j hj=>by have:=Option.some.inj hj;omega
    clear heZ hpZ hkZ hpb hX11 hX13 hb10 hB10 hb11 hB11 hb12 hB12 hb13 hB13 hG10 hG11 hG12 hG13 hgZ hZn hZr p3 p4 p5 p6 pf P3 P4 P5 P6 PF hlw HALL HNu HT1 HT2 hG0 hbc c0 c1 c2 c3 e0 e1 e2 e3 r3 r4 r5 r6 hfr HGc HXo HN8 HG8 HD8 HR8 HO8 HB8
    obtain⟨d0,d1,d2,d3,d4,_⟩:=cell5 HDZ.out
    obtain⟨r0,r1,r2,r3,r4,r5,r6,_⟩:=cell7 HGZ.out
    go_wp2_with fail
    refine(HCk.out p k { rk with next:=hitE cn cyc bit rk.next } (some ⟨w13.heap.size,0,none⟩) 3 Z (fun j hj=>by have:=(Hp.out j).1 hj;omega) (fun j hj=>by have:=(Hp.out j).1 hj;omega) hk HBZ.out HeZ.out).mono ?_
    rintro r w15 ⟨⟨⟨ai,ci,aw,cw,ar,cr0,ao,co⟩,g0,rfl,hD2,har2,hg2,hcm2,hrow2,e1,e2,e3,e4,e5,e6⟩,hb15⟩
    simp only at har2 hcm2 hrow2 e1 e2 e3 e4 e5 e6
    subst har2 e1 e2 e3 e4 e5 e6
    clear hD2
    have hml:(d.regs.set k ({ rk with next:=hitE cn cyc bit rk.next }:RegD)).length=d.regs.length:=List.length_set
    have HJ:Hid (({ d with regs:=(d.regs.set k ({ rk with next:=hitE cn cyc bit rk.next }:RegD))++[⟨cn,16,0,twoE 7 (varE cn) (numE 1)⟩] }:DesD)=injD d k cyc bit):=by
     show _=_
     rw[inj_set hk,Hrk.out,HCn.out]
    simp only[hml]
    generalize (d.regs.set k ({ rk with next:=hitE cn cyc bit rk.next }:RegD))=rg at hrow2 hml HJ
    have hz15:=hb15.size
    have HB15:Hid (Below w.heap.size w w15):=HBZ.out.trans (hb15.mono HBZ.out.size)
    have hI15:InjSt w15 d x rg (fun j=>p j || decide (Z.heap.size≤j)) g0 cr0:=by
     have hk0:=hide_old (p:=fun j=>p j || decide (Z.heap.size≤j)) HB15.out fun j hj=>by
      cases e:p j with
      | false=>simp;have:=HBZ.out.size;omega
      | true=>have:=(Hp.out j).1 e;omega
     exact⟨HE.out.ins.keep hk0,HE.out.wires.keep hk0,HE.out.outs.keep hk0,hrow2,hcm2,by simp[hg2]⟩
    have HI15:=Lib.hid hI15
    have HN15:=Lib.hid (hx_below hb15 HNZ.out)
    have HR15:=Lib.hid (hx_below hb15 HRZ.out)
    clear hI15 hrow2 hb15 d0 d1 d2 d3 d4 r0 r1 r2 r3 r4 r5 r6 HNZ HRZ HDZ HGZ HeZ
    go_upto_region 15 with fail
    generalize hW16:w15.alloc (.cells #[.string d.name,.slice x.ai d.inputs.length x.ci,.slice x.aw d.wires.length x.cw,.slice (some ⟨g0,0,none⟩) d.regs.length cr0,.slice x.ao d.outputs.length x.co] 27)=W16
    have hz16:w15.heap.size+1≤W16.heap.size:=by rw[← hW16];simp
    have HB1516:Hid (Below w15.heap.size w15 W16):=by show Below _ _ _;rw[← hW16];exact belr
    have HOZ:Hid (W16.heap[w15.heap.size]? = some (.cells #[.string d.name,.slice x.ai d.inputs.length x.ci,.slice x.aw d.wires.length x.cw,.slice (some ⟨g0,0,none⟩) d.regs.length cr0,.slice x.ao d.outputs.length x.co] 27 (0,0))):=by
     show _=_;rw[← hW16]
     exact hx_new rfl
    clear hW16
    have hbg:g0 < w15.heap.size:=HI15.out.row.lt
    obtain⟨P,HPt⟩:∃ P:Nat→Bool,Hid (∀ j,P j=true↔j=w.heap.size+1∨j=w4.heap.size∨(Z.heap.size≤j∧j < W16.heap.size)):=⟨fun j=>j == w.heap.size+1 || (j == w4.heap.size || (decide (Z.heap.size≤j) && decide (j < W16.heap.size))),fun j=>by simp⟩
    have hIZ:InjSt W16 d x rg P g0 cr0:=HI15.out.belowP HB1516.out (fun j hj h=>by
     rw[Bool.or_eq_true,decide_eq_true_eq]
     rcases (HPt.out j).1 h with h | h | h
     ·exact Or.inl ((Hp.out j).2 (Or.inl h))
     ·exact Or.inl ((Hp.out j).2 (Or.inr h))
     ·exact Or.inr h.1) ((HPt.out g0).2 (Or.inr (Or.inr ⟨hg2,by omega⟩)))
    have HIZ:=Lib.hid hIZ
    have HPlt:Hid (∀ j,P j=true→j < W16.heap.size):=fun j hj=>by
     have:=(HPt.out j).1 hj
     have:=HBZ.out.size
     omega
    have HCZ:=Lib.hid (hx_below HB1516.out HN15.out)
    have HRZ:=Lib.hid (hx_below HB1516.out HR15.out)
    have HBZ:Hid (Below w.heap.size w W16):=HB15.out.trans (HB1516.out.mono (by omega))
    clear hIZ HI15 HN15 HR15 HB15 HB1516
    obtain⟨xs,hxo,hxP⟩:=HIZ.out.row.owns (B:=Z.heap.size) hg2 HIZ.out.capm
    have HxO:=Lib.hid hxo
    have HxP:=Lib.hid hxP
    have hbZ:g0 < W16.heap.size:=HIZ.out.row.lt
    clear hxo hxP
    rw[hml] at HxO
    go_upto_region 15 with fail
    have HPr:P (w.heap.size+1)=true:=(HPt.out _).2 (Or.inl rfl)
    have HPo:P w15.heap.size=true:=(HPt.out _).2 (Or.inr (Or.inr ⟨by omega,by omega⟩))
    go_cut [] from 75 to 84 (fun wx=>∃ (g cap:Nat) (P':Nat→Bool),Hid (InjSt wx d x (rg++[(⟨cn,16,0,twoE 7 (varE cn) (numE 1)⟩:RegD)]) P' g cap)∧Hid (wx.heap[w15.heap.size]? = some (.cells #[.string d.name,.slice x.ai d.inputs.length x.ci,.slice x.aw d.wires.length x.cw,.slice (some ⟨g,0,none⟩) (d.regs.length+1) cap,.slice x.ao d.outputs.length x.co] 27 (0,0)))∧Hid (wx.heap[w.heap.size+1]? = some (.cells #[.string ⟨#[]⟩,.slice none 0 0,.slice none 0 0,.slice none 0 0,.slice none 0 0] 27 (0,0)))∧Hid (Below w.heap.size w wx)∧P' (w.heap.size+1)=true∧w.heap.size+1≠g)
    case first =>
     have HNu:Hid (∀ n W,Below W16.heap.size W16 W→Calls Tryz.prog 73 #[.int .i64 n] W fun r w'=>r=.returned (.agg #[.int .i64 1,.int .i64 n,.string ⟨#[]⟩,.slice none 0 0])∧Below W.heap.size W w'∧Below W16.heap.size W16 w'):=fun n W hW=>lift_to hW (rnumM_any n W)
     have hcz:cn.size≤1073741824:=by rw[HCn.out];have:=cnt_size HSz.out.2;omega
     have HTw:Hid (∀ W,Below W16.heap.size W16 W→Calls Tryz.prog 72 #[.int .i64 7,.agg #[.int .i64 2,.int .i64 0,.string cn,.slice none 0 0],.agg #[.int .i64 1,.int .i64 1,.string ⟨#[]⟩,.slice none 0 0]] W fun r w'=>(∃ a c,r=.returned (.agg #[.int .i64 7,.int .i64 0,.string ⟨#[]⟩,.slice a 2 c])∧ExIn (World.hide w' P) (twoE 7 (varE cn) (numE 1)) a c)∧Below W.heap.size W w'∧Below W16.heap.size W16 w'):=fun W hW=>lift_to hW ((rtwoM_any P 7 (varE cn) (numE 1) none none 0 0 W (fun j hj=>by have:=HPlt.out j hj;have:=hW.size;omega) (exIn_leafM hcz) (exIn_leafM (by decide))).mono fun _ _ h=>h)
     have HALL:Hid (∀ w',W16.grownBy w' (some g0)→w'.cell? ⟨w15.heap.size,3,none⟩=some (.slice (some ⟨g0,0,none⟩) d.regs.length cr0)∧w'.cell? ⟨w6.heap.size,0,none⟩=some (.int .i64 2)∧w'.cell? ⟨w6.heap.size,1,none⟩=some (.int .i64 0)∧w'.cell? ⟨w6.heap.size,2,none⟩=some (.string cn)∧w'.cell? ⟨w6.heap.size,3,none⟩=some (.slice none 0 0)):=fun w' h=>by
      obtain⟨_,_,_,b3,_⟩:=cell5 (gr_blk h HOZ.out (fun e=>by have:=Option.some.inj e;omega))
      obtain⟨c0,c1,c2,c3,_⟩:=cell4 (gr_blk h HCZ.out (fun e=>by have:=Option.some.inj e;omega))
      exact⟨b3,c0,c1,c2,c3⟩
     have HALF:Hid (∀ w',W16.grownBy w' (some g0)→w'.frozen? ⟨w15.heap.size,3,none⟩=false):=fun w' h=>by
      obtain⟨_,_,_,_,_,bf⟩:=cell5 (gr_blk h HOZ.out (fun e=>by have:=Option.some.inj e;omega))
      exact bf 3
     have hG0:W16.grownBy W16 (some g0):=gr_refl _ _
     have hbz:Below W16.heap.size W16 W16:=Below.refl _ _
     have hB4Z:Z.heap.size≤W16.heap.size:=by omega
     obtain⟨o3,c0,c1,c2,c3⟩:=HALL.out _ hG0
     go_wp2_with fail
     go_region_law (first
      | (refine own_step elemRg (by rfl) _ _ (by rfl) Z.heap.size (.slice (some ⟨g0,0,none⟩) d.regs.length cr0) d.regs.length xs (by rfl) (ownsRow_below HxO.out belr) [.string cn,.int .i64 16,.int .i64 0,.int .i64 7,.int .i64 0,.string ⟨#[]⟩,.slice a14 2 c14] (by rfl) (by simp[Value.oneCell']) _ 1 (by rfl) (heap_alloc_new' _ _) (by omega) sz _ rfl ?_;intro g gcap wg hownG hgrow hatG hltG;have hGg:=gr_trans (gr_alloc hG14 _) hgrow;have cg:=(HALL.out _ hGg).1;have fg:=HALF.out _ hGg)
      | (go_simp;go_at_call 73;(with_reducible refine(HNu.out _ _ (by first | with_reducible assumption | exact belr)).mono ?_);rintro r w13 ⟨rfl,hb13,hB13⟩;have hG13:=gr_below (gr_refl W16 (some g0)) hB13;obtain⟨o3,c0,c1,c2,c3⟩:=HALL.out _ hG13)
      | (go_simp;go_at_call 72;(with_reducible refine(HTw.out _ (by first | with_reducible assumption | exact belr)).mono ?_);rintro r w14 ⟨⟨a14,c14,rfl,hX14⟩,hb14,hB14⟩;have hG14:=gr_below (gr_refl W16 (some g0)) hB14;have hz14:=hB14.size;obtain⟨o3,c0,c1,c2,c3⟩:=HALL.out _ hG14;have O3:=fun o=>keeps_of_below ((Below.refl w14.heap.size w14).alloc (Nat.le_refl _) o) _ _ o3))
     all_goals
      have hG14':=gr_alloc hG14 (.cells #[.string cn,.int .i64 16,.int .i64 0,.int .i64 7,.int .i64 0,.string ⟨#[]⟩,.slice a14 2 c14] 76)
      have hbx:Below w14.heap.size w14 (w14.alloc (.cells #[.string cn,.int .i64 16,.int .i64 0,.int .i64 7,.int .i64 0,.string ⟨#[]⟩,.slice a14 2 c14] 76)):=(Below.refl _ _).alloc (Nat.le_refl _) _
      have hat2:g0=g∨w14.heap.size≤g:=hatG.imp (fun h=>Option.some.inj h) fun h=>by rw[h];simp
      have hgne:w15.heap.size≠g∧w.heap.size+1≠g:=by rcases hat2 with h | h<;>omega
      have hIw:=HIZ.out.below hB14
      have hIa:InjSt wg d x (rg++[(⟨cn,16,0,twoE 7 (varE cn) (numE 1)⟩:RegD)]) (fun j=>P j || j == g) g gcap:=by
       have hxo:=ownsRow_below HxO.out hB14
       rw[← hml] at hxo
       refine InjSt.app (a:=a14) (c:=c14) (B:=Z.heap.size) hIw hxo (fun i hi=>?_) hbx hgrow hat2 (by rw[hml];exact hownG) hX14 (fun j hj hq=>?_) (by simp)
       ·obtain⟨v,av,cv,g0,g1,g2,g3,g4,g5,g6,g7,g8⟩:=HxP.out i hi
        exact⟨v,av,cv,g0,g1,g2,g3,g4,g5,g6,g7,g8.keep (hk_below hB14 fun _ _ h=>h).cell⟩
       ·rw[Bool.or_eq_true] at hq
        rcases hq with h | h
        ·exact h
        ·have h:j=g:=by simpa using h
         rcases hat2 with h2 | h2
         ·rw[h,← h2];exact HIZ.out.hg
         ·omega
      have HIa:=Lib.hid hIa
      have HGg:=Lib.hid hGg
      have HOg:=Lib.hid (gr_blk hGg HOZ.out (fun e=>by have:=Option.some.inj e;omega))
      have HRg:=Lib.hid (gr_blk hGg HRZ.out (fun e=>by have:=Option.some.inj e;omega))
      have HBg:Hid (Below w.heap.size w wg):=gr_bel HBZ.out hGg (by omega) fun j hj=>by have:=Option.some.inj hj;omega
      clear hIa hIw hX14 hb14 hB14 hb13 hB13 hG13 hG14 hG14' hbx hat2 hownG hgrow hatG hltG hGg
      go_wp2_with fail
      go_meet
      case rel =>
       refine⟨g,gcap,(fun j=>P j || j == g),?_,?_,?_,?_,by simp only[HPr,Bool.true_or],hgne.2⟩
       ·exact(HIa.out.gr (b:=w15.heap.size) (gr_set (gr_refl _ _)) (by simp only[HPo,Bool.true_or]) hgne.1).to (fun _ _ h=>h) rfl HIa.out.hg
       ·show _=_
        rw[heap_setCell_same _ _ _ _ _ _ HOg.out]
        rfl
       ·exact hx_set HRg.out (by omega)
       ·exact HBg.out.setCell (show w.heap.size≤w15.heap.size by omega) _
    case rest =>
     obtain⟨g,cap,P',HI,HO,HR,HB,hPr,hgr⟩:=hcut
     have hlen:(rg++[(⟨cn,16,0,twoE 7 (varE cn) (numE 1)⟩:RegD)]).length=d.regs.length+1:=by rw[List.length_append,List.length_singleton,hml]
     have hDJ:=HI.out.des (by rw[hlen];omega)
     have hdv:desVal (injD d k cyc bit) ⟨x.ai,x.ci,x.aw,x.cw,some ⟨g,0,none⟩,cap,x.ao,x.co⟩=.agg #[.string d.name,.slice x.ai d.inputs.length x.ci,.slice x.aw d.wires.length x.cw,.slice (some ⟨g,0,none⟩) (d.regs.length+1) cap,.slice x.ao d.outputs.length x.co]:=by
      rw[← HJ.out]
      simp only[desVal,desVals,hlen]
     rw[HJ.out] at hDJ
     have hV:=HVJ.out k _ wc hDJ
     rw[hdv] at hV
     have HVc:=Lib.hid hV
     have Hdv:=Lib.hid hdv
     have Hlen:=Lib.hid hlen
     obtain⟨o0,o1,o2,o3,o4,_⟩:=cell5 HO.out
     clear hDJ hV hdv hlen
     go_wp2_with fail
     refine HVc.out.mono ?_
     rintro r w20 ⟨rfl,hb20⟩
     have HI20:=Lib.hid (HI.out.below hb20)
     have HO20:=Lib.hid (hx_below hb20 HO.out)
     have HR20:=Lib.hid (hx_below hb20 HR.out)
     have HB20:Hid (Below w.heap.size w w20):=HB.out.trans (hb20.mono HB.out.size)
     clear hb20 HI HO HR HB HVc o0 o1 o2 o3 o4
     obtain⟨o0,o1,o2,o3,o4,_⟩:=cell5 HO20.out
     obtain⟨y0,y1,y2,y3,y4,yf⟩:=cell5 HR20.out
     by_cases hej:(injD d k cyc bit).err=0
     ·have HMt:=Lib.hid (HA5.out hej)
      rw[hej]
      clear hej HA4 HA5
      go_wp2_with fail
      refine bodyPost_ret (v:=.tuple #[.agg #[.string d.name,.slice x.ai d.inputs.length x.ci,.slice x.aw d.wires.length x.cw,.slice (some ⟨g,0,none⟩) (d.regs.length+1) cap,.slice x.ao d.outputs.length x.co],.int .i64 0]) (rinj_res _ _ (w.heap.size+1) _ _ _ _ _ _ (set5M HR20.out) rfl rfl) rfl ?_
      have hIf:=HI20.out.gr (b:=w.heap.size+1) (gr_set (o:=4) (u:=.slice x.ao d.outputs.length x.co) (gr_set (o:=3) (u:=.slice (some ⟨g,0,none⟩) (d.regs.length+1) cap) (gr_set (o:=2) (u:=.slice x.aw d.wires.length x.cw) (gr_set (o:=1) (u:=.slice x.ai d.inputs.length x.ci) (gr_set (o:=0) (u:=.string d.name) (gr_refl _ _)))))) hPr hgr
      have hDf:=hIf.des (by rw[Hlen.out];omega)
      rw[HJ.out] at hDf
      have h:=HPm.out (injD d k cyc bit) ⟨x.ai,x.ci,x.aw,x.cw,some ⟨g,0,none⟩,cap,x.ao,x.co⟩ _ HMt.out hDf (bel5 HB20.out (by omega))
      have h2:(Value.agg #[.string (injD d k cyc bit).name,.slice x.ai (injD d k cyc bit).inputs.length x.ci,.slice x.aw (injD d k cyc bit).wires.length x.cw,.slice (some ⟨g,0,none⟩) (injD d k cyc bit).regs.length cap,.slice x.ao (injD d k cyc bit).outputs.length x.co])=.agg #[.string d.name,.slice x.ai d.inputs.length x.ci,.slice x.aw d.wires.length x.cw,.slice (some ⟨g,0,none⟩) (d.regs.length+1) cap,.slice x.ao d.outputs.length x.co]:=Hdv.out
      simp only at h
      rw[h2] at h
      exact h
     ·have HMt:=Lib.hid (HA4.out hej)
      have hee:((injD d k cyc bit).err != 0)=true:=by simpa using hej
      clear hej HA4 HA5
      go_wp2_with fail
      exact bodyPost_ret (v:=.tuple #[.agg #[.string ⟨#[]⟩,.slice none 0 0,.slice none 0 0,.slice none 0 0,.slice none 0 0],.int .i64 2]) (rinj_res _ _ (w.heap.size+1) _ _ _ _ _ _ (set5M HR20.out) rfl rfl) rfl (HPz.out 2 _ HMt.out (bel5 HB20.out (by omega)))
 ·have HMt:=Lib.hid (HA1.out he)
  have hee:(d.err != 0)=true:=by simpa using he
  clear he HVJ HCt HA2 HA3 HA4 HA5 HSz
  go_wp2_with fail
  exact bodyPost_ret (v:=.tuple #[.agg #[.string ⟨#[]⟩,.slice none 0 0,.slice none 0 0,.slice none 0 0,.slice none 0 0],.int .i64 d.err]) (rinj_res _ _ (w.heap.size+1) _ _ _ _ _ _ (set5M HR3.out) rfl rfl) rfl (HPz.out d.err _ HMt.out (bel5 HB3.out (by omega)))
end Go.Proofs.YtebneadheaefdaaGreatDoor
namespace Go.Proofs.YtebneadheaefdaaGreatDoor
open Go.RowKit Go.ChangeShapes Go.WideShapes Go.ChangeAt Go.Deep Go.Joins
section
variable {H : Type} {enc : TypeId × Value → H} {w : World} {base b0 : Nat} {sp : Nat → Bool} {hd : Bool} {r : Reach} {v : Value} {d : DataW H} {ps : List MemPlace}
set_option maxRecDepth 100000 in
theorem cells_place : Tryz.prog.cellsOf 59=3:=by kernel_rfl
set_option maxRecDepth 100000 in
theorem arg_place (hv:Value.okWide Tryz.prog w r b0 59 v) (h:DataW.Trod enc Tryz.prog w 0 sp hd 59 v d ps):∃ (s:ByteArray) (m n:Int),v=.agg #[.string s,.int .i64 m,.int .i64 n]:=by
 obtain⟨cs,rfl,_⟩:=okWide_struct Tryz.underlying59 hv
 obtain⟨fuel,hf0⟩:=h
 have hf':DataW.trod enc Tryz.prog w 0 sp hd fuel 59 cs.toList=some (d,ps):=hf0
 obtain⟨xs,m,_,hx,hl,hlen,hf⟩:=DataW.trod_struct Tryz.underlying59 hf'
 rw[cells_place] at hl
 obtain⟨c0,c1,c2,hcs⟩:=list3 hl
 obtain⟨y0,y1,y2,rfl⟩:=list3 hlen
 rw[hcs] at hf
 have h0:DataW.trod enc Tryz.prog w 0 sp hd m 9 [c0]=some y0:=by
  have:=hf 0 _ rfl
  simpa [cells_str] using this
 have h1:DataW.trod enc Tryz.prog w 0 sp hd m 3 [c1]=some y1:=by
  have:=hf 1 _ rfl
  simpa [cells_str,cells_int] using this
 have h2:DataW.trod enc Tryz.prog w 0 sp hd m 3 [c2]=some y2:=by
  have:=hf 2 _ rfl
  simpa [cells_str,cells_int] using this
 obtain⟨s,e0,_,_⟩:=DataW.trod_string Tryz.underlying9 h0
 obtain⟨n1,e1,_,_⟩:=DataW.trod_int Tryz.underlying3 h1
 obtain⟨n2,e2,_,_⟩:=DataW.trod_int Tryz.underlying3 h2
 simp only[List.cons.injEq,and_true] at e0 e1 e2
 subst e0 e1 e2
 refine⟨s,n1,n2,?_⟩
 have:cs=#[Value.string s,.int .i64 n1,.int .i64 n2]:=Array.toList_inj.1 hcs
 rw[this]
end
end Go.Proofs.YtebneadheaefdaaGreatDoor
namespace Go.Proofs.YtebneadheaefdaaGreatDoor
open Go.RowKit
attribute [local go_sem ↓] Go.wp_at_zero Go.wp_at_succ
set_option maxRecDepth 100000 in
set_option maxHeartbeats 8000000 in
theorem MutateInjects_of (d:DesD) (x:DesA) (nm:ByteArray) (cyc bit:Int) (w:World) (hE:DesIn w d x) (hs:DesSmall d) (hG:Glob w) (hF:FmC w) (hAw:AwC w) :
  Calls Tryz.prog 7 #[desVal d x,.agg #[.string nm,.int .i64 cyc,.int .i64 bit]] w fun e w'=>e=.returned (.bool true)∧Below w.heap.size w w':=by
 have HFw:=Lib.hid (fun W (hW:Below w.heap.size w W)=>few34_any d x W (hE.below hW) hs)
 have HAw:=Lib.hid hAw
 unfold BoolIs at HFw
 unfold AwC at HAw
 have HM1:=Lib.hid (fun W (hW:Below w.heap.size w W)=>inject_any d x nm cyc bit W (hF.below hW) (hG.below hW) (hE.below hW) hs)
 have HM2:=Lib.hid (fun W (hW:Below w.heap.size w W)=>rinject_any d x nm cyc bit W (hE.below hW) hs)
 have HEq:=Lib.hid (fun a y z W h1 h2=>same31_any a a y z W h1 h2)
 unfold InjPost at HM1 HM2
 unfold BoolIs at HEq
 clear hE hs hG hF hAw
 generalize (injA d nm cyc bit).1=dm at HM1 HM2
 generalize (injA d nm cyc bit).2=er at HM1 HM2
 have hee:(er == er)=true:=by simp
 generalize fewM d=fb at HFw
 simp only[desVal,desVals] at HFw HM1 HM2⊢
 go_enter Tryz.func7, Tryz.ntmps7
 go_wp2_with fail
 generalize hW1:(w.alloc (.cells #[.string d.name,.slice x.ai d.inputs.length x.ci,.slice x.aw d.wires.length x.cw,.slice x.ar d.regs.length x.cr,.slice x.ao d.outputs.length x.co] 27)).alloc (.cells #[.string nm,.int .i64 cyc,.int .i64 bit] 59)=W1
 have hz1:w.heap.size+2≤W1.heap.size:=by rw[← hW1];simp
 have HB1:Hid (Below w.heap.size w W1):=by show Below _ _ _;rw[← hW1];exact belr
 have HX1:Hid (W1.heap[w.heap.size]? = some (.cells #[.string d.name,.slice x.ai d.inputs.length x.ci,.slice x.aw d.wires.length x.cw,.slice x.ar d.regs.length x.cr,.slice x.ao d.outputs.length x.co] 27 (0,0))):=by
  show _=_;rw[← hW1]
  rw[Below.heap_alloc _ _ _ (by simp)];exact hx_new rfl
 have HY1:Hid (W1.heap[w.heap.size+1]? = some (.cells #[.string nm,.int .i64 cyc,.int .i64 bit] 59 (0,0))):=by
  show _=_;rw[← hW1]
  exact hx_new (by simp)
 clear hW1
 have HBX:Hid (∀ W,Below W1.heap.size W1 W→(W.cell? ⟨w.heap.size,0,none⟩=some (.string d.name)∧W.cell? ⟨w.heap.size,1,none⟩=some (.slice x.ai d.inputs.length x.ci)∧W.cell? ⟨w.heap.size,2,none⟩=some (.slice x.aw d.wires.length x.cw)∧W.cell? ⟨w.heap.size,3,none⟩=some (.slice x.ar d.regs.length x.cr)∧W.cell? ⟨w.heap.size,4,none⟩=some (.slice x.ao d.outputs.length x.co))∧W.cell? ⟨w.heap.size+1,0,none⟩=some (.string nm)∧W.cell? ⟨w.heap.size+1,1,none⟩=some (.int .i64 cyc)∧W.cell? ⟨w.heap.size+1,2,none⟩=some (.int .i64 bit)):=fun W h=>by
  obtain⟨b0,b1,b2,b3,b4,_⟩:=cell5 (hx_below h HX1.out)
  have hy:=hx_below h HY1.out
  exact⟨⟨b0,b1,b2,b3,b4⟩,by simp[World.cell?,hy],by simp[World.cell?,hy],by simp[World.cell?,hy]⟩
 refine(HFw.out W1 HB1.out).mono ?_
 rintro r w2 ⟨rfl,hb2⟩
 have HB2:=Lib.hid hb2
 have HW2:Hid (Below w.heap.size w w2):=HB1.out.trans (hb2.mono (by omega))
 clear hb2
 cases fb
 ·go_wp2_with fail
  refine(HAw.out w2 HW2.out).mono ?_
  rintro r w3 ⟨rfl,hb3⟩
  have HW3:Hid (Below w.heap.size w w3):=HW2.out.trans (hb3.mono HW2.out.size)
  clear hb3
  go_wp2_with fail
  go_ret
  exact⟨rfl,HW3.out⟩
 ·obtain⟨⟨b0,b1,b2,b3,b4⟩,p0,p1,p2⟩:=HBX.out _ HB2.out
  go_wp2_with fail
  refine(HM1.out w2 HW2.out).mono ?_
  rintro r w3 ⟨⟨y,rfl,hN3⟩,hb3⟩
  have HB3:Hid (Below W1.heap.size W1 w3):=HB2.out.trans (hb3.mono HB2.out.size)
  have HW3:Hid (Below w.heap.size w w3):=HW2.out.trans (hb3.mono HW2.out.size)
  have HY3:=Lib.hid hN3
  clear hb3 hN3 b0 b1 b2 b3 b4 p0 p1 p2
  go_upto_region 4 with fail
  generalize hW4:w3.alloc (.cells #[.string dm.name,.slice y.ai dm.inputs.length y.ci,.slice y.aw dm.wires.length y.cw,.slice y.ar dm.regs.length y.cr,.slice y.ao dm.outputs.length y.co] 27)=W4
  have hz4:w3.heap.size+1≤W4.heap.size:=by rw[← hW4];simp
  have HB34:Hid (Below w3.heap.size w3 W4):=by show Below _ _ _;rw[← hW4];exact belr
  have HX4:Hid (W4.heap[w3.heap.size]? = some (.cells #[.string dm.name,.slice y.ai dm.inputs.length y.ci,.slice y.aw dm.wires.length y.cw,.slice y.ar dm.regs.length y.cr,.slice y.ao dm.outputs.length y.co] 27 (0,0))):=by
   show _=_;rw[← hW4]
   exact hx_new rfl
  clear hW4
  have HB4:Hid (Below W1.heap.size W1 W4):=HB3.out.trans (HB34.out.mono HB3.out.size)
  have HW4:Hid (Below w.heap.size w W4):=HW3.out.trans (HB34.out.mono HW3.out.size)
  obtain⟨⟨b0,b1,b2,b3,b4⟩,p0,p1,p2⟩:=HBX.out _ HB4.out
  go_wp2_with fail
  refine(HM2.out W4 HW4.out).mono ?_
  rintro r w5 ⟨⟨z,rfl,hZ5⟩,hb5⟩
  have HW5:Hid (Below w.heap.size w w5):=HW4.out.trans (hb5.mono HW4.out.size)
  have HX5:=Lib.hid (hx_below hb5 HX4.out)
  have HY5:=Lib.hid ((HY3.out.below HB34.out).below hb5)
  have HZ5:=Lib.hid hZ5
  clear hb5 hZ5 b0 b1 b2 b3 b4 p0 p1 p2
  go_upto_region 5 with fail
  generalize hW6:w5.alloc (.cells #[.string dm.name,.slice z.ai dm.inputs.length z.ci,.slice z.aw dm.wires.length z.cw,.slice z.ar dm.regs.length z.cr,.slice z.ao dm.outputs.length z.co] 27)=W6
  have HB56:Hid (Below w5.heap.size w5 W6):=by show Below _ _ _;rw[← hW6];exact belr
  have HX6:Hid (W6.heap[w5.heap.size]? = some (.cells #[.string dm.name,.slice z.ai dm.inputs.length z.ci,.slice z.aw dm.wires.length z.cw,.slice z.ar dm.regs.length z.cr,.slice z.ao dm.outputs.length z.co] 27 (0,0))):=by
   show _=_;rw[← hW6]
   exact hx_new rfl
  clear hW6
  have HW6:Hid (Below w.heap.size w W6):=HW5.out.trans (HB56.out.mono HW5.out.size)
  have HEq6:=Lib.hid (HEq.out dm y z W6 (HY5.out.below HB56.out) (HZ5.out.below HB56.out))
  obtain⟨s0,s1,s2,s3,s4,_⟩:=cell5 (hx_below HB56.out HX5.out)
  obtain⟨q0,q1,q2,q3,q4,_⟩:=cell5 HX6.out
  rw[show pB True=true from pB_true trivial] at HEq6
  simp only[desVal,desVals] at HEq6
  go_wp2_with fail
  refine HEq6.out.mono ?_
  rintro r w7 ⟨rfl,hb7⟩
  have HW7:Hid (Below w.heap.size w w7):=HW6.out.trans (hb7.mono HW6.out.size)
  clear hb7
  go_wp2_with fail
  refine(HAw.out w7 HW7.out).mono ?_
  rintro r w8 ⟨rfl,hb8⟩
  have HW8:Hid (Below w.heap.size w w8):=HW7.out.trans (hb8.mono HW7.out.size)
  clear hb8
  go_wp2_with fail
  go_ret
  exact⟨rfl,HW8.out⟩
theorem MutateInjects_any (d:DesD) (x:DesA) (nm:ByteArray) (cyc bit:Int) (w:World) (hE:DesIn w d x) (hs:DesSmall d) (hG:Glob w) (hT:Lib.TabIs Tryz.prog w "internal/strconv.uint64pow10" .u64 Lib.pow10Tab) :
  Calls Tryz.prog 7 #[desVal d x,.agg #[.string nm,.int .i64 cyc,.int .i64 bit]] w fun e w'=>e=.returned (.bool true)∧Below w.heap.size w w':=MutateInjects_of d x nm cyc bit w hE hs hG (fmC_of hT) (awC_of hG hT)
end Go.Proofs.YtebneadheaefdaaGreatDoor
