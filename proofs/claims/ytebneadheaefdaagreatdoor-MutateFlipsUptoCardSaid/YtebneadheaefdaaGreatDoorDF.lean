/- Words cut to a width: word.Mask, word.Fits, sim.cut and those of the reference. -/
import Derived.Test.YtebneadheaefdaaGreatDoorDC
import Derived.Test.YtebneadheaefdaaGreatDoorKD
import Derived.Test.YtebneadheaefdaaGreatDoorDE
set_option linter.unusedSimpArgs false
set_option linter.unusedVariables false
set_option linter.unnecessarySimpa false
namespace Go.Proofs.YtebneadheaefdaaGreatDoor
open Go.RowKit
attribute [local go_sem ↓] Go.wp_at_zero Go.wp_at_succ
theorem and_mask {x:Int} (h0:0≤x) (h1:x < 65536) (k:Nat) (hk:k≤16):bits .and .i64 x (2 ^ k - 1)=x % 2 ^ k:=by
 obtain⟨n,rfl⟩:=Int.eq_ofNat_of_zero_le h0
 have hp:(2:Nat) ^ k≤65536:=Nat.le_trans (Nat.pow_le_pow_right (by decide) hk) (by decide)
 have hp0:0 < (2:Nat) ^ k:=Nat.pow_pos (by decide)
 have hm:((2:Int) ^ k - 1)=((2 ^ k - 1:Nat):Int):=by
  rw[Int.natCast_sub hp0];simp
 have e1:bits .and .i64 (n:Int) ((2 ^ k - 1:Nat):Int)=IntKind.i64.wrap ((BitVec.ofInt 64 (n:Int) &&& BitVec.ofInt 64 ((2 ^ k - 1:Nat):Int)).toNat:Int):=rfl
 rw[hm,e1,BitVec.toNat_and,BitVec.toNat_ofInt,BitVec.toNat_ofInt]
 have e2:((n:Int) % ((2 ^ 64:Nat):Int)).toNat=n:=by
  have h64:((2 ^ 64:Nat):Int)=18446744073709551616:=by decide
  rw[h64];omega
 have e3:(((2 ^ k - 1:Nat):Int) % ((2 ^ 64:Nat):Int)).toNat=2 ^ k - 1:=by
  have h64:((2 ^ 64:Nat):Int)=18446744073709551616:=by decide
  rw[h64];omega
 rw[e2,e3,Nat.and_two_pow_sub_one_eq_mod,IntKind.wrap_i64]
 have h3:n % 2 ^ k < 2 ^ k:=Nat.mod_lt _ hp0
 have h4:(n:Int) % 2 ^ k=((n % 2 ^ k:Nat):Int):=by
  rw[Int.natCast_emod];simp
 rw[h4]
 omega
theorem pow_small {k:Nat} (hk:k≤16):(1:Int)≤2 ^ k∧(2:Int) ^ k≤65536:=by
 have hp:(2:Nat) ^ k≤65536:=Nat.le_trans (Nat.pow_le_pow_right (by decide) hk) (by decide)
 have hp0:0 < (2:Nat) ^ k:=Nat.pow_pos (by decide)
 have:((2 ^ k:Nat):Int)=2 ^ k:=by simp
 omega
theorem wrapW_lo (n:Int):0≤wrapW n:=by unfold wrapW;omega
theorem wrapW_hi (n:Int):wrapW n < 65536:=by unfold wrapW;omega
theorem Mask_any (n:Nat) (hn:n≤16) (w:World):Calls Tryz.prog 159 #[.int .i64 n] w fun e w'=>e=.returned (.int .i64 (2 ^ n - 1))∧w=w':=by
 obtain⟨h1,h2⟩:=pow_small hn
 have hw:IntKind.i64.wrap (2 ^ n)=(2:Int) ^ n:=by rw[IntKind.wrap_i64];omega
 have hw':IntKind.i64.wrap ((2:Int) ^ n - 1)=(2:Int) ^ n - 1:=by rw[IntKind.wrap_i64];omega
 have hmin:min n 64=n:=by omega
 have HPw:=Lib.hid (power_any n hn)
 go_enter Tryz.func159, Tryz.ntmps159
 go_wp2_with (go_at_call 166;refine(HPw.out _).mono ?_;rintro e w' ⟨rfl,rfl⟩)
 go_ret
 refine⟨?_,rfl⟩
 first
  | rfl
  | (congr 2;done)
  | (congr 2;simp[hmin,hw,hw'])
theorem cut_any (a:Int) (n:Nat) (hn:n≤16) (w:World):Calls Tryz.prog 99 #[.int .i64 a,.int .i64 n] w fun e w'=>e=.returned (.int .i64 (cutW a n))∧w=w':=by
 have HM:=Lib.hid (Mask_any n hn)
 have HE:Hid (cutW a n=bits .and .i64 (wrapW a) (2 ^ n - 1)):=by show _=_;rw[and_mask (wrapW_lo a) (wrapW_hi a) n hn];rfl
 go_enter Tryz.func99, Tryz.ntmps99
 go_wp2_with (first | (go_at_call 158;refine(WWrap_any _ _).mono ?_;rintro e w' ⟨rfl,rfl⟩) | (go_at_call 159;refine(HM.out _).mono ?_;rintro e w' ⟨rfl,rfl⟩))
 go_ret
 exact⟨by rw[HE.out];rfl,rfl⟩
end Go.Proofs.YtebneadheaefdaaGreatDoor
namespace Go.Proofs.YtebneadheaefdaaGreatDoor
open Go.RowKit
attribute [local go_sem ↓] Go.wp_at_zero Go.wp_at_succ
theorem sig1_any (s:ByteArray) (w:World) (hs:s.size≤1073741824) (hG:Glob w) :
  Calls Tryz.prog 127 #[.string s] w fun e w'=>e=.returned (.bool (!nameB s.data.toList))∧Below w.heap.size w w':=by
 have HC:=Lib.hid (isName_any s w hs hG)
 clear hG
 generalize nameB s.data.toList=b at HC⊢
 go_enter Tryz.func127, Tryz.ntmps127
 go_wp2_with fail
 refine HC.out.mono ?_
 rintro e w1 ⟨rfl,hb⟩
 have HB:=Lib.hid hb
 clear hb
 cases b
 ·go_wp2_with fail
  go_ret
  exact⟨rfl,HB.out⟩
 ·go_wp2_with fail
  go_ret
  exact⟨rfl,HB.out⟩
def wideB (n:Int):Bool:=decide (n < 1∨n > 16)
theorem sig2_any (n:Int) (w:World) :
  Calls Tryz.prog 133 #[.int .i64 n] w fun e w'=>e=.returned (.bool (wideB n))∧Below w.heap.size w w':=by
 by_cases h:n < 1
 ·have hw:Hid (wideB n=true):=decide_eq_true (Or.inl h)
  go_enter Tryz.func133, Tryz.ntmps133
  go_wp2_with fail
  go_ret
  exact⟨by rw[hw.out];rfl,Below.refl _ _⟩
 ·by_cases h2:n > 16
  ·have hw:Hid (wideB n=true):=decide_eq_true (Or.inr h2)
   have h2':(16:Int) < n:=h2
   go_enter Tryz.func133, Tryz.ntmps133
   go_wp2_with fail
   go_ret
   exact⟨by rw[hw.out];rfl,Below.refl _ _⟩
  ·have hw:Hid (wideB n=false):=decide_eq_false (by omega)
   have h2':¬ (16:Int) < n:=h2
   go_enter Tryz.func133, Tryz.ntmps133
   go_wp2_with fail
   go_ret
   exact⟨by rw[hw.out];rfl,Below.refl _ _⟩
def initB (r:RegD):Bool:=decide (r.init < 0∨r.init≥2 ^ r.width.toNat)
set_option maxRecDepth 100000 in
set_option maxHeartbeats 1000000 in
theorem sig3_any (r:RegD) (ae:Option Addr) (ce:Nat) (w:World) (h1:1≤r.width) (h16:r.width≤16) :
  Calls Tryz.prog 135 #[.agg #[.string r.name,.int .i64 r.width,.int .i64 r.init,.int .i64 r.next.op,.int .i64 r.next.n,.string r.next.name,.slice ae r.next.args.length ce]] w fun e w'=>e=.returned (.bool (initB r))∧Below w.heap.size w w':=by
 have hw:Hid (initB r=decide (r.init < 0∨r.init≥2 ^ r.width.toNat)):=rfl
 generalize initB r=b at hw⊢
 obtain⟨nm,width,init,next⟩:=r
 simp only at h1 h16 hw⊢
 obtain⟨k,rfl⟩:=Int.eq_ofNat_of_zero_le (show 0≤width by omega)
 rw[Int.toNat_natCast] at hw
 have hk1:1≤k:=by omega
 have hk:k≤16:=by omega
 obtain⟨p1,p2⟩:=pow_small hk
 have hpw:IntKind.i64.wrap ((2:Int) ^ k)=(2:Int) ^ k:=by rw[IntKind.wrap_i64];omega
 have hmin:min k 64=k:=by omega
 have hk0:(0:Int)≤k:=by omega
 by_cases hi:init < 0
 ·have hd:decide (init < 0)=true:=decide_eq_true hi
  have hb:Hid (b=true):=by show _=_;rw[hw.out];exact decide_eq_true (Or.inl hi)
  clear hw hi
  go_enter Tryz.func135, Tryz.ntmps135
  go_wp2_with fail
  go_quiet (fail)
  go_wp2_with fail
  go_ret
  exact⟨by rw[hb.out];rfl,by exact bel⟩
 ·have hd:decide (init < 0)=false:=decide_eq_false hi
  have hb:Hid (b=decide ((2:Int) ^ k≤init)):=by
   show _=_
   rw[hw.out,Bool.eq_iff_iff,decide_eq_true_eq,decide_eq_true_eq]
   omega
  clear hw hi
  go_enter Tryz.func135, Tryz.ntmps135
  go_wp2_with fail
  go_quiet (fail)
  go_wp2_with fail
  go_ret
  refine⟨?_,by exact bel⟩
  rw[hb.out]
  simp[hmin,hpw]
def sigC (n0 n1 n2 n3 n4 n5:Bool):Int:=if !n0 || !n1 then 7 else if n2 then 2 else if n3 then 8 else if n4 then 1 else if n5 then 1 else 0
theorem sigErr_eq (d:DesD):d.sigErr=sigC (nameB d.name.data.toList) (d.names.all fun s=>nameB s.data.toList) (decide (48 < d.names.length)) (dupT d.names) (d.widths.any wideB) (d.regs.any initB):=by
 unfold DesD.sigErr sigC
 have h1:(d.widths.any fun w=>decide (w < 1∨w > 16))=d.widths.any wideB:=rfl
 have h2:(d.regs.any fun r=>decide (r.init < 0∨r.init≥2 ^ r.width.toNat))=d.regs.any initB:=rfl
 rw[h1,h2]
 generalize nameB d.name.data.toList=a
 generalize (d.names.all fun s=>nameB s.data.toList)=b
 cases a<;>cases b<;>simp
theorem any_bad (l:List ByteArray):(l.any fun s=>!nameB s.data.toList)=!(l.all fun s=>nameB s.data.toList):=by
 induction l with
 | nil=>rfl
 | cons x l ih=>simp[ih]
set_option maxRecDepth 100000 in
set_option maxHeartbeats 8000000 in
theorem signals_any (d:DesD) (x:DesA) (w:World) (hE:DesIn w d x) (hs:DesSmall d) (hG:Glob w) :
  Calls Tryz.prog 75 #[desVal d x] w fun e w'=>e=.returned (.int .i64 d.sigErr)∧Below w.heap.size w w':=by
 have hnl:d.names.length=d.inputs.length+d.wires.length+d.regs.length:=by simp[DesD.names];omega
 have hwl:d.widths.length=d.inputs.length+d.wires.length+d.regs.length:=by simp[DesD.widths];omega
 have hN:d.names.length≤3145728:=by have:=hs.len;omega
 have HN0:=Lib.hid (fun W (hW:Below w.heap.size w W)=>Names31_any d x W (hE.below hW) (by omega))
 have HW0:=Lib.hid (fun W (hW:Below w.heap.size w W)=>widths31_any d x W (hE.below hW) (by omega))
 have HI0:=Lib.hid (fun W (hW:Below w.heap.size w W)=>sig1_any d.name W hs.nm (hG.below hW))
 have HB0:=Lib.hid (fun a cap W (hW:Below w.heap.size w W) (hS:StrsIn W d.names a cap)=>containsFunc_bad (fun s=>!nameB s.data.toList) d.names a cap W hS (fun v hv w' hw'=>sig1_any v w' (hs.names v hv) ((hG.below hW).below hw')))
 have HR0:=Lib.hid (fun a cap W (hS:StrsIn W d.names a cap) (h:d.names.length≤48)=>repeated_any d.names a cap W hS hs.names (by omega))
 have HWd0:=Lib.hid (fun a cap W (hS:IntsIn W d.widths a cap)=>containsFunc_wide wideB d.widths a cap W hS (fun v hv w' hw'=>sig2_any v w'))
 have HIn0:=Lib.hid (fun W (hW:Below w.heap.size w W) (h:d.widths.any wideB=false)=>containsFunc_init initB d.regs x.ar x.cr W (hE.below hW).regs (fun v hv ae ce w' hw'=>sig3_any v ae ce w' (by
  have:=List.any_eq_false.1 h v.width (by unfold DesD.widths;exact List.mem_append_right _ (List.mem_map.2 ⟨v,hv,rfl⟩))
  simp only[wideB,decide_eq_true_eq] at this;omega) (by
  have:=List.any_eq_false.1 h v.width (by unfold DesD.widths;exact List.mem_append_right _ (List.mem_map.2 ⟨v,hv,rfl⟩))
  simp only[wideB,decide_eq_true_eq] at this;omega)))
 rw[any_bad] at HB0
 have HE:=Lib.hid (sigErr_eq d)
 generalize d.sigErr=err at HE⊢
 generalize nameB d.name.data.toList=n0 at HE HI0
 generalize (d.names.all fun s=>nameB s.data.toList)=n1 at HE HB0
 generalize dupT d.names=n3 at HE HR0
 generalize d.widths.any wideB=n4 at HE HWd0 HIn0
 generalize d.regs.any initB=n5 at HE HIn0
 generalize d.names=N at HN0 HB0 HR0 HE hN
 generalize d.widths=WD at HW0 HWd0
 clear hE hs hG hnl hwl
 obtain⟨nm,ins,wires,regs,outs⟩:=d
 obtain⟨ai,ci,aw,cw,ar,cr,ao,co⟩:=x
 simp only[desVal,desVals] at HN0 HW0 HI0 HIn0⊢
 have HN1:=Lib.hid (HN0.out (w.alloc (.cells #[.string nm,.slice ai ins.length ci,.slice aw wires.length cw,.slice ar regs.length cr,.slice ao outs.length co] 27)) ((Below.refl _ _).alloc (Nat.le_refl _) _))
 clear HN0
 go_enter Tryz.func75, Tryz.ntmps75
 go_wp2_with fail
 refine HN1.out.mono ?_
 rintro e w1 ⟨⟨a',cap',rfl,hst⟩,hb1⟩
 simp only[World.size_alloc] at hb1
 have HB:=Lib.hid hb1
 have HBw:=Lib.hid (boxW _ hb1)
 have HSt:=Lib.hid hst
 have HI1:=Lib.hid (HI0.out w1 HBw.out)
 clear hb1 hst HN1 HI0
 ((try clear b0 b1 b2 b3 b4);have b0:=box_cell HB.out 0;have b1:=box_cell HB.out 1;have b2:=box_cell HB.out 2;have b3:=box_cell HB.out 3;have b4:=box_cell HB.out 4;(try simp at b0 b1 b2 b3 b4))
 go_wp2_with fail
 refine HI1.out.mono ?_
 rintro e w2 ⟨rfl,hb2⟩
 have HB2:=Lib.hid (HB.out.trans (hb2.mono (by have:=HB.out.size;simp at this;omega)))
 have HBw2:=Lib.hid (boxW _ HB2.out)
 have HSt2:=Lib.hid (HSt.out.keep (keeps_of_below hb2))
 clear hb2 HI1 b0 b1 b2 b3 b4
 cases n0
 ·have HEr:Hid (err=7):=by show _=_;rw[HE.out];rfl
  go_wp2_with fail
  go_ret
  exact⟨by rw[HEr.out];rfl,HBw2.out⟩
 have HBd:=Lib.hid (HB0.out a' cap' w2 HBw2.out HSt2.out)
 go_wp2_with fail
 refine HBd.out.mono ?_
 rintro e w3 ⟨rfl,hb3⟩
 have HB3:=Lib.hid (HB2.out.trans (hb3.mono (by have:=HB2.out.size;simp at this;omega)))
 have HBw3:=Lib.hid (boxW _ HB3.out)
 have HSt3:=Lib.hid (HSt2.out.keep (keeps_of_below hb3))
 clear hb3 HBd HB0
 cases n1
 ·have HEr:Hid (err=7):=by show _=_;rw[HE.out];rfl
  go_wp2_with fail
  go_ret
  exact⟨by rw[HEr.out];rfl,HBw3.out⟩
 by_cases hl:48 < N.length
 ·have hd:decide ((48:Int) < (N.length:Int))=true:=by simp;omega
  have HEr:Hid (err=2):=by show _=_;rw[HE.out,decide_eq_true hl];rfl
  go_wp2_with fail
  go_ret
  exact⟨by rw[HEr.out];rfl,HBw3.out⟩
 have hd:decide ((48:Int) < (N.length:Int))=false:=by simp;omega
 have HE2:Hid (err=sigC true true false n3 n4 n5):=by show _=_;rw[HE.out,decide_eq_false hl]
 have HRp:=Lib.hid (HR0.out a' cap' w3 HSt3.out (by omega))
 clear HE HR0 hl
 go_wp2_with fail
 refine HRp.out.mono ?_
 rintro e w4 ⟨rfl,hb4⟩
 have HB4:=Lib.hid (HB3.out.trans (hb4.mono (by have:=HB3.out.size;simp at this;omega)))
 have HBw4:=Lib.hid (boxW _ HB4.out)
 clear hb4 HRp
 cases n3
 rotate_left
 ·have HEr:Hid (err=8):=by show _=_;rw[HE2.out];rfl
  go_wp2_with fail
  go_ret
  exact⟨by rw[HEr.out];rfl,HBw4.out⟩
 have HWd:=Lib.hid (HW0.out w4 HBw4.out)
 clear HW0
 ((try clear b0 b1 b2 b3 b4);have b0:=box_cell HB4.out 0;have b1:=box_cell HB4.out 1;have b2:=box_cell HB4.out 2;have b3:=box_cell HB4.out 3;have b4:=box_cell HB4.out 4;(try simp at b0 b1 b2 b3 b4))
 go_wp2_with fail
 refine HWd.out.mono ?_
 rintro e w5 ⟨⟨a5,cap5,rfl,hst5⟩,hb5⟩
 have HB5:=Lib.hid (HB4.out.trans (hb5.mono (by have:=HB4.out.size;simp at this;omega)))
 have HBw5:=Lib.hid (boxW _ HB5.out)
 have HWc:=Lib.hid (HWd0.out a5 cap5 w5 hst5)
 clear hb5 hst5 HWd HWd0 b0 b1 b2 b3 b4
 go_wp2_with fail
 refine HWc.out.mono ?_
 rintro e w6 ⟨rfl,hb6⟩
 have HB6:=Lib.hid (HB5.out.trans (hb6.mono (by have:=HB5.out.size;simp at this;omega)))
 have HBw6:=Lib.hid (boxW _ HB6.out)
 clear hb6 HWc
 cases n4
 rotate_left
 ·have HEr:Hid (err=1):=by show _=_;rw[HE2.out];rfl
  go_wp2_with fail
  go_ret
  exact⟨by rw[HEr.out];rfl,HBw6.out⟩
 have HIn:=Lib.hid (HIn0.out w6 HBw6.out rfl)
 clear HIn0
 ((try clear b0 b1 b2 b3 b4);have b0:=box_cell HB6.out 0;have b1:=box_cell HB6.out 1;have b2:=box_cell HB6.out 2;have b3:=box_cell HB6.out 3;have b4:=box_cell HB6.out 4;(try simp at b0 b1 b2 b3 b4))
 go_wp2_with fail
 refine HIn.out.mono ?_
 rintro e w7 ⟨rfl,hb7⟩
 have HBw7:=Lib.hid (HBw6.out.trans (hb7.mono HBw6.out.size))
 clear hb7 HIn b0 b1 b2 b3 b4
 cases n5
 ·have HEr:Hid (err=0):=by show _=_;rw[HE2.out];rfl
  go_wp2_with fail
  go_ret
  exact⟨by rw[HEr.out];rfl,HBw7.out⟩
 ·have HEr:Hid (err=1):=by show _=_;rw[HE2.out];rfl
  go_wp2_with fail
  go_ret
  exact⟨by rw[HEr.out];rfl,HBw7.out⟩
end Go.Proofs.YtebneadheaefdaaGreatDoor
