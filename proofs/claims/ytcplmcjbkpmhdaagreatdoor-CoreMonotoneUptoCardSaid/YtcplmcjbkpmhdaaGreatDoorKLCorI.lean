/- law25: CoreMonotone. -/
import Derived.Test.YtcplmcjbkpmhdaaGreatDoorGN
import Derived.Test.YtcplmcjbkpmhdaaGreatDoorGL
import Derived.Test.YtcplmcjbkpmhdaaGreatDoorGA
import Derived.Deep.RegionLawGrows
set_option linter.unusedSimpArgs false
set_option linter.unusedVariables false
set_option linter.unnecessarySimpa false
namespace Go.Proofs.YtcplmcjbkpmhdaaGreatDoor
open Go.RowKit
attribute [local go_sem ↓] Go.wp_at_zero Go.wp_at_succ
theorem inRange_append (n:Nat) (a b:List Int):inRange n (a++b)=(inRange n a && inRange n b):=by unfold inRange;rw[List.all_append]
theorem ctrE_zero {p:ProbD} {l:List Int}:ctrE p l=0↔pB (ProbOk p)=true∧inRange p.hard.length l=true:=by
 unfold ctrE
 split
 ·next h =>
  split
  ·next h2=>simp[h,h2]
  ·next h2=>simp[h2]
 ·next h=>simp[h]
theorem ctrE_right {p:ProbD} {a b:List Int} (h:ctrE p (a++b)=0):ctrE p b=0:=by
 rw[ctrE_zero] at h⊢
 rw[inRange_append,Bool.and_eq_true] at h
 exact⟨h.1,h.2.2⟩
theorem selN_twice (n:Nat) (a:List Int):selN n (a++a)=selN n a:=by
 unfold selN
 congr 1
 funext i
 simp[List.contains_eq_mem]
theorem ctr_twice (p:ProbD) (a:List Int):ctrE p (a++a)=ctrE p a∧ctrV p (a++a)=ctrV p a:=by
 unfold ctrE ctrV
 rw[inRange_append,Bool.and_self,selN_twice]
 exact⟨rfl,rfl⟩
theorem ctrV_mono {p:ProbD} {a b:List Int} (h:ctrE p (a++b)=0) (hb:ctrV p b=true):ctrV p (a++b)=true:=by
 have h2:=ctrE_right h
 rw[ctrE_zero] at h h2
 unfold ctrV at hb⊢
 rw[if_pos h2.1,if_pos h2.2] at hb
 rw[if_pos h.1,if_pos h.2]
 refine conT_mem (fun i hi=>?_) hb
 have:=selN_mem.1 hi
 exact selN_mem.2 ⟨this.1,List.mem_append_right _ this.2⟩
theorem own_stepIs {ops:Array Oper} {o:Oper} {a:Act} {K:Act→World→Prop} {Q:Exit→Act→World→Prop} {E:Prop} (w:World) (hgd:o.guard=none) (s x:Operand)
  (ho:o.op=.call { callee:=.builtin .append,args:=#[s,x],argTypes:=#[30, 30] })
  (base:Nat) (v:Value) (n:Nat) (xs:List Value) (hs:a.eval s=v) (hown:w.ownsRow base 3 1 v n xs)
  (l:List Int) (ad:Option Addr) (c:Nat) (w0:World) (hE:IntsIn w0 l ad c) (hk:∀ a v,w0.cell? a=some v→w.cell? a=some v) (hx:a.eval x=.slice ad l.length c) (hn:n+l.length≤4294967296) (hbase:base≤w.heap.size)
  (h:∀ v' w',w'.ownsRow base 3 1 v' (n+l.length) (xs++l.map (Value.int .i64))→w.grownBy w' v.ownBlock→K (a.put o.dst v') w'):if Region.wanted o (yielded ops a.tmps)=true then Oper.wp Tryz.prog o a w K Q else E:=by
 have hw:Region.wanted o (yielded ops a.tmps)=true:=by simp[Region.wanted,hgd]
 rw[if_pos hw]
 rcases hE.2.2 with h0 | ⟨b,off,rfl,hc⟩
 ·obtain rfl:l=[]:=List.eq_nil_of_length_eq_zero h0
  cases ad with
  | none =>
   obtain⟨ht,i,z,bytes,hi,hz,hsz,hby,hzs,h0,hb⟩:=elemI
   refine Lib.wp_append_run w s x 30 30 ho v (.slice none 0 c) hs hx v w (run_append_none' w base 30 o.type 3 i 1 ht hi v n c xs hown) ?_
   exact h v w (by simpa using hown) (World.grownBy.refl _ _)
  | some ad =>
   obtain⟨ht,i,z,bytes,hi,hz,hsz,hby,hzs,h0,hb⟩:=elemI
   refine wp_append_own w s x 30 ho base 3 i z 1 bytes ht hi hz hsz hby hzs h0 v n xs hs hown ad 0 c [] hx rfl (fun j u hj=>by simp at hj) (fun u hu=>by cases hu) (by unfold maxLen;simp at hn;omega) ?_ hbase (fun v' w' h2 h3 _=>h v' w' h2 h3)
   calc (n+0) * bytes≤4294967296 * 1024:=Nat.mul_le_mul (by simp at hn;omega) hb
    _≤_:=by decide
 ·obtain⟨ht,i,z,bytes,hi,hz,hsz,hby,hzs,h0,hb⟩:=elemI
  refine wp_append_own w s x 30 ho base 3 i z 1 bytes ht hi hz hsz hby hzs h0 v n xs hs hown ⟨b,off,none⟩ l.length c (l.map (Value.int .i64)) hx (by rw[List.length_map,Nat.mul_one]) (fun j u hu=>?_) (fun u hu=>?_) (by unfold maxLen;omega) ?_ hbase (fun v' w' h2 h3 _=>h v' w' h2 h3)
  ·have hadd:((⟨b,off,none⟩:Addr).add j)=⟨b,off+j,none⟩:=by
    unfold Addr.add;split<;>simp_all
   rw[hadd]
   rw[List.getElem?_map] at hu
   obtain⟨n0,hn0,rfl⟩:=Option.map_eq_some_iff.1 hu
   obtain⟨hj,rfl⟩:=List.getElem?_eq_some_iff.1 hn0
   obtain⟨n1,e1,e2⟩:=hc j hj
   rw[List.getElem?_eq_getElem hj] at e1
   obtain rfl:=Option.some.inj e1
   rw[Nat.mul_one] at e2
   exact hk _ _ e2
  ·obtain⟨n0,_,rfl⟩:=List.mem_map.1 hu
   rfl
  ·calc (n+l.length) * bytes≤4294967296 * 1024:=Nat.mul_le_mul (by omega) hb
    _≤_:=by decide
theorem made_at {w:World} {B:Nat} (hz:B≤w.heap.size):(w.alloc (.cells #[] 3)).ownsRow B 3 1 (.slice (some ⟨w.heap.size,0,none⟩) 0 0) 0 []:=World.ownsRow_made (e:=3) (size:=1) w #[] 0 hz (Nat.zero_le _) rfl
theorem own_two {W:World} {B:Nat} {v:Value} {l m:List Int} (h:W.ownsRow B 3 1 v (l.length+m.length) (l.map (Value.int .i64)++m.map (Value.int .i64))) (hn:l.length+m.length≤1000):∃ a c,v=.slice a (l.length+m.length) c∧IntsIn W (l++m) a c:=by
 obtain⟨a,c,hv,hI⟩:=ints_of_own (l:=l++m) (by rw[List.length_append,List.map_append];exact h) (by rw[List.length_append];omega)
 rw[List.length_append] at hv
 exact⟨a,c,hv,hI⟩
set_option maxRecDepth 100000 in
set_option maxHeartbeats 16000000 in
theorem CoreMonotone_any (p:ProbD) (x:ProbA) (l:List Int) (al:Option Addr) (cl:Nat) (m:List Int) (am:Option Addr) (cm:Nat) (w:World) (hE:ProbIn w p x) (hs:ProbSmall p) (hd:p.dists.length≤1048576) (hI:IntsIn w l al cl) (hJ:IntsIn w m am cm) (hG:Glob w) :
  Calls Tryz.prog 10 #[probVal p x,.slice al l.length cl,.slice am m.length cm] w fun e w'=>e=.returned (.bool true)∧Below w.heap.size w w':=by
 have HSm0:=Lib.hid (fun W (hW:Below w.heap.size w W)=>small25_any p x W (hE.below hW) hs)
 have HC0:=Lib.hid (fun (h:p.hard.length≤7∧(ProbOk p→bitsTo p.vars p.vars.length≤10)) (s:List Int) a c W (hW:Below w.heap.size w W) (hI:IntsIn W s a c)=>Contradict_any p x s a c W (hE.below hW) hs (hG.below hW) h.2 hd h.1 hI)
 have HAw:=Lib.hid (fun W (hW:Below w.heap.size w W)=>awake25_any W (hG.below hW))
 have hl1:=hI.2.1
 have hl2:=hJ.2.1
 have hcl:=hI.1
 have hcm:=hJ.1
 obtain⟨j,hj⟩:∃ j,j=min l.length 8:=⟨_,rfl⟩
 obtain⟨k,hk⟩:∃ k,k=min m.length 8:=⟨_,rfl⟩
 have HI:=Lib.hid (hI.takeI j cl (by omega))
 have HJ:=Lib.hid (hJ.takeI k cm (by omega))
 have hL:(l.take j).length=j:=by rw[List.length_take];omega
 have hM:(m.take k).length=k:=by rw[List.length_take];omega
 have hj8:j≤8:=by omega
 have hk8:k≤8:=by omega
 have hm1:min (l.length:Int) 8=(j:Int):=by rw[hj];omega
 have hm2:min (m.length:Int) 8=(k:Int):=by rw[hk];omega
 have hjl:j≤l.length:=by omega
 have hkm:k≤m.length:=by omega
 have hjc:(j:Int)≤(cl:Int):=by omega
 have hkc:(k:Int)≤(cm:Int):=by omega
 have hj0:(0:Int)≤(j:Int):=by omega
 have hk0:(0:Int)≤(k:Int):=by omega
 generalize l.take j=L8 at HI hL
 generalize m.take k=M8 at HJ hM
 have HTw:Hid (ctrE p ((M8++L8)++(M8++L8))=ctrE p (M8++L8)∧ctrV p ((M8++L8)++(M8++L8))=ctrV p (M8++L8)):=ctr_twice p (M8++L8)
 have HRi:Hid (ctrE p (M8++L8)=0→ctrE p L8=0):=ctrE_right
 have HMo:Hid (ctrE p (M8++L8)=0→ctrV p L8=true→ctrV p (M8++L8)=true):=fun h=>ctrV_mono h
 generalize ctrV p=V at HC0 HTw HMo
 generalize ctrE p=E at HC0 HTw HRi HMo
 clear hE hs hG hd hI hJ hj hk
 subst hL hM
 simp only[probVal_eq] at HSm0 HC0⊢
 obtain⟨vs,hard,soft,ds,gs⟩:=p
 obtain⟨av,cv,ah,ch,ao,co,ad,cd,ag,cg⟩:=x
 simp only at HSm0 HC0⊢
 have HSm:=Lib.hid (HSm0.out (w.alloc (.cells #[.slice av vs.length cv,.slice ah hard.length ch,.slice ao soft.length co,.slice ad ds.length cd,.slice ag gs.length cg] 27)) ((Below.refl _ _).alloc (Nat.le_refl _) _))
 clear HSm0
 go_enter Tryz.func10, Tryz.ntmps10
 go_wp2_with fail
 refine HSm.out.mono ?_
 rintro e w1 ⟨⟨b,rfl,hbf⟩,hb1⟩
 simp only[World.size_alloc] at hb1
 have HB1:=Lib.hid hb1
 have hz1:=hb1.size
 simp only[World.size_alloc] at hz1
 clear hb1
 cases b
 ·clear hbf
  go_wp2_with fail
  refine(HAw.out w1 (boxW _ HB1.out)).mono ?_
  rintro e w2 ⟨rfl,hb2⟩
  have HB2:Hid (Below w.heap.size w w2):=(boxW _ HB1.out).trans (hb2.mono (boxW _ HB1.out).size)
  clear hb2
  go_wp2_with fail
  go_ret
  exact⟨rfl,HB2.out⟩
 ·have HFo:=Lib.hid (hbf rfl)
  have HC:=Lib.hid (HC0.out HFo.out)
  clear hbf HFo HC0
  go_wp2_with fail
  (refine wp_region_grow (B:=w1.heap.size) (w0:=w1) (by kernel_rfl) (by kernel_rfl) bel ?_;(repeat (go_big_quiet_step (fail)));refine wpQuiet_nil ?_;intro wg hCg;have hbg:=grow_out hCg;clear hCg)
  have HB2:=Lib.hid (HB1.out.trans (hbg.mono hz1))
  have hz2:=HB2.out.size
  simp only[World.size_alloc] at hz2
  clear hbg
  ((try clear b0 b1 b2 b3 b4);have b0:=box_cell HB2.out 0;have b1:=box_cell HB2.out 1;have b2:=box_cell HB2.out 2;have b3:=box_cell HB2.out 3;have b4:=box_cell HB2.out 4;(try simp at b0 b1 b2 b3 b4))
  go_wp2_with fail
  refine(HC.out L8 al cl wg (boxW _ HB2.out) (HI.out.keep (keeps_of_below (boxW _ HB2.out)))).mono ?_
  rintro e w3 ⟨rfl,hb3⟩
  have HB3:=Lib.hid (HB2.out.trans (hb3.mono hz2))
  have hz3:=HB3.out.size
  simp only[World.size_alloc] at hz3
  clear hb3 b0 b1 b2 b3 b4
  have HOm:Hid ((w3.alloc (.cells #[] 3)).ownsRow (w.heap.size+1) 3 1 (.slice (some ⟨w3.heap.size,0,none⟩) 0 0) 0 []):=World.ownsRow_made (e:=3) (size:=1) w3 #[] 0 hz3 (Nat.zero_le _) rfl
  have HBm:Hid (Below (w.heap.size+1) (w.alloc (.cells #[.slice av vs.length cv,.slice ah hard.length ch,.slice ao soft.length co,.slice ad ds.length cd,.slice ag gs.length cg] 27)) (w3.alloc (.cells #[] 3))):=HB3.out.alloc hz3 _
  go_wp2_with (at_builtin;go_must (refine own_intsI _ rfl (.tmp 34) (.tmp 35) rfl (w.heap.size+1) _ 0 [] rfl HOm.out M8 am cm w HJ.out (keeps_of_below (boxW _ HBm.out)) rfl (by omega) (by simp;omega) ?_))
  intro v4 w4 hown4 hg4
  have HB4:=Lib.hid (HBm.out.grown hg4 (by have:=HBm.out.size;simpa using this) (fun q hq=>(HOm.out.lt q hq).1))
  have HO4:Hid (w4.ownsRow (w.heap.size+1) 3 1 v4 M8.length (M8.map (Value.int .i64))):=Lib.hid (by simpa using hown4)
  have hz4:=HB4.out.size
  simp only[World.size_alloc] at hz4
  clear hown4 hg4 HOm HBm
  obtain⟨a4,c4,rfl,-⟩:=ints_of_own HO4.out (by omega)
  go_wp2_with (at_builtin;go_must (refine own_intsI _ rfl (.tmp 36) (.tmp 37) rfl (w.heap.size+1) _ M8.length _ rfl HO4.out L8 al cl w HI.out (keeps_of_below (boxW _ HB4.out)) rfl (by omega) (by omega) ?_))
  intro v5 w5 hown5 hg5
  have HB5:=Lib.hid (HB4.out.grown hg5 (by have:=HB4.out.size;simpa using this) (fun q hq=>(HO4.out.lt q hq).1))
  have HO5:Hid (w5.ownsRow (w.heap.size+1) 3 1 v5 (M8++L8).length ((M8++L8).map (Value.int .i64))):=Lib.hid (by rw[List.length_append,List.map_append];exact hown5)
  have hz5:=HB5.out.size
  simp only[World.size_alloc] at hz5
  have hbl:(M8++L8).length≤16:=by rw[List.length_append];omega
  clear hown5 hg5 HO4
  generalize M8++L8=BT at *
  obtain⟨a5,c5,rfl,hI5⟩:=ints_of_own HO5.out (by omega)
  have HI5:=Lib.hid hI5
  clear hI5
  ((try clear b0 b1 b2 b3 b4);have b0:=box_cell HB5.out 0;have b1:=box_cell HB5.out 1;have b2:=box_cell HB5.out 2;have b3:=box_cell HB5.out 3;have b4:=box_cell HB5.out 4;(try simp at b0 b1 b2 b3 b4))
  go_wp2_with fail
  refine(HC.out BT a5 c5 w5 (boxW _ HB5.out) HI5.out).mono ?_
  rintro e w6 ⟨rfl,hb6⟩
  have HB6:=Lib.hid (HB5.out.trans (hb6.mono hz5))
  have HI6:=Lib.hid (HI5.out.keep (keeps_of_below hb6))
  have hz6:=HB6.out.size
  simp only[World.size_alloc] at hz6
  clear hb6 b0 b1 b2 b3 b4 HO5 HI5
  ((try clear b0 b1 b2 b3 b4);have b0:=box_cell HB6.out 0;have b1:=box_cell HB6.out 1;have b2:=box_cell HB6.out 2;have b3:=box_cell HB6.out 3;have b4:=box_cell HB6.out 4;(try simp at b0 b1 b2 b3 b4))
  have HALL:Hid (∀ W,Below (w.heap.size+1) (w.alloc (.cells #[.slice av vs.length cv,.slice ah hard.length ch,.slice ao soft.length co,.slice ad ds.length cd,.slice ag gs.length cg] 27)) W→W.cell? ⟨w.heap.size,0,none⟩=some (.slice av vs.length cv)∧W.cell? ⟨w.heap.size,1,none⟩=some (.slice ah hard.length ch)∧W.cell? ⟨w.heap.size,2,none⟩=some (.slice ao soft.length co)∧W.cell? ⟨w.heap.size,3,none⟩=some (.slice ad ds.length cd)∧W.cell? ⟨w.heap.size,4,none⟩=some (.slice ag gs.length cg)):=fun W hW=>by
   have k:=box_cell hW
   have k0:=k 0
   have k1:=k 1
   have k2:=k 2
   have k3:=k 3
   have k4:=k 4
   simp at k0 k1 k2 k3 k4
   exact⟨k0,k1,k2,k3,k4⟩
  have HCb:Hid (∀ a c W,Below (w.heap.size+1) (w.alloc (.cells #[.slice av vs.length cv,.slice ah hard.length ch,.slice ao soft.length co,.slice ad ds.length cd,.slice ag gs.length cg] 27)) W→IntsIn W (BT++BT) a c→Calls Tryz.prog 35 #[.agg #[.slice av vs.length cv,.slice ah hard.length ch,.slice ao soft.length co,.slice ad ds.length cd,.slice ag gs.length cg],.slice a (BT.length+BT.length) c] W fun e w'=>e=.returned (.tuple #[.bool (V BT),.int .i64 (E BT)])∧Below W.heap.size W w'∧Below (w.heap.size+1) (w.alloc (.cells #[.slice av vs.length cv,.slice ah hard.length ch,.slice ao soft.length co,.slice ad ds.length cd,.slice ag gs.length cg] 27)) w'):=fun a c W hW hI=>by
   have h9:=HC.out (BT++BT) a c W (boxW _ hW) hI
   rw[List.length_append,HTw.out.1,HTw.out.2] at h9
   exact h9.mono fun e w' h=>⟨h.1,h.2,hW.trans (h.2.mono (by have:=hW.size;simpa using this))⟩
  have hB6:=HB6.out
  have hs6:Below w6.heap.size w6 w6:=Below.refl _ _
  have hbX:Below w6.heap.size w6 (w6.alloc (.cells #[] 3)).drew:=Below.drew ((Below.refl _ _).alloc (Nat.le_refl _) _)
  have HbX:Hid (Below (w.heap.size+1) (w.alloc (.cells #[.slice av vs.length cv,.slice ah hard.length ch,.slice ao soft.length co,.slice ad ds.length cd,.slice ag gs.length cg] 27)) (w6.alloc (.cells #[] 3)).drew):=HB6.out.trans (hbX.mono (by have:=HB6.out.size;simpa using this))
  have Hm6:Hid ((w6.alloc (.cells #[] 3)).drew.ownsRow (w.heap.size+1) 3 1 (.slice (some ⟨w6.heap.size,0,none⟩) 0 0) 0 []):=ownsRow_below (made_at hz6) (Below.drew (Below.refl _ _))
  have hk6:=keeps_of_below hbX
  have HbXs:=Lib.hid hbX
  have HszX:Hid (w.heap.size+1≤(w6.alloc (.cells #[] 3)).drew.heap.size):=Nat.le_trans hz6 hbX.size
  clear hbX
  have A0:∀ o,(w6.alloc o).cell? ⟨w.heap.size,0,none⟩=some (.slice av vs.length cv):=fun o=>(HALL.out _ (HB6.out.alloc hz6 o)).1
  have A1:∀ o,(w6.alloc o).cell? ⟨w.heap.size,1,none⟩=some (.slice ah hard.length ch):=fun o=>(HALL.out _ (HB6.out.alloc hz6 o)).2.1
  have A2:∀ o,(w6.alloc o).cell? ⟨w.heap.size,2,none⟩=some (.slice ao soft.length co):=fun o=>(HALL.out _ (HB6.out.alloc hz6 o)).2.2.1
  have A3:∀ o,(w6.alloc o).cell? ⟨w.heap.size,3,none⟩=some (.slice ad ds.length cd):=fun o=>(HALL.out _ (HB6.out.alloc hz6 o)).2.2.2.1
  have A4:∀ o,(w6.alloc o).cell? ⟨w.heap.size,4,none⟩=some (.slice ag gs.length cg):=fun o=>(HALL.out _ (HB6.out.alloc hz6 o)).2.2.2.2
  go_wp2_with fail
  go_region_law (first
    | (refine own_stepIs _ (by rfl) _ _ (by rfl) (w.heap.size+1) _ BT.length _ (by rfl) hown7' BT a5 c5 w6 HI6.out (fun p v h=>keeps_of_below hs7 p v h) (by rfl) (by omega) (by have:=hB7.size;simpa using this) ?_;intro v8 w8 hown8 hg8;have hB8:Below (w.heap.size+1) (w.alloc (.cells #[.slice av vs.length cv,.slice ah hard.length ch,.slice ao soft.length co,.slice ad ds.length cd,.slice ag gs.length cg] 27)) w8:=Below.grown hB7 hg8 (by have:=hB7.size;simpa using this) (fun q hq=>(hown7'.lt q hq).1);obtain⟨a8,c8,hv8,hI8⟩:=own_two hown8 (by omega);subst hv8;obtain⟨e0,e1,e2,e3,e4⟩:=HALL.out _ hB8)
    | (refine own_stepIs _ (by rfl) _ _ (by rfl) (w.heap.size+1) _ 0 [] (by rfl) Hm6.out BT a5 c5 w6 HI6.out hk6 (by rfl) (by omega) HszX.out ?_;intro v7 w7 hown7 hg7;obtain⟨a7,c7,hv7,-⟩:=ints_of_own (l:=BT) (by simpa using hown7) (by omega);subst hv7;have hB7:Below (w.heap.size+1) (w.alloc (.cells #[.slice av vs.length cv,.slice ah hard.length ch,.slice ao soft.length co,.slice ad ds.length cd,.slice ag gs.length cg] 27)) w7:=Below.grown HbX.out hg7 HszX.out (fun q hq=>(Hm6.out.lt q hq).1);have hs7:Below w6.heap.size w6 w7:=Below.grown HbXs.out hg7 HbXs.out.size (fun q hq=>Nat.le_of_eq (Option.some.inj hq));have hown7':w7.ownsRow (w.heap.size+1) 3 1 (.slice a7 BT.length c7) BT.length (BT.map (Value.int .i64)):=(by simpa using hown7);obtain⟨e0,e1,e2,e3,e4⟩:=HALL.out _ hB7)
    | (go_simp;go_at_call 35;(with_reducible refine(HCb.out _ _ _ (by first | with_reducible assumption | exact bel) (by first | exact hI8 | exact hI8.keep (fun _ _ h=>h))).mono ?_);rintro e w9 ⟨rfl,hb9,hB9⟩))
  all_goals
   have HB9:=Lib.hid (boxW _ hB9)
   clear hB9 hb9
   have hb1:(V BT != V BT)=false:=by simp
   have hb2:(E BT != E BT)=false:=by simp
   by_cases hE0:E BT=0
   ·have hE1:=HRi.out hE0
    have HM2:=Lib.hid (HMo.out hE0)
    have he0:(E BT == 0)=true:=by simp[hE0]
    have he1:(E BT != 0)=false:=by simp[hE0]
    have he2:(E L8 != 0)=false:=by simp[hE1]
    cases hV:V L8
    ·go_wp2_with fail
     refine(HAw.out w9 HB9.out).mono ?_
     rintro e wz ⟨rfl,hbz⟩
     have HBz:Hid (Below w.heap.size w wz):=HB9.out.trans (hbz.mono HB9.out.size)
     clear hbz
     go_wp2_with fail
     go_ret
     exact⟨rfl,HBz.out⟩
    ·have hV2:=HM2.out hV
     go_wp2_with fail
     refine(HAw.out w9 HB9.out).mono ?_
     rintro e wz ⟨rfl,hbz⟩
     have HBz:Hid (Below w.heap.size w wz):=HB9.out.trans (hbz.mono HB9.out.size)
     clear hbz
     go_wp2_with fail
     go_ret
     exact⟨rfl,HBz.out⟩
   ·have he0:(E BT == 0)=false:=by simp[hE0]
    have he1:(E BT != 0)=true:=by simp[hE0]
    go_wp2_with fail
    refine(HAw.out w9 HB9.out).mono ?_
    rintro e wz ⟨rfl,hbz⟩
    have HBz:Hid (Below w.heap.size w wz):=HB9.out.trans (hbz.mono HB9.out.size)
    clear hbz
    go_wp2_with fail
    go_ret
    exact⟨rfl,HBz.out⟩
end Go.Proofs.YtcplmcjbkpmhdaaGreatDoor
