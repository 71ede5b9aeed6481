/- ref25: Contradict. -/
import Derived.Test.YtcplmcjbkpmhdaaGreatDoorGE
import Derived.Test.YtcplmcjbkpmhdaaGreatDoorGN
import Derived.Test.YtcplmcjbkpmhdaaGreatDoorGL
set_option linter.unusedSimpArgs false
set_option linter.unusedVariables false
set_option linter.unnecessarySimpa false
namespace Go.Proofs.YtcplmcjbkpmhdaaGreatDoor
open Go.RowKit
attribute [local go_sem ↓] Go.wp_at_zero Go.wp_at_succ
theorem inRange_at {n:Nat} {l:List Int} (h:∀ j (hj:j < l.length),0≤(l[j]'hj)∧(l[j]'hj) < (n:Int)):inRange n l=true:=by
 unfold inRange
 rw[List.all_eq_true]
 intro i hi
 obtain⟨j,hj,rfl⟩:=List.getElem_of_mem hi
 have:=h j hj
 simp only[Bool.and_eq_true,decide_eq_true_eq]
 exact this
theorem inRange_not {n:Nat} {l:List Int} {j:Nat} (hj:j < l.length) (h:(l[j]'hj) < 0∨(n:Int)≤(l[j]'hj)):inRange n l=false:=by
 cases e:inRange n l with
 | false=>rfl
 | true =>
  have:=List.all_eq_true.1 e _ (List.getElem_mem hj)
  simp only[Bool.and_eq_true,decide_eq_true_eq] at this
  omega
theorem valsB_zero (n:Nat):valsB (List.replicate n false)=List.replicate n (.bool false):=by unfold valsB;rw[List.map_replicate]
theorem make_bools {w:World} {ops:Array Oper} {rest:List Oper} {o:Oper} {a:Act} {Q:Exit→Act→World→Prop} (hg:o.guard=none) (l c:Operand) (hop:o.op=Op.makeSlice 89 l c)
  (n:Nat) (L:Int) (hl:a.eval l=.int .i64 L) (hc:a.eval c=.int .i64 L) (hL:L=(n:Int)) (hn:n≤1073741824)
  (h:wpList Tryz.prog ops Q rest (a.put o.dst (.slice (some ⟨w.heap.size,0,none⟩) n n)) (w.alloc (.cells (Array.replicate n (.bool false)) 4))):wpList Tryz.prog ops Q (o::rest) a w:=by
 subst hL
 obtain⟨i,h1,h2,h3,h4⟩:=info_parts (show (Tryz.prog.info? 4).map (fun i=>(i.zero,i.size,i.bytes))=some (some (.bool false),1,1) from by kernel_rfl)
 refine wpList_plain hg fun K hK'=>?_
 have hrun:=run_make (P:=Tryz.prog) w 89 4 i (.bool false) Tryz.underlying89 h1 h2 .i64 .i64 n n (by omega) (Int.le_refl _) (by rw[h4];omega) (by omega)
 simp only[Int.toNat_natCast,h3] at hrun
 have e:madeCells (Value.bool false).cells (n * 1)=Array.replicate n (.bool false):=by
  rw[Nat.mul_one]
  apply Array.ext'
  rw[show (Value.bool false).cells=#[.bool false] from rfl,toList_madeCells_one]
  simp
 rw[e] at hrun
 unfold Oper.wp
 simp[execOp,hop,hl,hc,hrun,Result.andThen]
 exact hK' _ _ h
set_option maxHeartbeats 8000000 in
set_option maxRecDepth 100000 in
theorem rContradict_any (p:ProbD) (x:ProbA) (l:List Int) (al:Option Addr) (cl:Nat) (w:World) (hE:ProbIn w p x) (hs:ProbSmall p) (hT:ProbOk p→bitsTo p.vars p.vars.length≤10) (hd:p.dists.length≤1048576) (hh:p.hard.length≤7) (hI:IntsIn w l al cl) :
  Calls Tryz.prog 36 #[probVal p x,.slice al l.length cl] w fun e w'=>e=.returned (.tuple #[.bool (ctrV p l),.int .i64 (ctrE p l)])∧Below w.heap.size w w':=by
 have HV0:=Lib.hid (fun W (hW:Below w.heap.size w W)=>r14Valid_any p x W (hE.keep (keeps_of_below hW)) hs)
 have hlen:=hI.2.1
 have HI:=Lib.hid hI
 by_cases hp:ProbOk p
 ·have hc:CorOk p:=⟨hp,hs,hT hp,hd,hh⟩
  have HV1:=Lib.hid (fun W hW=>errT (HV0.out W hW) hp)
  have HCo0:=Lib.hid (fun (s:List Bool) a c W (hW:Below w.heap.size w W) (hB:BoolsIn W s a c) (hl:s.length=p.hard.length)=>contradicts_any p x s a c W hc (hE.below hW) hB hl)
  have HBad:Hid (∀ j (hj:j < l.length),((l[j]'hj) < 0∨(p.hard.length:Int)≤(l[j]'hj))→ctrV p l=false∧ctrE p l=1):=fun j hj h=>by
   have hr:=inRange_not hj h
   exact⟨by unfold ctrV;rw[if_pos (pB_true hp),if_neg (by rw[hr];simp)],by unfold ctrE;rw[if_pos (pB_true hp),if_neg (by rw[hr];simp)]⟩
  have HGood:Hid ((∀ j (hj:j < l.length),0≤(l[j]'hj)∧(l[j]'hj) < (p.hard.length:Int))→ctrE p l=0∧conT p (idxF 0 (setTo p.hard.length l l.length))=ctrV p l):=fun h=>by
   have hr:=inRange_at h
   exact⟨by unfold ctrE;rw[if_pos (pB_true hp),if_pos hr],by unfold ctrV;rw[if_pos (pB_true hp),if_pos hr,setTo_idx hr]⟩
  have HSs:Hid (∀ k (h:k < l.length),setTo p.hard.length l (k+1)=(setTo p.hard.length l k).set (l[k]'h).toNat true):=fun k h=>setTo_succ h
  have HSl:Hid (∀ k,k≤l.length→(setTo p.hard.length l k).length=p.hard.length):=fun k h=>setTo_len _ _ k h
  have HS0:Hid (setTo p.hard.length l 0=List.replicate p.hard.length false):=rfl
  generalize setTo p.hard.length l=ST at HGood HSs HSl HS0
  generalize ctrV p l=V at HBad HGood⊢
  generalize ctrE p l=E at HBad HGood⊢
  generalize conT p=T at HCo0 HGood
  simp only[probVal_eq] at HV1 HCo0⊢
  clear hE hs hT hd HV0 hp hc hI
  obtain⟨vs,hard,soft,ds,gs⟩:=p
  obtain⟨av,cv,ah,ch,ao,co,ad,cd,ag,cg⟩:=x
  simp only at HV1 HCo0 HBad HGood HSs HSl HS0 hh⊢
  have HV:=Lib.hid (HV1.out (w.alloc (.cells #[.slice av vs.length cv,.slice ah hard.length ch,.slice ao soft.length co,.slice ad ds.length cd,.slice ag gs.length cg] 27)) ((Below.refl _ _).alloc (Nat.le_refl _) _))
  clear HV1
  go_enter Tryz.func36, Tryz.ntmps36
  go_wp2_with fail
  refine HV.out.mono ?_
  rintro e w1 ⟨rfl,hb1⟩
  simp only[World.size_alloc] at hb1
  have HB1:=Lib.hid hb1
  have hz1:=hb1.size
  simp only[World.size_alloc] at hz1
  clear hb1
  ((try clear b0 b1 b2 b3 b4);have b0:=box_cell HB1.out 0;have b1:=box_cell HB1.out 1;have b2:=box_cell HB1.out 2;have b3:=box_cell HB1.out 3;have b4:=box_cell HB1.out 4;(try simp at b0 b1 b2 b3 b4))
  go_wp2_with (at_make;go_must (refine make_bools rfl (.tmp 13) (.tmp 13) rfl hard.length _ rfl rfl (by simp) (by omega) ?_))
  have HOa:Hid ((w1.alloc (.cells (Array.replicate hard.length (.bool false)) 4)).ownsRow (w.heap.size+1) 4 1 (.slice (some ⟨w1.heap.size,0,none⟩) hard.length hard.length) hard.length (valsB (ST 0))):=by
   show World.ownsRow _ _ _ _ _ _ _
   rw[HS0.out,valsB_zero]
   exact⟨by simp,Or.inr ⟨w1.heap.size,hard.length,_,rfl,hz1,heap_alloc_new' _ _,Nat.le_refl _,by unfold maxLen;omega,by simp,by simp⟩⟩
  have HBa:Hid (Below (w.heap.size+1) (w.alloc (.cells #[.slice av vs.length cv,.slice ah hard.length ch,.slice ao soft.length co,.slice ad ds.length cd,.slice ag gs.length cg] 27)) (w1.alloc (.cells (Array.replicate hard.length (.bool false)) 4))):=HB1.out.alloc hz1 _
  generalize w1.alloc (.cells (Array.replicate hard.length (.bool false)) 4)=wA at HOa HBa⊢
  generalize w1.heap.size=g at HOa⊢
  clear HB1 hz1 b0 b1 b2 b3 b4
  go_loopw [7] (fun i wr=>∃ k:Nat,i=.int .i64 k∧k≤l.length∧Hid (∀ j (h:j < l.length),j < k→0≤(l[j]'h)∧(l[j]'h) < (hard.length:Int))∧Hid (wr.ownsRow (w.heap.size+1) 4 1 (.slice (some ⟨g,0,none⟩) hard.length hard.length) hard.length (valsB (ST k)))∧Hid (Below (w.heap.size+1) (w.alloc (.cells #[.slice av vs.length cv,.slice ah hard.length ch,.slice ao soft.length co,.slice ad ds.length cd,.slice ag gs.length cg] 27)) wr)) (fun i _=>l.length - (intOf i).toNat)
  case atStart=>exact⟨0,rfl,Nat.zero_le _,fun j h h2=>absurd h2 (Nat.not_lt_zero _),HOa,HBa⟩
  case round =>
   obtain⟨k,rfl,hk,HA,HO,HB⟩:=hrel
   have HBw:=Lib.hid (boxW _ HB.out)
   have hkw:IntKind.i64.wrap ((k:Int)+1)=(k:Int)+1:=by rw[IntKind.wrap_i64];omega
   by_cases hlt:k < l.length
   ·obtain⟨lb,lo,hla⟩:=HI.out.addr.resolve_left (by omega)
    subst hla
    have i0:=(keeps_of_below HBw.out) _ _ (intsIn_get HI.out rfl hlt)
    have HBd:=Lib.hid (HBad.out k hlt)
    have HSk:=Lib.hid (HSs.out k hlt)
    have HAk:Hid (0≤(l[k]'hlt)∧(l[k]'hlt) < (hard.length:Int)→∀ j (h:j < l.length),j < k+1→0≤(l[j]'h)∧(l[j]'h) < (hard.length:Int)):=fun h2 j h hj=>by
     by_cases e:j=k
     ·subst e;exact h2
     ·exact HA.out j h (by omega)
    generalize (l[k]'hlt)=y at i0 HBd HSk HAk
    have hk0:(0:Int)≤(k:Int):=by omega
    have hkl:(k:Int) < (l.length:Int):=by omega
    by_cases h1:y < 0
    ·obtain⟨rfl,rfl⟩:=HBd.out (Or.inl h1)
     have hd1:decide (y < 0)=true:=decide_eq_true h1
     clear HGood HBad HBd HSk HAk
     go_wp2_with fail
     first | exact⟨rfl,HBw.out⟩ | (go_ret2;exact⟨rfl,HBw.out⟩)
    ·have hd1:decide (y < 0)=false:=decide_eq_false h1
     by_cases h2:(hard.length:Int)≤y
     ·obtain⟨rfl,rfl⟩:=HBd.out (Or.inr h2)
      have hd2:decide ((hard.length:Int)≤y)=true:=decide_eq_true h2
      clear HGood HBad HBd HSk HAk
      go_wp2_with fail
      first | exact⟨rfl,HBw.out⟩ | (go_ret2;exact⟨rfl,HBw.out⟩)
     ·have hd2:decide ((hard.length:Int)≤y)=false:=decide_eq_false h2
      obtain⟨i,rfl⟩:=Int.eq_ofNat_of_zero_le (show (0:Int)≤y by omega)
      have HA1:=Lib.hid (HAk.out ⟨by omega,by omega⟩)
      have hil:i < (valsB (ST k)).length:=by unfold valsB;rw[List.length_map,HSl.out k hk];omega
      have hcz:=HO.out.cellAt i (by omega)
      rw[List.getElem?_eq_getElem hil] at hcz
      have hfz:=HO.out.frozenAt i
      have hgl:=(HO.out.lt g rfl).1
      have HSt:Hid ((wr.setCell ⟨g,i,none⟩ (.bool true)).ownsRow (w.heap.size+1) 4 1 (.slice (some ⟨g,0,none⟩) hard.length hard.length) hard.length (valsB (ST (k+1)))):=by
       have h:=(HO.out.stored i (.bool true)).1
       have h3:=HSk.out
       rw[Int.toNat_natCast] at h3
       rw[valsB_set,← h3] at h
       exact h
      have HB5:Hid (Below (w.heap.size+1) (w.alloc (.cells #[.slice av vs.length cv,.slice ah hard.length ch,.slice ao soft.length co,.slice ad ds.length cd,.slice ag gs.length cg] 27)) (wr.setCell ⟨g,i,none⟩ (.bool true))):=HB.out.setCell (p:=⟨g,i,none⟩) hgl _
      have hi0:(0:Int)≤(i:Int):=by omega
      have hi1:(i:Int) < (hard.length:Int):=by omega
      clear HBd HSk HAk
      go_wp2_with fail
      go_roundw
      case rel=>exact⟨k+1,by go_num,by omega,HA1,HSt,HB5⟩
      case measure=>(simp[intOf];try omega)
   ·obtain rfl:k=l.length:=by omega
    obtain⟨hE0,hV⟩:=HGood.out fun j h=>HA.out j h h
    subst hE0
    have hsl:=HSl.out l.length (Nat.le_refl _)
    obtain⟨a9,c9,hv9,hB9⟩:=bools_of_own (l:=ST l.length) (by rw[hsl];exact HO.out) (by rw[hsl];omega)
    rw[hsl] at hv9
    injection hv9 with z1 _ z3
    subst z1 z3
    have HC:=Lib.hid (HCo0.out (ST l.length) _ _ wr HBw.out hB9 hsl)
    rw[hsl,hV] at HC
    ((try clear b0 b1 b2 b3 b4);have b0:=box_cell HB.out 0;have b1:=box_cell HB.out 1;have b2:=box_cell HB.out 2;have b3:=box_cell HB.out 3;have b4:=box_cell HB.out 4;(try simp at b0 b1 b2 b3 b4))
    clear HGood HBad hsl hV hB9
    go_wp2_with fail
    refine HC.out.mono ?_
    rintro e w7 ⟨rfl,hb7⟩
    have HB7:=Lib.hid (HBw.out.trans (hb7.mono HBw.out.size))
    clear hb7
    go_wp2_with fail
    first | exact⟨rfl,HB7.out⟩ | (go_ret2;exact⟨rfl,HB7.out⟩)
 ·have HV1:=Lib.hid (fun W hW=>errF (HV0.out W hW) hp)
  have e1:ctrV p l=false:=by unfold ctrV;rw[if_neg (fun h=>hp (pB_iff.1 h))]
  have e2:ctrE p l=1:=by unfold ctrE;rw[if_neg (fun h=>hp (pB_iff.1 h))]
  rw[e1,e2]
  simp only[probVal_eq] at HV1⊢
  clear hE hs hT hd hh HV0 hp e1 e2 hI
  obtain⟨vs,hard,soft,ds,gs⟩:=p
  obtain⟨av,cv,ah,ch,ao,co,ad,cd,ag,cg⟩:=x
  simp only at HV1⊢
  have HV:=Lib.hid (HV1.out (w.alloc (.cells #[.slice av vs.length cv,.slice ah hard.length ch,.slice ao soft.length co,.slice ad ds.length cd,.slice ag gs.length cg] 27)) ((Below.refl _ _).alloc (Nat.le_refl _) _))
  clear HV1
  go_enter Tryz.func36, Tryz.ntmps36
  go_wp2_with fail
  refine HV.out.mono ?_
  rintro e w1 ⟨⟨n,rfl,hn⟩,hb1⟩
  simp only[World.size_alloc] at hb1
  have HB1:=Lib.hid (boxW _ hb1)
  clear hb1
  go_wp2_with fail
  first | exact⟨rfl,HB1.out⟩ | (go_ret2;exact⟨rfl,HB1.out⟩)
end Go.Proofs.YtcplmcjbkpmhdaaGreatDoor
namespace Go.Proofs.YtcplmcjbkpmhdaaGreatDoor
open Go.RowKit
attribute [local go_sem ↓] Go.wp_at_zero Go.wp_at_succ
set_option maxRecDepth 100000 in
set_option maxHeartbeats 8000000 in
theorem CoreContradicts_any (p:ProbD) (x:ProbA) (l:List Int) (al:Option Addr) (cl:Nat) (w:World) (hE:ProbIn w p x) (hs:ProbSmall p) (hd:p.dists.length≤1048576) (hI:IntsIn w l al cl) (hG:Glob w) :
  Calls Tryz.prog 9 #[probVal p x,.slice al l.length cl] w fun e w'=>e=.returned (.bool true)∧Below w.heap.size w w':=by
 have HSm0:=Lib.hid (fun W (hW:Below w.heap.size w W)=>small25_any p x W (hE.below hW) hs)
 have HF0:=Lib.hid (fun (h:p.hard.length≤7∧(ProbOk p→bitsTo p.vars p.vars.length≤10)) W (hW:Below w.heap.size w W)=>Contradict_any p x l al cl W (hE.below hW) hs (hG.below hW) h.2 hd h.1 (hI.keep (keeps_of_below hW)))
 have HR0:=Lib.hid (fun (h:p.hard.length≤7∧(ProbOk p→bitsTo p.vars p.vars.length≤10)) W (hW:Below w.heap.size w W)=>rContradict_any p x l al cl W (hE.below hW) hs h.2 hd h.1 (hI.keep (keeps_of_below hW)))
 have HAw:=Lib.hid (fun W (hW:Below w.heap.size w W)=>awake25_any W (hG.below hW))
 generalize ctrV p l=cq at HF0 HR0
 generalize ctrE p l=err at HF0 HR0
 clear hE hs hG hd hI
 simp only[probVal_eq] at HSm0 HF0 HR0⊢
 obtain⟨vs,hard,soft,ds,gs⟩:=p
 obtain⟨av,cv,ah,ch,ao,co,ad,cd,ag,cg⟩:=x
 simp only at HSm0 HF0 HR0⊢
 have HSm:=Lib.hid (HSm0.out (w.alloc (.cells #[.slice av vs.length cv,.slice ah hard.length ch,.slice ao soft.length co,.slice ad ds.length cd,.slice ag gs.length cg] 27)) ((Below.refl _ _).alloc (Nat.le_refl _) _))
 clear HSm0
 go_enter Tryz.func9, Tryz.ntmps9
 go_wp2_with fail
 refine HSm.out.mono ?_
 rintro e w1 ⟨⟨b,rfl,hbf⟩,hb1⟩
 simp only[World.size_alloc] at hb1
 have HB1:=Lib.hid hb1
 have hz1:=hb1.size
 simp only[World.size_alloc] at hz1
 clear hb1
 cases b
 ·clear hbf
  go_wp2_with fail
  refine(HAw.out w1 (boxW _ HB1.out)).mono ?_
  rintro e w2 ⟨rfl,hb2⟩
  have HB2:Hid (Below w.heap.size w w2):=(boxW _ HB1.out).trans (hb2.mono (boxW _ HB1.out).size)
  clear hb2
  go_wp2_with fail
  go_ret
  exact⟨rfl,HB2.out⟩
 ·have HFo:=Lib.hid (hbf rfl)
  clear hbf
  ((try clear b0 b1 b2 b3 b4);have b0:=box_cell HB1.out 0;have b1:=box_cell HB1.out 1;have b2:=box_cell HB1.out 2;have b3:=box_cell HB1.out 3;have b4:=box_cell HB1.out 4;(try simp at b0 b1 b2 b3 b4))
  go_wp2_with fail
  refine(HF0.out HFo.out w1 (boxW _ HB1.out)).mono ?_
  rintro e w2 ⟨rfl,hb2⟩
  have HB2:=Lib.hid (HB1.out.trans (hb2.mono hz1))
  have hz2:=HB2.out.size
  simp only[World.size_alloc] at hz2
  clear hb2 b0 b1 b2 b3 b4
  ((try clear b0 b1 b2 b3 b4);have b0:=box_cell HB2.out 0;have b1:=box_cell HB2.out 1;have b2:=box_cell HB2.out 2;have b3:=box_cell HB2.out 3;have b4:=box_cell HB2.out 4;(try simp at b0 b1 b2 b3 b4))
  go_wp2_with fail
  refine(HR0.out HFo.out w2 (boxW _ HB2.out)).mono ?_
  rintro e w3 ⟨rfl,hb3⟩
  have HB3:=Lib.hid (HB2.out.trans (hb3.mono hz2))
  clear hb3 b0 b1 b2 b3 b4
  have hee:(err == err)=true:=by simp
  have hbb:(cq == cq)=true:=by simp
  go_wp2_with fail
  refine(HAw.out w3 (boxW _ HB3.out)).mono ?_
  rintro e w5 ⟨rfl,hb5⟩
  have HB5:Hid (Below w.heap.size w w5):=(boxW _ HB3.out).trans (hb5.mono (boxW _ HB3.out).size)
  clear hb5
  go_wp2_with fail
  go_ret
  exact⟨rfl,HB5.out⟩
end Go.Proofs.YtcplmcjbkpmhdaaGreatDoor
