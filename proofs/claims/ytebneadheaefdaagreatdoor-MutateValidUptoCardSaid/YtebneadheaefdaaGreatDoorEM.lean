/- exprtext.text: all valid expressions without arrays. -/
import Derived.Test.YtebneadheaefdaaGreatDoorEL
import Derived.Test.YtebneadheaefdaaGreatDoorDV
import Derived.Lib.ItoaLen
import Derived.Lib.AppendIntMem
import Derived.Lib.SmallJoins
import Derived.Laws.BytesArg
set_option linter.unusedSimpArgs false
set_option linter.unusedVariables false
set_option linter.unnecessarySimpa false
namespace Go.Proofs.YtebneadheaefdaaGreatDoor
open Go.RowKit
attribute [local go_sem ↓] Go.wp_at_zero Go.wp_at_succ
def NodOk (x:Ex):Prop:=nodeS x=0∧x.op≠3∧x.op≠24∧x.name.size≤1073741824∧(x.op=2→Lib.indexByte x.name.data.toList 91 < 0)
def TxOk (e:Ex):Prop:=∀ x∈e.nodes,NodOk x
theorem TxOk.arg {e x:Ex} (h:TxOk e) (hx:x∈e.args):TxOk x:=fun y hy=>h y (by rw[Ex.nodes_eq];exact List.mem_cons_of_mem _ (List.mem_flatten.2 ⟨_,List.mem_map.2 ⟨x,hx,rfl⟩,hy⟩))
theorem NodOk.node {x:Ex} (h:NodOk x):1≤x.op∧x.op≤25∧(x.op=1→0≤x.n∧x.n≤65535)∧operandsB x.op x.args.length=true:=by
 have h0:=h.1
 unfold nodeS at h0
 split at h0
 ·simp at h0
 ·rename_i h1
  split at h0
  ·simp at h0
  ·rename_i h2
   split at h0
   ·simp at h0
   ·rename_i h3
    refine⟨by omega,by omega,fun h4=>by omega,?_⟩
    cases ho:operandsB x.op x.args.length
    ·exact absurd (Or.inr ho) h3
    ·rfl
theorem fmt_any (w:World) (hT:Lib.TabIs Tryz.prog w "internal/strconv.uint64pow10" .u64 Lib.pow10Tab) (n:Int) (h0:0≤n) (h1:n≤65535):FmtC w.heap.size w n:=by
 intro W hW
 have hTW:Lib.TabIs Tryz.prog W "internal/strconv.uint64pow10" .u64 Lib.pow10Tab:=Go.Joins.tab_stays (g:=1) (by kernel_rfl) hT hW (Nat.le_refl _)
 have HI:Hid (Calls Tryz.prog 146 #[.int .i64 n] W fun e w'=>e=.returned (.string (fmtS n))∧Below W.heap.size W w'):=(Tryz.strconv_Itoa n (by omega) (by omega) W hTW).mono fun e w' h=>by
  obtain⟨h1,k,os,rfl⟩:=h
  exact⟨h1,Lib.below_grow _ _ (Nat.le_refl _) _ _⟩
 have HP:Hid (∀ w',Below W.heap.size W w'→SPost (fmtS n) W (.returned (.string (fmtS n))) w'):=fun w' h=>⟨rfl,h⟩
 generalize SPost (fmtS n) W=Po at HP⊢
 generalize fmtS n=s at HI HP
 clear hTW hW
 go_enter Tryz.func86, Tryz.ntmps86
 go_wp2_with fail
 refine HI.out.mono ?_
 rintro e w1 ⟨rfl,hb1⟩
 have HPe:=Lib.hid (HP.out w1 hb1)
 clear hb1
 go_wp2_with fail
 first | exact HPe.out | (go_ret;exact HPe.out)
end Go.Proofs.YtebneadheaefdaaGreatDoor
namespace Go.Proofs.YtebneadheaefdaaGreatDoor
open Go.RowKit
attribute [local go_sem ↓] Go.wp_at_zero Go.wp_at_succ
theorem fmt_nat (n:Nat):fmtS (n:Int)=⟨(Lib.decDigits n).toArray⟩:=by unfold fmtS Lib.itoa;rw[if_neg (by omega)];rfl
theorem dec_lenR {n:Nat} (h:n≤65535):(Lib.decDigits n).length≤21:=by
 have:=Lib.itoa_length_le (n:Int) (by omega) (by omega)
 unfold Lib.itoa at this
 rw[if_neg (by omega)] at this
 exact this
theorem dec_small {n:Nat} (h:n < 10):Lib.decDigits n=[UInt8.ofNat (48+n % 10)]:=by rw[Lib.decDigits,dif_pos h,Nat.mod_eq_of_lt h]
theorem dec_big {n:Nat} (h:¬ n < 10):Lib.decDigits n=Lib.decDigits (n / 10)++[UInt8.ofNat (48+n % 10)]:=by rw[Lib.decDigits,dif_neg h]
theorem one_str (c:Nat) (S:ByteArray):(strOfNums [(c:Int)]++S).data.toList=UInt8.ofNat c::S.data.toList:=by
 rw[ByteArray.data_append]
 simp[strOfNums]
theorem bytes_of {S:ByteArray} {l:List UInt8} (h:S.data.toList=l):S=⟨l.toArray⟩:=by rw[← h]
theorem conv1 (W:World) (b:Nat) (j:Int) (h:W.cell? ⟨b,0,none⟩=some (.int .u8 j)):(convert 121 9 (.slice (some ⟨b,0,none⟩) 1 1)).run Tryz.prog W=.ok (.string (strOfNums [j])) W :=
 run_convert_bytes_arg W 121 5 Tryz.underlying121 Tryz.underlying5 b 0 1 1 [j] rfl (fun j' hj=>by have hj0:j'=0:=(by omega);subst hj0;simpa using h) 9 Tryz.underlying9
theorem below01_any (i:Nat) (hi:i≤65535) (w:World):Calls Tryz.prog 149 #[.int .i64 i] w fun e w'=>e=.returned (.int .i64 (-(i:Int)))∧w=w':=by
 by_cases h:i=0
 ·subst h
  go_enter Tryz.func149, Tryz.ntmps149
  go_wp2_with fail
  go_ret
  exact⟨rfl,rfl⟩
 ·have hd:decide ((0:Int) < (i:Int))=true:=decide_eq_true (by omega)
  go_enter Tryz.func149, Tryz.ntmps149
  go_wp2_with fail
  go_ret
  exact⟨rfl,rfl⟩
theorem neg_mod (q:Nat):(-(q:Int)).tmod 10=-((q % 10:Nat):Int):=by rw[Int.neg_tmod,Int.tmod_eq_emod_of_nonneg (by omega)];omega
theorem neg_div (q:Nat):(-(q:Int)).tdiv 10=-((q / 10:Nat):Int):=by rw[Int.neg_tdiv,Int.tdiv_eq_ediv_of_nonneg (by omega)];omega
set_option maxRecDepth 100000 in
set_option maxHeartbeats 4000000 in
theorem rFmt_any (n:Nat) (hn:n≤65535) (w:World):Calls Tryz.prog 90 #[.int .i64 n] w (SPost (fmtS n) w):=by
 have hcv:=conv1
 have HBl:=Lib.hid (below01_any n hn w)
 have HP:Hid (∀ S w',S.data.toList=Lib.decDigits n→Below w.heap.size w w'→SPost (fmtS n) w (.returned (.string S)) w'):=fun S w' h1 h2=>⟨by rw[fmt_nat,bytes_of h1],h2⟩
 generalize SPost (fmtS n) w=Po at HP⊢
 have hdl:=dec_lenR hn
 go_enter Tryz.func90, Tryz.ntmps90
 go_wp2_with fail
 refine HBl.out.mono ?_
 rintro e w1 ⟨rfl,rfl⟩
 go_wp2_with fail
 go_loopw [3,4] (fun s m wr=>∃ (S:ByteArray) (q:Nat),s=.string S∧m=.int .i64 (-(q:Int))∧q≤65535∧Hid (Lib.decDigits n=Lib.decDigits q++S.data.toList)∧Hid (Below w.heap.size w wr)) (fun _ m _=>(-(intOf m)).toNat)
 case atStart=>exact⟨.empty,n,rfl,rfl,hn,(by show Lib.decDigits n=Lib.decDigits n++[];simp),Below.refl _ _⟩
 case round =>
  obtain⟨S,q,rfl,rfl,hq,HD,HB⟩:=hrel
  have hS:S.size≤21:=by
   have h1:=congrArg List.length HD.out
   rw[List.length_append] at h1
   have h2:S.data.toList.length=S.size:=Array.length_toList
   omega
  have hr:=neg_mod q
  have hd:=neg_div q
  have hr10:q % 10 < 10:=Nat.mod_lt _ (by omega)
  have h48:(48:Int) - -((q % 10:Nat):Int)=((48+q % 10:Nat):Int):=by omega
  have HO:Hid ((strOfNums [((48+q % 10:Nat):Int)]++S).data.toList=UInt8.ofNat (48+q % 10)::S.data.toList):=one_str _ _
  by_cases hq10:q < 10
  ·have hq0:q / 10=0:=by omega
   have HF:Hid ((strOfNums [((48+q % 10:Nat):Int)]++S).data.toList=Lib.decDigits n):=by
    show _=_
    rw[HO.out,HD.out,dec_small hq10]
    rfl
   rw[hq0] at hd
   have hd0:(-(q:Int)).tdiv 10=0:=by rw[hd];rfl
   clear hd
   have hcl:48+q % 10 < 58:=by omega
   generalize (48+q % 10)=cc at *
   generalize ((q % 10:Nat):Int)=rr at *
   have q1:¬ 9223372036854775807 < 1+S.size:=by omega
   have HPe:=Lib.hid (fun W (hW:Below w.heap.size w W)=>HP.out _ W HF.out hW)
   have hnn:decide ((n:Int) < 0)=false:=decide_eq_false (by omega)
   clear HO HF HP HD
   go_wp2_with fail
   first | exact HPe.out _ (HB.out.alloc HB.out.size _) | (go_ret;exact HPe.out _ (HB.out.alloc HB.out.size _))
  ·have HF:Hid (Lib.decDigits n=Lib.decDigits (q / 10)++(strOfNums [((48+q % 10:Nat):Int)]++S).data.toList):=by
    show _=_
    rw[HO.out,HD.out,dec_big hq10]
    simp
   have hcl:48+q % 10 < 58:=by omega
   have hq1:1≤q / 10:=by omega
   have hq2:q / 10 < q:=by omega
   generalize (48+q % 10)=cc at *
   generalize ((q % 10:Nat):Int)=rr at *
   generalize q / 10=qd at *
   have hne:(-(qd:Int) == 0)=false:=beq_eq_false_iff_ne.2 (by omega)
   have q1:¬ 9223372036854775807 < 1+S.size:=by omega
   clear HO HD
   go_wp2_with fail
   go_roundw
   case rel=>exact⟨_,qd,rfl,rfl,by omega,HF,HB.out.alloc HB.out.size _⟩
   case measure=>(simp[intOf];try omega)
end Go.Proofs.YtebneadheaefdaaGreatDoor
