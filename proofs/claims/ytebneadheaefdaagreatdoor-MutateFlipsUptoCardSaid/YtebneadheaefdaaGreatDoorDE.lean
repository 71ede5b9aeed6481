/- Look-up of texts in lists of texts: ref31.index, slices.Contains, design.repeated, sets of texts. -/
import Derived.Test.YtebneadheaefdaaGreatDoorKNames
set_option linter.unusedSimpArgs false
set_option linter.unusedVariables false
set_option linter.unnecessarySimpa false
namespace Go.Proofs.YtebneadheaefdaaGreatDoor
open Go.RowKit Go.WideMaps
attribute [local go_sem ↓] Go.wp_at_zero Go.wp_at_succ
def idxI (l:List ByteArray) (s:ByteArray):Int:=match idxT l s with
 | some k=>k
 | none=>-1
theorem idxI_at {l:List ByteArray} {s:ByteArray} {k:Nat} (hk:k < l.length) (h1:∀ j (hj:j < l.length),j < k→((l[j]'hj).toList == s.toList)=false) (h2:((l[k]'hk).toList == s.toList)=true):idxT l s=some k:=by
 cases h:idxT l s with
 | none=>exact absurd (by simpa using h2) (idxT_none.1 h _ (List.getElem_mem hk))
 | some q =>
  obtain⟨hq,h3,h4⟩:=idxT_some h
  rcases Nat.lt_trichotomy q k with g | g | g
  ·have:=h1 q hq g;simp[h3] at this
  ·rw[g]
  ·exact absurd (by simpa using h2) (h4 k g)
theorem idxT_not {l:List ByteArray} {s:ByteArray} (h1:∀ j (hj:j < l.length),((l[j]'hj).toList == s.toList)=false):idxT l s=none:=by
 rw[idxT_none]
 intro x hx he
 obtain⟨j,hj,rfl⟩:=List.getElem_of_mem hx
 have:=h1 j hj
 simp[he] at this
theorem containsS_idx (l:List ByteArray) (s:ByteArray):Lib.containsS l s=(idxT l s).isSome:=by
 rw[Bool.eq_iff_iff,Lib.containsS_iff]
 constructor
 ·intro h
  exact idxT_mem h rfl
 ·intro h
  obtain⟨x,hx,he⟩:=idxT_isSome h
  have:x=s:=by
   have h2:=(toList_eq_iff x s).1 (by simpa using he)
   exact ByteArray.ext (Array.ext' h2)
  rw[← this];exact hx
theorem Contains_strs (l:List ByteArray) (a:Option Addr) (cap:Nat) (s:ByteArray) (w:World) (hE:StrsIn w l a cap) :
  Calls Tryz.prog 125 #[.slice a l.length cap,.string s] w fun e w'=>e=.returned (.bool (idxT l s).isSome)∧w=w':=by
 rw[← containsS_idx]
 by_cases h0:l=[]
 ·subst h0
  exact(Tryz.slices_Contains_string_empty a cap s w).mono fun e w' h=>⟨h.1,h.2.symm⟩
 ·obtain⟨b,off,rfl⟩:=hE.addr.resolve_left (by simpa using h0)
  have:=Tryz.slices_Contains_string b off l.length cap l s w (Nat.le_refl _) (by have:=hE.2.1;omega) (fun j hj=>by
   rw[hE.get rfl hj];simp[hj])
  rw[List.take_of_length_le (Nat.le_refl _)] at this
  exact this.mono fun e w' h=>⟨h.1,h.2.symm⟩
theorem keyed_str:Maps.Keyed Tryz.prog 9:=Maps.string_keyed Tryz.underlying9
theorem key_str {s:ByteArray} (h:s.size≤1073741824):keyOf Tryz.prog 9 (.string s)=some (.string s.data.toList):=keyOf_string_mk Tryz.underlying9 (by unfold maxLen;omega)
theorem zero_bool (w:World):(zeroValue 4).run Tryz.prog w=.ok (.bool false) w:=by kernel_rfl
noncomputable def setF (l:List ByteArray) (kl:Lit):Option Value:=match kl with
 | .string cs=>if (l.any fun s=>decide (s.data.toList=cs))=true then some (.bool true) else none
 | _=>none
theorem setF_some {l:List ByteArray} {s:ByteArray} (h:(idxT l s).isSome=true):setF l (.string s.data.toList)=some (.bool true):=by
 unfold setF
 simp only
 rw[if_pos]
 obtain⟨x,hx,he⟩:=idxT_isSome h
 rw[List.any_eq_true]
 exact⟨x,hx,decide_eq_true ((toList_eq_iff x s).1 (by simpa using he))⟩
theorem setF_none {l:List ByteArray} {s:ByteArray} (h:(idxT l s).isSome=false):setF l (.string s.data.toList)=none:=by
 unfold setF
 simp only
 rw[if_neg]
 rw[List.any_eq_true]
 rintro ⟨x,hx,he⟩
 have:=idxT_mem (s:=s) hx (by simpa using (toList_eq_iff x s).2 (of_decide_eq_true he))
 rw[h] at this;simp at this
theorem setF_put (l:List ByteArray) (s:ByteArray):∀ x,putL (setF l) (.string s.data.toList) (some (.bool true)) x=setF (l++[s]) x:=by
 intro x
 by_cases hx:x=.string s.data.toList
 ·subst hx
  rw[putL_same,setF_some]
  exact idxT_mem (List.mem_append_right _ (List.mem_singleton.2 rfl)) rfl
 ·rw[putL_other _ hx]
  unfold setF
  cases x with
  | string cs =>
   simp only
   rw[List.any_append]
   have:([s].any fun s=>decide (s.data.toList=cs))=false:=by
    simp only[List.any_cons,List.any_nil,Bool.or_false,decide_eq_false_iff_not]
    intro e
    exact hx (by rw[e])
   rw[this,Bool.or_false]
  | _=>rfl
theorem setF_nil:∀ x,(fun _=>none:Lit→Option Value) x=setF [] x:=by
 intro x
 unfold setF
 cases x<;>simp
theorem dupT_take {l:List ByteArray} {k:Nat} (hk:k < l.length) (h:(idxT (l.take k) (l[k]'hk)).isSome=true):dupT l=true:=by
 cases hd:dupT l with
 | true=>rfl
 | false =>
  obtain⟨x,hx,he⟩:=idxT_isSome h
  obtain⟨j,hj,rfl⟩:=List.getElem_of_mem hx
  rw[List.getElem_take] at he
  have hj':j < k∧j < l.length:=by rw[List.length_take] at hj;omega
  have:=dupT_false.1 hd j k hj'.2 hk he
  omega
theorem dupT_none {l:List ByteArray} (h:∀ k (hk:k < l.length),(idxT (l.take k) (l[k]'hk)).isSome=false):dupT l=false:=by
 rw[dupT_false]
 have key:∀ i j (hi:i < l.length) (hj:j < l.length),i < j→¬ (l[i]'hi).toList=(l[j]'hj).toList:=fun i j hi hj hij he=>by
  have h1:=h j hj
  have h2:(l[i]'hi)∈l.take j:=List.mem_iff_getElem.2 ⟨i,by simp;omega,by simp⟩
  have h3:=idxT_mem h2 he
  rw[h1] at h3;simp at h3
 intro i j hi hj he
 rcases Nat.lt_trichotomy i j with g | g | g
 ·exact absurd he (key i j hi hj g)
 ·exact g
 ·exact absurd he.symm (key j i hj hi g)
set_option maxRecDepth 100000 in
set_option maxHeartbeats 4000000 in
theorem repeated_any (l:List ByteArray) (a:Option Addr) (cap:Nat) (w:World) (hE:StrsIn w l a cap) (hs:∀ s∈l,s.size≤1073741824) (hn:l.length≤1000000) :
  Calls Tryz.prog 130 #[.slice a l.length cap] w fun e w'=>e=.returned (.bool (dupT l))∧Below w.heap.size w w':=by
 have HA:=Lib.hid hE.addr
 have HE:=Lib.hid hE
 have HSz:=Lib.hid hs
 have HY:Hid (∀ k (hk:k < l.length),(idxT (l.take k) (l[k]'hk)).isSome=true→dupT l=true):=fun k hk h=>dupT_take hk h
 have HN:Hid ((∀ k (hk:k < l.length),k < l.length→(idxT (l.take k) (l[k]'hk)).isSome=false)→dupT l=false):=fun h=>dupT_none fun k hk=>h k hk hk
 generalize dupT l=D at HY HN⊢
 clear hE hs
 go_enter Tryz.func130, Tryz.ntmps130
 go_wp2_with fail
 rw[run_makeMap]
 have HM0:=Lib.hid (MapV.made w Tryz.prog 9)
 have HBm:Hid (Below w.heap.size w (w.alloc (.map #[] 0))):=(Below.refl _ _).alloc (Nat.le_refl _) _
 generalize w.alloc (.map #[] 0)=wm at HM0 HBm⊢
 go_wp2_with fail
 go_loopw [9,5] (fun i _ wr=>∃ k:Nat,i=.int .i64 k∧k≤l.length∧Hid (∀ j (hj:j < l.length),j < k→(idxT (l.take j) (l[j]'hj)).isSome=false)∧Hid (∃ m,m≤k∧MapV wr Tryz.prog 9 w.heap.size m (setF (l.take k)))∧Hid (Below w.heap.size w wr)) (fun i _ _=>l.length - (intOf i).toNat)
 case atStart=>exact⟨0,rfl,Nat.zero_le _,fun _ _ h=>absurd h (by omega),⟨0,Nat.le_refl _,HM0.out.congr setF_nil⟩,HBm⟩
 case round =>
  obtain⟨k,rfl,hk,HF,HM,HB⟩:=hrel
  by_cases hlt:k < l.length
  ·obtain⟨b,off,ha⟩:=HA.out.resolve_left (by omega)
   subst ha
   have c0:=(keeps_of_below HB.out) _ _ (HE.out.get rfl hlt)
   have hsz:=HSz.out _ (List.getElem_mem hlt)
   obtain⟨m,hm,hM⟩:=HM.out
   have HM:=Lib.hid hM
   have HPt:=Lib.hid (setF_put (l.take k) (l[k]'hlt))
   have HTk:Hid (l.take (k+1)=l.take k++[l[k]'hlt]):=List.take_succ_eq_append_getElem hlt
   have HYk:=Lib.hid (HY.out k hlt)
   have HSt:Hid ((idxT (l.take k) (l[k]'hlt)).isSome=false→∀ j (hj:j < l.length),j < k+1→(idxT (l.take j) (l[j]'hj)).isSome=false):=fun h j hj hjk=>by
    by_cases e:j=k
    ·subst e;exact h
    ·exact HF.out j hj (by omega)
   generalize (l[k]'hlt)=s at c0 hsz HPt HTk HYk HSt
   clear hM
   cases hi:(idxT (l.take k) s).isSome
   ·have HSt:=Lib.hid (HSt.out hi)
    have hf:=setF_none hi
    have Hf:=Lib.hid hf
    clear hi hf HYk
    go_wp2_with (first | (at_lookup;go_must (refine wp_mapV_zero _ rfl _ _ 176 4 rfl keyed_str (by kernel_rfl) (zero_bool _) rfl HM.out _ _ rfl (key_str hsz) Hf.out ?_)) | (at_mapUpdate;go_must (refine wp_mapV_put _ rfl _ _ _ 176 4 rfl keyed_str (by kernel_rfl) rfl HM.out (by omega) _ _ _ rfl rfl (key_str hsz) trivial ?_);intro w7 hM7 hg7;have HM7:=Lib.hid hM7;have HB7:Hid (Below w.heap.size w w7):=grown_below HB.out (Nat.le_refl _) hg7))
    go_roundw
    case rel=>exact⟨k+1,by go_num,by omega,HSt,⟨_,by rw[Hf.out];simp;omega,HM7.out.congr (by rw[HTk.out];exact HPt.out)⟩,HB7⟩
    case measure=>(simp[intOf];try omega)
   ·have HYk:=Lib.hid (HYk.out hi)
    have hf:=setF_some hi
    have Hf:=Lib.hid hf
    clear hi hf HSt
    go_wp2_with (at_lookup;go_must (refine wp_mapV_get _ rfl _ _ 176 4 rfl keyed_str (by kernel_rfl) (zero_bool _) rfl HM.out _ _ rfl (key_str hsz) (.bool true) Hf.out ?_))
    go_ret
    exact⟨by rw[HYk.out];rfl,HB.out⟩
  ·obtain rfl:k=l.length:=by omega
   have HN:=Lib.hid (HN.out (fun j hj _=>HF.out j hj hj))
   go_wp2_with fail
   go_ret
   exact⟨by rw[HN.out];rfl,HB.out⟩
end Go.Proofs.YtebneadheaefdaaGreatDoor
namespace Go.Proofs.YtebneadheaefdaaGreatDoor
open Go.RowKit
attribute [local go_sem ↓] Go.wp_at_zero Go.wp_at_succ
set_option maxRecDepth 100000 in
set_option maxHeartbeats 1000000 in
theorem indexFunc_bad  (p:ByteArray→Bool) (l:List ByteArray) (a:Option Addr) (cap:Nat) (w0 w:World) (hE:StrsIn w l a cap)
  (hf:∀ (v:ByteArray),v∈l→∀ (w':World),Below w.heap.size w w'→Calls Tryz.prog 127 #[.string v] w' fun e w2=>e=.returned (.bool (p v))∧Below w'.heap.size w' w2) :
  Calls Tryz.prog 174 #[.slice a l.length cap,.func (.func 127) #[] #[]] w fun e w'=>e=.returned (.int .i64 (idxP p l 0))∧Below w.heap.size w w':=by
 have hlen:=hE.2.1
 have HA:=Lib.hid hE.addr
 have HE:=Lib.hid hE
 have HF:=Lib.hid hf
 clear hE hf
 go_enter Tryz.func174, Tryz.ntmps174
 go_wp2_with fail
 go_loopw [8] (fun i wr=>∃ k:Nat,i=.int .i64 k∧k≤l.length∧(∀ j (hj:j < l.length),j < k→p (l[j]'hj)=false)∧Below w.heap.size w wr) (fun i _=>l.length - (intOf i).toNat)
 case atStart=>exact⟨0,rfl,Nat.zero_le _,fun _ _ h=>absurd h (by omega),Below.refl _ _⟩
 case round =>
  obtain⟨k,rfl,hk,hall,hBr⟩:=hrel
  have HAl:=Lib.hid hall
  have HB:=Lib.hid hBr
  clear hall
  by_cases hlt:k < l.length
  ·obtain⟨b,off,ha⟩:=HA.out.resolve_left (by omega)
   subst ha
   have c0:=(HE.out.keep (keeps_of_below hBr)).get rfl hlt
   have HC:=Lib.hid ((HF.out (l[k]'hlt) (List.getElem_mem hlt) wr hBr).mono fun e w2 h=>(⟨h.1,hBr.trans (h.2.mono hBr.size)⟩:_∧Below w.heap.size w w2))
   clear hBr
   cases he:p (l[k]'hlt)
   ·go_wp2_with fail
    refine HC.out.mono ?_
    rintro e w2 ⟨rfl,hb2⟩
    rw[he]
    have HB2:=Lib.hid hb2
    clear hb2
    (try clear c0);(try clear c1);(try clear c2);(try clear c3);(try clear c4);(try clear c5);(try clear c6)
    go_wp2_with fail
    go_roundw
    case rel=>exact⟨k+1,by go_num,by omega,fun j hj hjk=>by
     by_cases e:j=k
     ·subst e;exact he
     ·exact HAl.out j hj (by omega),HB2.out⟩
    case measure=>simp[intOf];omega
   ·have HY:=Lib.hid (idxP_at p l k 0 hlt (fun j hj=>HAl.out j (by omega) hj) he)
    go_wp2_with fail
    refine HC.out.mono ?_
    rintro e w2 ⟨rfl,hb2⟩
    rw[he]
    have HB2:=Lib.hid hb2
    clear hb2
    (try clear c0);(try clear c1);(try clear c2);(try clear c3);(try clear c4);(try clear c5);(try clear c6)
    go_wp2_with fail
    go_ret
    exact⟨by rw[HY.out];rfl,HB2.out⟩
  ·obtain rfl:k=l.length:=by omega
   have HN:=Lib.hid (idxP_none p l 0 (fun j hj=>HAl.out j hj hj))
   go_wp2_with fail
   go_ret
   exact⟨by rw[HN.out];rfl,HB.out⟩
set_option maxHeartbeats 1000000 in
theorem containsFunc_bad  (p:ByteArray→Bool) (l:List ByteArray) (a:Option Addr) (cap:Nat) (w:World) (hE:StrsIn w l a cap)
  (hf:∀ (v:ByteArray),v∈l→∀ (w':World),Below w.heap.size w w'→Calls Tryz.prog 127 #[.string v] w' fun e w2=>e=.returned (.bool (p v))∧Below w'.heap.size w' w2) :
  Calls Tryz.prog 129 #[.slice a l.length cap,.func (.func 127) #[] #[]] w fun e w'=>e=.returned (.bool (l.any p))∧Below w.heap.size w w':=by
 have HC:=Lib.hid (indexFunc_bad p l a cap w w hE hf)
 have HI:=Lib.hid (idxP_any p l)
 clear hE hf
 cases ha:l.any p
 ·have h0:idxP p l 0 < 0:=by have:=HI.out;rw[ha] at this;simpa using this
  generalize idxP p l 0=r at HC h0
  clear HI
  go_enter Tryz.func129, Tryz.ntmps129
  go_wp2_with fail
  refine HC.out.mono ?_
  rintro e w1 ⟨rfl,hb⟩
  have HB1:=Lib.hid hb
  clear hb
  go_wp2_with fail
  go_ret
  exact⟨by first | rfl | (simp;done) | (simp;omega),HB1.out⟩
 ·have h0:0≤idxP p l 0:=by have:=HI.out;rw[ha] at this;simpa using this
  generalize idxP p l 0=r at HC h0
  clear HI
  go_enter Tryz.func129, Tryz.ntmps129
  go_wp2_with fail
  refine HC.out.mono ?_
  rintro e w1 ⟨rfl,hb⟩
  have HB1:=Lib.hid hb
  clear hb
  go_wp2_with fail
  go_ret
  exact⟨by first | rfl | (simp;done) | (simp;omega),HB1.out⟩
set_option maxRecDepth 100000 in
set_option maxHeartbeats 1000000 in
theorem indexFunc_wide  (p:Int→Bool) (l:List Int) (a:Option Addr) (cap:Nat) (w0 w:World) (hE:IntsIn w l a cap)
  (hf:∀ (v:Int),v∈l→∀ (w':World),Below w.heap.size w w'→Calls Tryz.prog 133 #[.int .i64 v] w' fun e w2=>e=.returned (.bool (p v))∧Below w'.heap.size w' w2) :
  Calls Tryz.prog 175 #[.slice a l.length cap,.func (.func 133) #[] #[]] w fun e w'=>e=.returned (.int .i64 (idxP p l 0))∧Below w.heap.size w w':=by
 have hlen:=hE.2.1
 have HA:=Lib.hid hE.addr
 have HE:=Lib.hid hE
 have HF:=Lib.hid hf
 clear hE hf
 go_enter Tryz.func175, Tryz.ntmps175
 go_wp2_with fail
 go_loopw [8] (fun i wr=>∃ k:Nat,i=.int .i64 k∧k≤l.length∧(∀ j (hj:j < l.length),j < k→p (l[j]'hj)=false)∧Below w.heap.size w wr) (fun i _=>l.length - (intOf i).toNat)
 case atStart=>exact⟨0,rfl,Nat.zero_le _,fun _ _ h=>absurd h (by omega),Below.refl _ _⟩
 case round =>
  obtain⟨k,rfl,hk,hall,hBr⟩:=hrel
  have HAl:=Lib.hid hall
  have HB:=Lib.hid hBr
  clear hall
  by_cases hlt:k < l.length
  ·obtain⟨b,off,ha⟩:=HA.out.resolve_left (by omega)
   subst ha
   have c0:=intsIn_get (HE.out.keep (keeps_of_below hBr)) rfl hlt
   have HC:=Lib.hid ((HF.out (l[k]'hlt) (List.getElem_mem hlt) wr hBr).mono fun e w2 h=>(⟨h.1,hBr.trans (h.2.mono hBr.size)⟩:_∧Below w.heap.size w w2))
   clear hBr
   cases he:p (l[k]'hlt)
   ·go_wp2_with fail
    refine HC.out.mono ?_
    rintro e w2 ⟨rfl,hb2⟩
    rw[he]
    have HB2:=Lib.hid hb2
    clear hb2
    (try clear c0);(try clear c1);(try clear c2);(try clear c3);(try clear c4);(try clear c5);(try clear c6)
    go_wp2_with fail
    go_roundw
    case rel=>exact⟨k+1,by go_num,by omega,fun j hj hjk=>by
     by_cases e:j=k
     ·subst e;exact he
     ·exact HAl.out j hj (by omega),HB2.out⟩
    case measure=>simp[intOf];omega
   ·have HY:=Lib.hid (idxP_at p l k 0 hlt (fun j hj=>HAl.out j (by omega) hj) he)
    go_wp2_with fail
    refine HC.out.mono ?_
    rintro e w2 ⟨rfl,hb2⟩
    rw[he]
    have HB2:=Lib.hid hb2
    clear hb2
    (try clear c0);(try clear c1);(try clear c2);(try clear c3);(try clear c4);(try clear c5);(try clear c6)
    go_wp2_with fail
    go_ret
    exact⟨by rw[HY.out];rfl,HB2.out⟩
  ·obtain rfl:k=l.length:=by omega
   have HN:=Lib.hid (idxP_none p l 0 (fun j hj=>HAl.out j hj hj))
   go_wp2_with fail
   go_ret
   exact⟨by rw[HN.out];rfl,HB.out⟩
set_option maxHeartbeats 1000000 in
theorem containsFunc_wide  (p:Int→Bool) (l:List Int) (a:Option Addr) (cap:Nat) (w:World) (hE:IntsIn w l a cap)
  (hf:∀ (v:Int),v∈l→∀ (w':World),Below w.heap.size w w'→Calls Tryz.prog 133 #[.int .i64 v] w' fun e w2=>e=.returned (.bool (p v))∧Below w'.heap.size w' w2) :
  Calls Tryz.prog 131 #[.slice a l.length cap,.func (.func 133) #[] #[]] w fun e w'=>e=.returned (.bool (l.any p))∧Below w.heap.size w w':=by
 have HC:=Lib.hid (indexFunc_wide p l a cap w w hE hf)
 have HI:=Lib.hid (idxP_any p l)
 clear hE hf
 cases ha:l.any p
 ·have h0:idxP p l 0 < 0:=by have:=HI.out;rw[ha] at this;simpa using this
  generalize idxP p l 0=r at HC h0
  clear HI
  go_enter Tryz.func131, Tryz.ntmps131
  go_wp2_with fail
  refine HC.out.mono ?_
  rintro e w1 ⟨rfl,hb⟩
  have HB1:=Lib.hid hb
  clear hb
  go_wp2_with fail
  go_ret
  exact⟨by first | rfl | (simp;done) | (simp;omega),HB1.out⟩
 ·have h0:0≤idxP p l 0:=by have:=HI.out;rw[ha] at this;simpa using this
  generalize idxP p l 0=r at HC h0
  clear HI
  go_enter Tryz.func131, Tryz.ntmps131
  go_wp2_with fail
  refine HC.out.mono ?_
  rintro e w1 ⟨rfl,hb⟩
  have HB1:=Lib.hid hb
  clear hb
  go_wp2_with fail
  go_ret
  exact⟨by first | rfl | (simp;done) | (simp;omega),HB1.out⟩
set_option maxRecDepth 100000 in
set_option maxHeartbeats 1000000 in
theorem indexFunc_init  (p:RegD→Bool) (l:List RegD) (a:Option Addr) (cap:Nat) (w0 w:World) (hE:RegsIn w l a cap)
  (hf:∀ (v:RegD),v∈l→∀ (ae:Option Addr) (ce:Nat),∀ (w':World),Below w.heap.size w w'→Calls Tryz.prog 135 #[.agg #[.string v.name,.int .i64 v.width,.int .i64 v.init,.int .i64 v.next.op,.int .i64 v.next.n,.string v.next.name,.slice ae v.next.args.length ce]] w' fun e w2=>e=.returned (.bool (p v))∧Below w'.heap.size w' w2) :
  Calls Tryz.prog 63 #[.slice a l.length cap,.func (.func 135) #[] #[]] w fun e w'=>e=.returned (.int .i64 (idxP p l 0))∧Below w.heap.size w w':=by
 have hlen:=hE.2.1
 have HA:=Lib.hid hE.addr
 have HE:=Lib.hid hE
 have HF:=Lib.hid hf
 clear hE hf
 go_enter Tryz.func63, Tryz.ntmps63
 go_wp2_with fail
 go_loopw [8] (fun i wr=>∃ k:Nat,i=.int .i64 k∧k≤l.length∧(∀ j (hj:j < l.length),j < k→p (l[j]'hj)=false)∧Below w.heap.size w wr) (fun i _=>l.length - (intOf i).toNat)
 case atStart=>exact⟨0,rfl,Nat.zero_le _,fun _ _ h=>absurd h (by omega),Below.refl _ _⟩
 case round =>
  obtain⟨k,rfl,hk,hall,hBr⟩:=hrel
  have HAl:=Lib.hid hall
  have HB:=Lib.hid hBr
  clear hall
  by_cases hlt:k < l.length
  ·obtain⟨b,off,ha⟩:=HA.out.resolve_left (by omega)
   subst ha
   obtain⟨ae,ce,c0,c1,c2,c3,c4,c5,c6,_⟩:=(HE.out.keep (keeps_of_below hBr)).get rfl hlt
   have HC:=Lib.hid ((HF.out (l[k]'hlt) (List.getElem_mem hlt) ae ce wr hBr).mono fun e w2 h=>(⟨h.1,hBr.trans (h.2.mono hBr.size)⟩:_∧Below w.heap.size w w2))
   clear hBr
   cases he:p (l[k]'hlt)
   ·go_wp2_with fail
    refine HC.out.mono ?_
    rintro e w2 ⟨rfl,hb2⟩
    rw[he]
    have HB2:=Lib.hid hb2
    clear hb2
    (try clear c0);(try clear c1);(try clear c2);(try clear c3);(try clear c4);(try clear c5);(try clear c6)
    go_wp2_with fail
    go_roundw
    case rel=>exact⟨k+1,by go_num,by omega,fun j hj hjk=>by
     by_cases e:j=k
     ·subst e;exact he
     ·exact HAl.out j hj (by omega),HB2.out⟩
    case measure=>simp[intOf];omega
   ·have HY:=Lib.hid (idxP_at p l k 0 hlt (fun j hj=>HAl.out j (by omega) hj) he)
    go_wp2_with fail
    refine HC.out.mono ?_
    rintro e w2 ⟨rfl,hb2⟩
    rw[he]
    have HB2:=Lib.hid hb2
    clear hb2
    (try clear c0);(try clear c1);(try clear c2);(try clear c3);(try clear c4);(try clear c5);(try clear c6)
    go_wp2_with fail
    go_ret
    exact⟨by rw[HY.out];rfl,HB2.out⟩
  ·obtain rfl:k=l.length:=by omega
   have HN:=Lib.hid (idxP_none p l 0 (fun j hj=>HAl.out j hj hj))
   go_wp2_with fail
   go_ret
   exact⟨by rw[HN.out];rfl,HB.out⟩
set_option maxHeartbeats 1000000 in
theorem containsFunc_init  (p:RegD→Bool) (l:List RegD) (a:Option Addr) (cap:Nat) (w:World) (hE:RegsIn w l a cap)
  (hf:∀ (v:RegD),v∈l→∀ (ae:Option Addr) (ce:Nat),∀ (w':World),Below w.heap.size w w'→Calls Tryz.prog 135 #[.agg #[.string v.name,.int .i64 v.width,.int .i64 v.init,.int .i64 v.next.op,.int .i64 v.next.n,.string v.next.name,.slice ae v.next.args.length ce]] w' fun e w2=>e=.returned (.bool (p v))∧Below w'.heap.size w' w2) :
  Calls Tryz.prog 134 #[.slice a l.length cap,.func (.func 135) #[] #[]] w fun e w'=>e=.returned (.bool (l.any p))∧Below w.heap.size w w':=by
 have HC:=Lib.hid (indexFunc_init p l a cap w w hE hf)
 have HI:=Lib.hid (idxP_any p l)
 clear hE hf
 cases ha:l.any p
 ·have h0:idxP p l 0 < 0:=by have:=HI.out;rw[ha] at this;simpa using this
  generalize idxP p l 0=r at HC h0
  clear HI
  go_enter Tryz.func134, Tryz.ntmps134
  go_wp2_with fail
  refine HC.out.mono ?_
  rintro e w1 ⟨rfl,hb⟩
  have HB1:=Lib.hid hb
  clear hb
  go_wp2_with fail
  go_ret
  exact⟨by first | rfl | (simp;done) | (simp;omega),HB1.out⟩
 ·have h0:0≤idxP p l 0:=by have:=HI.out;rw[ha] at this;simpa using this
  generalize idxP p l 0=r at HC h0
  clear HI
  go_enter Tryz.func134, Tryz.ntmps134
  go_wp2_with fail
  refine HC.out.mono ?_
  rintro e w1 ⟨rfl,hb⟩
  have HB1:=Lib.hid hb
  clear hb
  go_wp2_with fail
  go_ret
  exact⟨by first | rfl | (simp;done) | (simp;omega),HB1.out⟩
set_option maxRecDepth 100000 in
set_option maxHeartbeats 1000000 in
theorem indexFunc_waits (c:Nat) (p:Int→Bool) (l:List Int) (a:Option Addr) (cap:Nat) (w0 w:World) (hE:IntsIn w l a cap)
  (hf:∀ (v:Int),v∈l→∀ (w':World),Below w.heap.size w w'→Calls Tryz.prog 140 #[.int .i64 v,.pointer (some ⟨c,0,none⟩)] w' fun e w2=>e=.returned (.bool (p v))∧Below w'.heap.size w' w2) :
  Calls Tryz.prog 175 #[.slice a l.length cap,.func (.func 140) #[] #[.pointer (some ⟨c,0,none⟩)]] w fun e w'=>e=.returned (.int .i64 (idxP p l 0))∧Below w.heap.size w w':=by
 have hlen:=hE.2.1
 have HA:=Lib.hid hE.addr
 have HE:=Lib.hid hE
 have HF:=Lib.hid hf
 clear hE hf
 go_enter Tryz.func175, Tryz.ntmps175
 go_wp2_with fail
 go_loopw [8] (fun i wr=>∃ k:Nat,i=.int .i64 k∧k≤l.length∧(∀ j (hj:j < l.length),j < k→p (l[j]'hj)=false)∧Below w.heap.size w wr) (fun i _=>l.length - (intOf i).toNat)
 case atStart=>exact⟨0,rfl,Nat.zero_le _,fun _ _ h=>absurd h (by omega),Below.refl _ _⟩
 case round =>
  obtain⟨k,rfl,hk,hall,hBr⟩:=hrel
  have HAl:=Lib.hid hall
  have HB:=Lib.hid hBr
  clear hall
  by_cases hlt:k < l.length
  ·obtain⟨b,off,ha⟩:=HA.out.resolve_left (by omega)
   subst ha
   have c0:=intsIn_get (HE.out.keep (keeps_of_below hBr)) rfl hlt
   have HC:=Lib.hid ((HF.out (l[k]'hlt) (List.getElem_mem hlt) wr hBr).mono fun e w2 h=>(⟨h.1,hBr.trans (h.2.mono hBr.size)⟩:_∧Below w.heap.size w w2))
   clear hBr
   cases he:p (l[k]'hlt)
   ·go_wp2_with fail
    refine HC.out.mono ?_
    rintro e w2 ⟨rfl,hb2⟩
    rw[he]
    have HB2:=Lib.hid hb2
    clear hb2
    (try clear c0);(try clear c1);(try clear c2);(try clear c3);(try clear c4);(try clear c5);(try clear c6)
    go_wp2_with fail
    go_roundw
    case rel=>exact⟨k+1,by go_num,by omega,fun j hj hjk=>by
     by_cases e:j=k
     ·subst e;exact he
     ·exact HAl.out j hj (by omega),HB2.out⟩
    case measure=>simp[intOf];omega
   ·have HY:=Lib.hid (idxP_at p l k 0 hlt (fun j hj=>HAl.out j (by omega) hj) he)
    go_wp2_with fail
    refine HC.out.mono ?_
    rintro e w2 ⟨rfl,hb2⟩
    rw[he]
    have HB2:=Lib.hid hb2
    clear hb2
    (try clear c0);(try clear c1);(try clear c2);(try clear c3);(try clear c4);(try clear c5);(try clear c6)
    go_wp2_with fail
    go_ret
    exact⟨by rw[HY.out];rfl,HB2.out⟩
  ·obtain rfl:k=l.length:=by omega
   have HN:=Lib.hid (idxP_none p l 0 (fun j hj=>HAl.out j hj hj))
   go_wp2_with fail
   go_ret
   exact⟨by rw[HN.out];rfl,HB.out⟩
set_option maxHeartbeats 1000000 in
theorem containsFunc_waits (c:Nat) (p:Int→Bool) (l:List Int) (a:Option Addr) (cap:Nat) (w:World) (hE:IntsIn w l a cap)
  (hf:∀ (v:Int),v∈l→∀ (w':World),Below w.heap.size w w'→Calls Tryz.prog 140 #[.int .i64 v,.pointer (some ⟨c,0,none⟩)] w' fun e w2=>e=.returned (.bool (p v))∧Below w'.heap.size w' w2) :
  Calls Tryz.prog 131 #[.slice a l.length cap,.func (.func 140) #[] #[.pointer (some ⟨c,0,none⟩)]] w fun e w'=>e=.returned (.bool (l.any p))∧Below w.heap.size w w':=by
 have HC:=Lib.hid (indexFunc_waits c p l a cap w w hE hf)
 have HI:=Lib.hid (idxP_any p l)
 clear hE hf
 cases ha:l.any p
 ·have h0:idxP p l 0 < 0:=by have:=HI.out;rw[ha] at this;simpa using this
  generalize idxP p l 0=r at HC h0
  clear HI
  go_enter Tryz.func131, Tryz.ntmps131
  go_wp2_with fail
  refine HC.out.mono ?_
  rintro e w1 ⟨rfl,hb⟩
  have HB1:=Lib.hid hb
  clear hb
  go_wp2_with fail
  go_ret
  exact⟨by first | rfl | (simp;done) | (simp;omega),HB1.out⟩
 ·have h0:0≤idxP p l 0:=by have:=HI.out;rw[ha] at this;simpa using this
  generalize idxP p l 0=r at HC h0
  clear HI
  go_enter Tryz.func131, Tryz.ntmps131
  go_wp2_with fail
  refine HC.out.mono ?_
  rintro e w1 ⟨rfl,hb⟩
  have HB1:=Lib.hid hb
  clear hb
  go_wp2_with fail
  go_ret
  exact⟨by first | rfl | (simp;done) | (simp;omega),HB1.out⟩
set_option maxRecDepth 100000 in
set_option maxHeartbeats 1000000 in
theorem indexFunc_sig (c:Nat) (p:(ByteArray × Int)→Bool) (l:List (ByteArray × Int)) (a:Option Addr) (cap:Nat) (w0 w:World) (hE:SigsIn w l a cap)
  (hf:∀ (v:(ByteArray × Int)),v∈l→∀ (w':World),Below w.heap.size w w'→Calls Tryz.prog 155 #[.agg #[.string v.1,.int .i64 v.2],.pointer (some ⟨c,0,none⟩)] w' fun e w2=>e=.returned (.bool (p v))∧Below w'.heap.size w' w2) :
  Calls Tryz.prog 154 #[.slice a l.length cap,.func (.func 155) #[] #[.pointer (some ⟨c,0,none⟩)]] w fun e w'=>e=.returned (.int .i64 (idxP p l 0))∧Below w.heap.size w w':=by
 have hlen:=hE.2.1
 have HA:=Lib.hid hE.addr
 have HE:=Lib.hid hE
 have HF:=Lib.hid hf
 clear hE hf
 go_enter Tryz.func154, Tryz.ntmps154
 go_wp2_with fail
 go_loopw [8] (fun i wr=>∃ k:Nat,i=.int .i64 k∧k≤l.length∧(∀ j (hj:j < l.length),j < k→p (l[j]'hj)=false)∧Below w.heap.size w wr) (fun i _=>l.length - (intOf i).toNat)
 case atStart=>exact⟨0,rfl,Nat.zero_le _,fun _ _ h=>absurd h (by omega),Below.refl _ _⟩
 case round =>
  obtain⟨k,rfl,hk,hall,hBr⟩:=hrel
  have HAl:=Lib.hid hall
  have HB:=Lib.hid hBr
  clear hall
  by_cases hlt:k < l.length
  ·obtain⟨b,off,ha⟩:=HA.out.resolve_left (by omega)
   subst ha
   obtain⟨c0,c1⟩:=(HE.out.keep (keeps_of_below hBr)).get rfl hlt
   have HC:=Lib.hid ((HF.out (l[k]'hlt) (List.getElem_mem hlt) wr hBr).mono fun e w2 h=>(⟨h.1,hBr.trans (h.2.mono hBr.size)⟩:_∧Below w.heap.size w w2))
   clear hBr
   cases he:p (l[k]'hlt)
   ·go_wp2_with fail
    refine HC.out.mono ?_
    rintro e w2 ⟨rfl,hb2⟩
    rw[he]
    have HB2:=Lib.hid hb2
    clear hb2
    (try clear c0);(try clear c1);(try clear c2);(try clear c3);(try clear c4);(try clear c5);(try clear c6)
    go_wp2_with fail
    go_roundw
    case rel=>exact⟨k+1,by go_num,by omega,fun j hj hjk=>by
     by_cases e:j=k
     ·subst e;exact he
     ·exact HAl.out j hj (by omega),HB2.out⟩
    case measure=>simp[intOf];omega
   ·have HY:=Lib.hid (idxP_at p l k 0 hlt (fun j hj=>HAl.out j (by omega) hj) he)
    go_wp2_with fail
    refine HC.out.mono ?_
    rintro e w2 ⟨rfl,hb2⟩
    rw[he]
    have HB2:=Lib.hid hb2
    clear hb2
    (try clear c0);(try clear c1);(try clear c2);(try clear c3);(try clear c4);(try clear c5);(try clear c6)
    go_wp2_with fail
    go_ret
    exact⟨by rw[HY.out];rfl,HB2.out⟩
  ·obtain rfl:k=l.length:=by omega
   have HN:=Lib.hid (idxP_none p l 0 (fun j hj=>HAl.out j hj hj))
   go_wp2_with fail
   go_ret
   exact⟨by rw[HN.out];rfl,HB.out⟩
theorem idxP_cases {α:Type} (p:α→Bool) (l:List α):(idxP p l 0=-1∧∀ i (hi:i < l.length),p (l[i]'hi)=false)∨∃ k,∃ hk:k < l.length,idxP p l 0=(k:Int)∧p (l[k]'hk)=true∧∀ j (hj:j < k),p (l[j]'(by omega))=false:=by
 induction l with
 | nil=>exact Or.inl ⟨rfl,fun i hi=>by simp at hi⟩
 | cons x l ih =>
  cases hx:p x
  ·rcases ih with ⟨h1,h2⟩ | ⟨k,hk,h1,h2,h3⟩
   ·refine Or.inl ⟨idxP_none p _ 0 ?_,?_⟩<;>intro i hi<;>cases i with
     | zero=>exact hx
     | succ i=>exact h2 i (by simpa using hi)
   ·refine Or.inr ⟨k+1,by simpa using hk,?_,by simpa using h2,fun j hj=>?_⟩
    ·rw[idxP_at p (x::l) (k+1) 0 (by simpa using hk) (fun i hi=>by
      cases i with
      | zero=>exact hx
      | succ i=>exact h3 i (by omega)) (by simpa using h2)]
    ·cases j with
     | zero=>exact hx
     | succ j=>exact h3 j (by omega)
  ·exact Or.inr ⟨0,by simp,by unfold idxP;rw[if_pos hx],hx,fun j hj=>by omega⟩
end Go.Proofs.YtebneadheaefdaaGreatDoor
