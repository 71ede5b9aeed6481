/- Names of elements as elab and its reference make them; the index of a variable. -/
import Derived.Test.YtcplmcjbkpmhdaaGreatDoorKF
import Derived.Test.YtcplmcjbkpmhdaaGreatDoorKA
set_option linter.unusedSimpArgs false
set_option linter.unusedVariables false
set_option linter.unnecessarySimpa false
namespace Go.Proofs.YtcplmcjbkpmhdaaGreatDoor
open Go.RowKit
theorem strOf1 (i:Nat) (h:i < 8):strOfNums [(48+i:Nat)]++ByteArray.empty=(⟨#[UInt8.ofNat (48+i)]⟩:ByteArray):=by
 match i,h with
 | 0,_ | 1,_ | 2,_ | 3,_ | 4,_ | 5,_ | 6,_ | 7,_=>rfl
 | n+8,h=>exact absurd h (by omega)
theorem decDigits1 (i:Nat) (h:i < 8):Lib.decDigits i=[UInt8.ofNat (48+i)]:=by
 match i,h with
 | 0,_ | 1,_ | 2,_ | 3,_ | 4,_ | 5,_ | 6,_ | 7,_=>simp[Lib.decDigits]
 | n+8,h=>exact absurd h (by omega)
theorem rbelow_any (i:Nat) (hi:i < 8) (w:World):Calls Tryz.prog 261 #[.int .i64 i] w fun e w'=>e=.returned (.int .i64 (-(i:Int)))∧w=w':=by
 by_cases h:i=0
 ·subst h
  go_enter Tryz.func261, Tryz.ntmps261
  go_wp2_with fail
  go_ret
  exact⟨rfl,rfl⟩
 ·go_enter Tryz.func261, Tryz.ntmps261
  go_wp2_with fail
  go_ret
  exact⟨rfl,rfl⟩
set_option maxRecDepth 100000 in
set_option maxHeartbeats 4000000 in
theorem rFormat_any (i:Nat) (hi:i < 8) (w:World):Calls Tryz.prog 226 #[.int .i64 i] w fun e w'=>e=.returned (.string ⟨#[UInt8.ofNat (48+i)]⟩)∧Below w.heap.size w w':=by
 have hB:∀ j:Nat,j < 8→Hid (strOfNums [48+(j:Int)]++(⟨#[]⟩:ByteArray)=(⟨#[UInt8.ofNat (48+j)]⟩:ByteArray)):=fun j h=>by have:=strOf1 j h;rw[Int.natCast_add] at this;exact this
 have hcv:∀ (W:World) (b:Nat) (j:Int),W.cell? ⟨b,0,none⟩=some (.int .u8 j)→(convert 93 9 (.slice (some ⟨b,0,none⟩) 1 1)).run Tryz.prog W=.ok (.string (strOfNums [j])) W:=fun W b j hc =>
  run_convert_bytes_arg W 93 5 Tryz.underlying93 Tryz.underlying5 b 0 1 1 [j] rfl (fun j' hj=>by have hj0:j'=0:=(by omega);subst hj0;simpa using hc) 9 Tryz.underlying9
 have hS:=hB _ hi
 have hr:(-(i:Int)).tmod 10=-(i:Int):=by rw[Int.neg_tmod,Int.tmod_eq_emod_of_nonneg (by omega)];omega
 have hq:(-(i:Int)).tdiv 10=0:=by rw[Int.neg_tdiv,Int.tdiv_eq_ediv_of_nonneg (by omega)];omega
 have h48:(48:Int) - -(i:Int)=((48+i:Nat):Int):=by omega
 clear hB
 go_enter Tryz.func226, Tryz.ntmps226
 go_wp2_with fail
 refine(rbelow_any _ hi _).mono ?_
 rintro e w' ⟨rfl,rfl⟩
 go_wp2_with fail
 go_loopw [3,4] (fun s n wr=>s=.string ⟨#[]⟩∧n=.int .i64 (-(i:Int))∧wr=w) (fun _ _ _=>0)
 case atStart=>exact⟨rfl,rfl,rfl⟩
 case round =>
  obtain⟨rfl,rfl,rfl⟩:=hrel
  go_wp2_with fail
  go_ret
  exact⟨by rw[← hS.out];rfl,(Below.refl _ _).alloc (Nat.le_refl _) _⟩
set_option maxRecDepth 100000 in
set_option maxHeartbeats 1000000 in
theorem r14element_any (s:ByteArray) (i:Nat) (hi:i < 8) (w:World) (hs:s.size≤1073741824):Calls Tryz.prog 183 #[.string s,.int .i64 i] w fun e w'=>e=.returned (.string (elName s i))∧Below w.heap.size w w':=by
 have HN:=Lib.hid (relName_eq s i)
 have e1:(s++(⟨#[91]⟩:ByteArray)).size=s.size+1:=by simp[ByteArray.size_append];rfl
 have e3:(s++(⟨#[91]⟩:ByteArray)++(⟨#[UInt8.ofNat (48+i)]⟩:ByteArray)).size=s.size+2:=by rw[ByteArray.size_append,e1];rfl
 have HD:=Lib.hid (fun w=>rFormat_any i hi w)
 generalize UInt8.ofNat (48+i)=c at HD HN e3
 go_enter Tryz.func183, Tryz.ntmps183
 go_wp2_with (go_at_call 226;refine(HD.out _).mono ?_;rintro e w' ⟨rfl,hb⟩)
 go_ret
 exact⟨by rw[← HN.out];rfl,by assumption⟩
set_option maxRecDepth 100000 in
set_option maxHeartbeats 1000000 in
theorem element14_any (s:ByteArray) (i:Nat) (hi:i < 8) (w:World) (hs:s.size≤1073741824):Calls Tryz.prog 208 #[.string s,.int .i64 i] w fun e w'=>e=.returned (.string (elName s i))∧Below w.heap.size w w':=by
 have HN:=Lib.hid (relName_eq s i)
 have e1:(s++(⟨#[91]⟩:ByteArray)).size=s.size+1:=by simp[ByteArray.size_append];rfl
 have e3:(s++(⟨#[91]⟩:ByteArray)++(⟨#[UInt8.ofNat (48+i)]⟩:ByteArray)).size=s.size+2:=by rw[ByteArray.size_append,e1];rfl
 have hI:=Tryz.strconv_Itoa_small i (by omega) w
 rw[decDigits1 i hi] at hI
 rw[show ([UInt8.ofNat (48+i)].toArray)=#[UInt8.ofNat (48+i)] from rfl] at hI
 generalize UInt8.ofNat (48+i)=c at hI HN e3
 go_enter Tryz.func208, Tryz.ntmps208
 go_wp2_with fail
 refine hI.mono ?_
 rintro e w' ⟨rfl,rfl⟩
 go_wp2_with fail
 go_ret
 exact⟨by rw[← HN.out];rfl,Below.refl _ _⟩
end Go.Proofs.YtcplmcjbkpmhdaaGreatDoor
namespace Go.Proofs.YtcplmcjbkpmhdaaGreatDoor
open Go.RowKit
def findV:List VarD→ByteArray→Nat→Int
 | [],_,_=>-1
 | v::l,s,k=>if (v.name.toList == s.toList)=true then k else findV l s (k+1)
theorem findV_at (s:ByteArray) (l:List VarD):∀ (k j:Nat) (hk:k < l.length),(∀ i (hi:i < k),((l[i]'(by omega)).name.toList == s.toList)=false)→((l[k]'hk).name.toList == s.toList)=true→findV l s j=((k+j:Nat):Int):=by
 induction l with
 | nil=>intro k j hk;simp at hk
 | cons x l ih =>
  intro k j hk h1 h2
  cases k with
  | zero =>
   have h2':(x.name.toList == s.toList)=true:=h2
   unfold findV;rw[if_pos h2'];simp
  | succ k =>
   have h0:(x.name.toList == s.toList)=false:=h1 0 (by omega)
   unfold findV
   rw[if_neg (by rw[h0];simp),ih k (j+1) (by simpa using hk) (fun i hi=>h1 (i+1) (by omega)) h2]
   omega
theorem findV_none (s:ByteArray) (l:List VarD):∀ j,(∀ i (hi:i < l.length),((l[i]'hi).name.toList == s.toList)=false)→findV l s j=-1:=by
 induction l with
 | nil=>intro _ _;rfl
 | cons x l ih =>
  intro j h1
  have h0:=h1 0 (by simp)
  unfold findV
  rw[if_neg (by simpa using h0)]
  exact ih (j+1) (fun i hi=>h1 (i+1) (by simpa using hi))
set_option maxHeartbeats 1000000 in
theorem r14find_any (l:List VarD) (a:Option Addr) (cap:Nat) (s:ByteArray) (w:World) (hE:VarsIn w l a cap) :
  Calls Tryz.prog 127 #[.slice a l.length cap,.string s] w fun e w'=>e=.returned (.int .i64 (findV l s 0))∧w=w':=by
 have hlen:=hE.2.1
 have HA:=Lib.hid hE.addr
 have HE:=Lib.hid hE
 clear hE
 go_enter Tryz.func127, Tryz.ntmps127
 go_wp2_with fail
 go_loop [5] (fun i=>∃ k:Nat,i=.int .i64 k∧k≤l.length∧∀ j (hj:j < l.length),j < k→((l[j]'hj).name.toList == s.toList)=false) (fun i=>l.length - (intOf i).toNat)
 case atStart=>exact⟨0,rfl,Nat.zero_le _,fun _ _ h=>absurd h (by omega)⟩
 case round =>
  obtain⟨k,rfl,hk,hall⟩:=hrel
  have HAl:=Lib.hid hall
  clear hall
  by_cases hlt:k < l.length
  ·obtain⟨b,off,ha⟩:=HA.out.resolve_left (by omega)
   subst ha
   obtain⟨c0,_⟩:=HE.out.get rfl hlt
   cases he:((l[k]'hlt).name.toList == s.toList)
   ·go_wp2_with fail
    go_round
    case rel=>exact⟨k+1,by go_num,by omega,fun j hj hjk=>by
     by_cases e:j=k
     ·subst e;exact he
     ·exact HAl.out j hj (by omega)⟩
    case measure=>simp[intOf];omega
   ·have HY:=Lib.hid (findV_at s l k 0 hlt (fun j hj=>HAl.out j (by omega) hj) he)
    go_wp2_with fail
    go_ret
    exact⟨by rw[HY.out];rfl,rfl⟩
  ·obtain rfl:k=l.length:=by omega
   have HN:=Lib.hid (findV_none s l 0 (fun j hj=>HAl.out j hj hj))
   go_wp2_with fail
   go_ret
   exact⟨by rw[HN.out];rfl,rfl⟩
def varVal (v:VarD):Value:=.agg #[.string v.name,.int .i64 v.width,.int .i64 v.mode,.int .i64 v.value]
def idxP {α:Type} (p:α→Bool):List α→Nat→Int
 | [],_=>-1
 | v::l,k=>if p v=true then k else idxP p l (k+1)
theorem idxP_at {α:Type} (p:α→Bool) (l:List α):∀ (k j:Nat) (hk:k < l.length),(∀ i (hi:i < k),p (l[i]'(by omega))=false)→p (l[k]'hk)=true→idxP p l j=((k+j:Nat):Int):=by
 induction l with
 | nil=>intro k j hk;simp at hk
 | cons x l ih =>
  intro k j hk h1 h2
  cases k with
  | zero =>
   have h2':p x=true:=h2
   unfold idxP;rw[if_pos h2'];simp
  | succ k =>
   have h0:p x=false:=h1 0 (by omega)
   unfold idxP
   rw[if_neg (by rw[h0];simp),ih k (j+1) (by simpa using hk) (fun i hi=>h1 (i+1) (by omega)) h2]
   omega
theorem idxP_none {α:Type} (p:α→Bool) (l:List α):∀ j,(∀ i (hi:i < l.length),p (l[i]'hi)=false)→idxP p l j=-1:=by
 induction l with
 | nil=>intro _ _;rfl
 | cons x l ih =>
  intro j h1
  have h0:p x=false:=h1 0 (by simp)
  unfold idxP
  rw[if_neg (by rw[h0];simp)]
  exact ih (j+1) (fun i hi=>h1 (i+1) (by simpa using hi))
theorem findV_idx (s:ByteArray) (l:List VarD):∀ k,findV l s k=idxP (fun v=>v.name.toList == s.toList) l k:=by
 induction l with
 | nil=>intro k;rfl
 | cons v l ih=>intro k;unfold findV idxP;rw[ih]
set_option maxHeartbeats 400000 in
theorem index1_any (v:VarD) (c:Nat) (s:ByteArray) (w:World) (hc:w.cell? ⟨c,0,none⟩=some (.string s)) :
  Calls Tryz.prog 209 #[varVal v,.pointer (some ⟨c,0,none⟩)] w fun e w'=>e=.returned (.bool (v.name.toList == s.toList))∧Below w.heap.size w w':=by
 have hlt:=World.block_lt_of_cell? _ _ hc
 have hcA:∀ o,(w.alloc o).cell? ⟨c,0,none⟩=_:=fun o=>(World.cell?_alloc_lt _ _ _ hlt).trans hc
 unfold varVal
 go_enter Tryz.func209, Tryz.ntmps209
 go_wp2_with fail
 go_ret
 exact⟨rfl,bel⟩
set_option maxRecDepth 100000 in
set_option maxHeartbeats 1000000 in
theorem indexFuncV_index (c:Nat) (p:VarD→Bool) (l:List VarD) (a:Option Addr) (cap:Nat) (w0 w:World) (hE:VarsIn w l a cap)
  (hf:∀ (v:VarD),v∈l→∀ (w':World),Below w.heap.size w w'→Calls Tryz.prog 209 #[varVal v,.pointer (some ⟨c,0,none⟩)] w' fun e w2=>e=.returned (.bool (p v))∧Below w'.heap.size w' w2) :
  Calls Tryz.prog 190 #[.slice a l.length cap,.func (.func 209) #[] #[.pointer (some ⟨c,0,none⟩)]] w fun e w'=>e=.returned (.int .i64 (idxP p l 0))∧Below w.heap.size w w':=by
 have hlen:=hE.2.1
 have HA:=Lib.hid hE.addr
 have HE:=Lib.hid hE
 have HF:=Lib.hid hf
 clear hE hf
 go_enter Tryz.func190, Tryz.ntmps190
 go_wp2_with fail
 go_loopw [8] (fun i wr=>∃ k:Nat,i=.int .i64 k∧k≤l.length∧(∀ j (hj:j < l.length),j < k→p (l[j]'hj)=false)∧Below w.heap.size w wr) (fun i _=>l.length - (intOf i).toNat)
 case atStart=>exact⟨0,rfl,Nat.zero_le _,fun _ _ h=>absurd h (by omega),Below.refl _ _⟩
 case round =>
  obtain⟨k,rfl,hk,hall,hBr⟩:=hrel
  have HAl:=Lib.hid hall
  have HB:=Lib.hid hBr
  clear hall
  by_cases hlt:k < l.length
  ·obtain⟨b,off,ha⟩:=HA.out.resolve_left (by omega)
   subst ha
   obtain⟨c0,c1,c2,c3,_⟩:=(HE.out.keep (keeps_of_below hBr)).get rfl hlt
   have HC:=Lib.hid ((HF.out (l[k]'hlt) (List.getElem_mem hlt) wr hBr).mono fun e w2 h=>(⟨h.1,hBr.trans (h.2.mono hBr.size)⟩:_∧Below w.heap.size w w2))
   simp only[varVal] at HC
   clear hBr
   cases he:p (l[k]'hlt)
   ·go_wp2_with fail
    refine HC.out.mono ?_
    rintro e w2 ⟨rfl,hb2⟩
    rw[he]
    have HB2:=Lib.hid hb2
    clear hb2 c0 c1 c2 c3
    go_wp2_with fail
    go_roundw
    case rel=>exact⟨k+1,by go_num,by omega,fun j hj hjk=>by
     by_cases e:j=k
     ·subst e;exact he
     ·exact HAl.out j hj (by omega),HB2.out⟩
    case measure=>simp[intOf];omega
   ·have HY:=Lib.hid (idxP_at p l k 0 hlt (fun j hj=>HAl.out j (by omega) hj) he)
    go_wp2_with fail
    refine HC.out.mono ?_
    rintro e w2 ⟨rfl,hb2⟩
    rw[he]
    have HB2:=Lib.hid hb2
    clear hb2 c0 c1 c2 c3
    go_wp2_with fail
    go_ret
    exact⟨by rw[HY.out];rfl,HB2.out⟩
  ·obtain rfl:k=l.length:=by omega
   have HN:=Lib.hid (idxP_none p l 0 (fun j hj=>HAl.out j hj hj))
   go_wp2_with fail
   go_ret
   exact⟨by rw[HN.out];rfl,HB.out⟩
set_option maxHeartbeats 400000 in
theorem index_any (l:List VarD) (a:Option Addr) (cap:Nat) (s:ByteArray) (w:World) (hE:VarsIn w l a cap) :
  Calls Tryz.prog 157 #[.slice a l.length cap,.string s] w fun e w'=>e=.returned (.int .i64 (findV l s 0))∧Below w.heap.size w w':=by
 have hB:Below w.heap.size w (w.alloc (.cells #[.string s] 9)):=bel
 have hC:=indexFuncV_index w.heap.size (fun v=>v.name.toList == s.toList) l a cap w _ (hE.keep (keeps_of_below hB)) (fun v _ w' hb=>index1_any v w.heap.size s w' ((hb.cell (by simp)).trans (by simp)))
 have HC:=Lib.hid hC
 have HB:=Lib.hid hB
 have HI:=Lib.hid (findV_idx s l 0)
 clear hC hB hE
 go_enter Tryz.func157, Tryz.ntmps157
 go_wp2_with fail
 refine HC.out.mono ?_
 rintro e w1 ⟨rfl,hb⟩
 have HB1:=Lib.hid hb
 clear hb
 go_wp2_with fail
 go_ret
 exact⟨by rw[HI.out];rfl,HB.out.trans (HB1.out.mono (by simp))⟩
end Go.Proofs.YtcplmcjbkpmhdaaGreatDoor
namespace Go.Proofs.YtcplmcjbkpmhdaaGreatDoor
open Go.RowKit
theorem elName_list (A:List UInt8) (i:Nat):(elName ⟨A.toArray⟩ i).data.toList=A++[91,UInt8.ofNat (48+i),93]:=by
 simp[elName]
theorem match_elem (s:ByteArray) (A:List UInt8) (i:Nat) (hi:i < 8) (hn:nameB A=true) (h:(s.toList == (elName ⟨A.toArray⟩ i).toList)=true):elemB s.data.toList=true:=by
 have h':=eq_of_beq h
 rw[ByteArray.toList_eq,ByteArray.toList_eq,elName_list] at h'
 rw[elemB_iff]
 refine⟨A,UInt8.ofNat (48+i),h',hn,?_,?_⟩<;>simp<;>omega
theorem elem_match {s:ByteArray} (h:elemB s.data.toList=true):∃ A i,i < 8∧nameB A=true∧Lib.cut s.data.toList [91]=(A,[UInt8.ofNat (48+i),93],true)∧s.data.toList=A++[91,UInt8.ofNat (48+i),93]∧(s.toList == (elName ⟨A.toArray⟩ i).toList)=true:=by
 obtain⟨A,x,he,hn,h1,h2⟩:=(elemB_iff _).1 h
 have hx:UInt8.ofNat (48+(x.toNat - 48))=x:=by
  rw[show 48+(x.toNat - 48)=x.toNat from by omega];exact UInt8.ofNat_toNat
 refine⟨A,x.toNat - 48,by omega,hn,?_,?_,?_⟩
 ·rw[he,hx];exact cut_eq A [x,93] (nameB_no91 hn)
 ·rw[hx];exact he
 ·rw[beq_iff_eq,ByteArray.toList_eq,ByteArray.toList_eq,elName_list,hx];exact he
set_option maxHeartbeats 2000000 in
theorem named_any (s:ByteArray) (w:World) (hs:s.size≤1073741824) (hG:Glob w) :
  Calls Tryz.prog 156 #[.string s] w fun e w'=>e=.returned (.bool (varB s.data.toList))∧Below w.heap.size w w':=by
 have HG:=Lib.hid hG
 have HN:=Lib.hid (isName_any s w hs hG)
 clear hG
 cases hn:nameB s.data.toList
 ·have HV:Hid (varB s.data.toList=elemB s.data.toList):=by show _=_;unfold varB;rw[hn,Bool.or_false]
  have HEM:=Lib.hid (@elem_match s)
  have HME:=Lib.hid (match_elem s)
  have hcl:(Lib.cut s.data.toList [91]).1.length≤s.size:=by rw[Lib.size_eq];exact cut_le _
  generalize hcut:Lib.cut s.data.toList [91]=c at hcl HEM
  obtain⟨A,r,ok⟩:=c
  have HCut:=Lib.hid hcut
  have hsz:(⟨A.toArray⟩:ByteArray).size≤1073741824:=by show A.toArray.size≤_;simp at hcl⊢;omega
  clear hcut hcl
  go_enter Tryz.func156, Tryz.ntmps156
  go_wp2_with fail
  refine HN.out.mono ?_
  rintro e w1 ⟨rfl,hb1⟩
  rw[hn]
  obtain⟨m,hm⟩:=(HG.out.below hb1).1
  have hC:=Tryz.strings_Cut s ⟨#[91]⟩ m w1 (by omega) hm
  have e91:(⟨#[91]⟩:ByteArray).data.toList=[91]:=rfl
  rw[e91,HCut.out] at hC
  have HC:=Lib.hid hC
  have HB1:=Lib.hid hb1
  clear hC e91 hb1 hm
  go_wp2_with fail
  refine HC.out.mono ?_
  rintro e w2 ⟨rfl,kd,rfl⟩
  have hB2:Below w.heap.size w (w1.drewN kd):=below_drewN HB1.out kd
  have hNA:=Lib.hid ((isName_any ⟨A.toArray⟩ (w1.drewN kd) hsz (HG.out.below hB2)).mono fun e w' h=>(⟨h.1,hB2.trans (h.2.mono hB2.size)⟩:_∧Below w.heap.size w w'))
  have HB2:=Lib.hid hB2
  clear hB2
  cases ok
  ·have hno:Hid (varB s.data.toList=false):=by
    show _=_
    rw[HV.out]
    cases he:elemB s.data.toList
    ·rfl
    ·obtain⟨A',i,_,_,hc,_⟩:=HEM.out he
     simp at hc
   go_wp2_with fail
   go_ret
   exact⟨by rw[hno.out];rfl,HB2.out⟩
  ·cases hA:nameB A
   ·have hno:Hid (varB s.data.toList=false):=by
     show _=_
     rw[HV.out]
     cases he:elemB s.data.toList
     ·rfl
     ·obtain⟨A',i,_,hnA,hc,_⟩:=HEM.out he
      simp only[Prod.mk.injEq] at hc
      rw[hc.1] at hA;rw[hA] at hnA;simp at hnA
    go_wp2_with (go_at_call 200;refine hNA.out.mono ?_;rintro e w2 ⟨rfl,hb2⟩;rw[hA])
    go_ret
    exact⟨by rw[hno.out];rfl,by assumption⟩
   ·go_wp2_with (go_at_call 200;refine hNA.out.mono ?_;rintro e w2 ⟨rfl,hb2⟩;rw[hA];have HB3:=Lib.hid hb2;clear hb2)
    go_loopw [22] (fun i wr=>∃ k:Nat,i=.int .i64 k∧k≤8∧(∀ j,j < k→(s.toList == (elName ⟨A.toArray⟩ j).toList)=false)∧Below w.heap.size w wr) (fun i _=>8 - (intOf i).toNat)
    case atStart=>exact⟨0,rfl,by omega,fun _ h=>absurd h (by omega),(by assumption:Hid (Below w.heap.size w _)).out⟩
    case round =>
     obtain⟨k,rfl,hk,hall,hBr⟩:=hrel
     have HAl:=Lib.hid hall
     have HBr:=Lib.hid hBr
     clear hall
     by_cases hlt:k < 8
     ·have HE:=Lib.hid ((element14_any ⟨A.toArray⟩ k hlt wr hsz).mono fun e w' h=>(⟨h.1,hBr.trans (h.2.mono hBr.size)⟩:_∧Below w.heap.size w w'))
      clear hBr
      cases he:(s.toList == (elName ⟨A.toArray⟩ k).toList)
      ·go_wp2_with (go_at_call 208;refine HE.out.mono ?_;rintro e w3 ⟨rfl,hb3⟩;have HB4:=Lib.hid hb3;clear hb3)
       go_roundw
       case rel=>exact⟨k+1,by go_num,by omega,fun j hj=>by
        by_cases e:j=k
        ·subst e;exact he
        ·exact HAl.out j (by omega),(by assumption:Hid (Below w.heap.size w _)).out⟩
       case measure=>simp[intOf];omega
      ·have hyes:Hid (varB s.data.toList=true):=by show _=_;rw[HV.out];exact HME.out A k hlt hA he
       go_wp2_with (go_at_call 208;refine HE.out.mono ?_;rintro e w3 ⟨rfl,hb3⟩;have HB4:=Lib.hid hb3;clear hb3)
       go_ret
       exact⟨by rw[hyes.out];rfl,by assumption⟩
     ·have hno:Hid (varB s.data.toList=false):=by
       show _=_
       rw[HV.out]
       cases he:elemB s.data.toList
       ·rfl
       ·obtain⟨A',i,hi,_,hc,_,hm⟩:=HEM.out he
        simp only[Prod.mk.injEq] at hc
        rw[← hc.1] at hm
        have:=HAl.out i (by omega)
        rw[this] at hm;simp at hm
      go_wp2_with fail
      go_ret
      exact⟨by rw[hno.out];rfl,HBr.out⟩
 ·have hyes:Hid (varB s.data.toList=true):=by show _=_;unfold varB;rw[hn,Bool.or_true]
  go_enter Tryz.func156, Tryz.ntmps156
  go_wp2_with fail
  refine HN.out.mono ?_
  rintro e w1 ⟨rfl,hb1⟩
  rw[hn]
  have HB1:=Lib.hid hb1
  clear hb1
  go_wp2_with fail
  go_ret
  exact⟨by rw[hyes.out];rfl,HB1.out⟩
end Go.Proofs.YtcplmcjbkpmhdaaGreatDoor
namespace Go.Proofs.YtcplmcjbkpmhdaaGreatDoor
open Go.RowKit
def NoTo (s:ByteArray) (k:Nat):Prop:=∀ j,j < k→∀ i:Nat,i < 8→nameB (s.data.toList.take j)=true→(s.toList == (elName ⟨(s.data.toList.take j).toArray⟩ i).toList)=false
theorem noTo_end {s:ByteArray} (h:NoTo s s.size):elemB s.data.toList=false:=by
 cases he:elemB s.data.toList
 ·rfl
 ·obtain⟨A,i,hi,hn,_,hs,hm⟩:=elem_match he
  have hl:=congrArg List.length hs
  simp only[List.length_append,List.length_cons,List.length_nil] at hl
  have hsz:s.data.toList.length=s.size:=by simp
  have ht:s.data.toList.take A.length=A:=by rw[hs];simp
  have:=h A.length (by omega) i hi (by rw[ht];exact hn)
  rw[ht,hm] at this
  simp at this
theorem match_at {s:ByteArray} {k i:Nat} (hk:k < s.size) (h:(s.toList == (elName ⟨(s.data.toList.take k).toArray⟩ i).toList)=true):(s[k]'hk).toNat=91:=by
 have h':=eq_of_beq h
 rw[ByteArray.toList_eq,ByteArray.toList_eq,elName_list] at h'
 have hsz:s.data.toList.length=s.size:=by simp
 have h1:s.data.toList[k]? = some (s[k]'hk):=by
  rw[List.getElem?_eq_getElem (by omega)];rfl
 rw[h'] at h1
 rw[List.getElem?_append_right (by simp;omega)] at h1
 have:k - (s.data.toList.take k).length=0:=by simp;omega
 rw[this] at h1
 simp only[List.getElem?_cons_zero,Option.some.injEq] at h1
 rw[← h1];rfl
theorem noTo_skip {s:ByteArray} {k:Nat} (h:NoTo s k) (h2:∀ i:Nat,i < 8→nameB (s.data.toList.take k)=true→(s.toList == (elName ⟨(s.data.toList.take k).toArray⟩ i).toList)=false):NoTo s (k+1):=by
 intro j hj
 by_cases e:j=k
 ·subst e;exact h2
 ·exact h j (by omega)
set_option maxRecDepth 100000 in
set_option maxHeartbeats 2000000 in
theorem r14Named_any (s:ByteArray) (w:World) (hs:s.size≤1073741824) :
  Calls Tryz.prog 182 #[.string s] w fun e w'=>e=.returned (.bool (varB s.data.toList))∧Below w.heap.size w w':=by
 have HN:=Lib.hid (risName_any s w hs)
 cases hn:nameB s.data.toList
 ·have HV:Hid (varB s.data.toList=elemB s.data.toList):=by show _=_;unfold varB;rw[hn,Bool.or_false]
  go_enter Tryz.func182, Tryz.ntmps182
  go_wp2_with fail
  refine HN.out.mono ?_
  rintro e w1 ⟨rfl,hb1⟩
  rw[hn]
  have HB1:=Lib.hid hb1
  clear hb1
  go_wp2_with fail
  go_loopw [3] (fun i wr=>∃ k:Nat,i=.int .i64 k∧1≤k∧(k≤s.size∨k=1)∧NoTo s k∧Below w.heap.size w wr) (fun i _=>s.size - (intOf i).toNat)
  case atStart =>
   refine⟨1,rfl,by omega,Or.inr rfl,?_,HB1.out⟩
   intro j hj i hi hn0
   obtain rfl:j=0:=by omega
   rw[List.take_zero] at hn0
   exact absurd hn0 (by decide)
  case round =>
   obtain⟨k,rfl,hk1,hk,hno,hBr⟩:=hrel
   have HNo:=Lib.hid hno
   have HBr:=Lib.hid hBr
   clear hno
   by_cases hlt:k < s.size
   ·have HT:=Lib.hid (str_take s k (by omega))
    have HS:=Lib.hid (risName_any (s.extract 0 k) wr (by rw[ByteArray.size_extract];omega))
    have HS':=Lib.hid (HS.out.mono fun e w' h=>(⟨h.1,hBr.trans (h.2.mono hBr.size)⟩:_∧Below w.heap.size w w'))
    have HM:=Lib.hid (fun i=>@match_at s k i hlt)
    clear HS hBr
    rw[HT.out] at HS'
    by_cases h91:(s[k]'hlt).toNat=91
    ·cases hA:nameB (s.data.toList.take k)
     ·have HSk:=Lib.hid (noTo_skip HNo.out (fun i _ h=>by rw[hA] at h;simp at h))
      go_wp2_with (go_at_call 224;refine HS'.out.mono ?_;rintro e w2 ⟨rfl,hb2⟩;rw[hA];have HB2:=Lib.hid hb2;clear hb2)
      go_roundw
      case rel=>exact⟨k+1,by go_num,by omega,Or.inl (by omega),HSk.out,(by assumption:Hid (Below w.heap.size w _)).out⟩
      case measure=>simp[intOf];omega
     ·go_wp2_with (go_at_call 224;refine HS'.out.mono ?_;rintro e w2 ⟨rfl,hb2⟩;rw[hA];have HB2:=Lib.hid hb2;clear hb2)
      have hsz:(⟨(s.data.toList.take k).toArray⟩:ByteArray).size≤1073741824:=by show (s.data.toList.take k).toArray.size≤_;simp;omega
      have hex:s.extract 0 k=(⟨(s.data.toList.take k).toArray⟩:ByteArray):=by
       apply ByteArray.ext
       apply Array.ext'
       rw[HT.out]
      have Hex:=Lib.hid hex
      clear hex hsz
      have Hsz:Hid ((⟨(s.data.toList.take k).toArray⟩:ByteArray).size≤1073741824):=by show (s.data.toList.take k).toArray.size≤_;simp;omega
      go_loopw [4] (fun i wr=>∃ q:Nat,i=.int .i64 q∧q≤8∧(∀ j:Nat,j < q→(s.toList == (elName ⟨(s.data.toList.take k).toArray⟩ j).toList)=false)∧Below w.heap.size w wr) (fun i _=>8 - (intOf i).toNat)
      case atStart=>exact⟨0,rfl,by omega,fun _ h=>absurd h (by omega),(by assumption:Hid (Below w.heap.size w _)).out⟩
      case round =>
       obtain⟨q,rfl,hq,hall,hBq⟩:=hrel
       have HAl:=Lib.hid hall
       have HBq:=Lib.hid hBq
       clear hall
       by_cases hlq:q < 8
       ·have HE:=Lib.hid ((r14element_any ⟨(s.data.toList.take k).toArray⟩ q hlq wr Hsz.out).mono fun e w' h=>(⟨h.1,hBq.trans (h.2.mono hBq.size)⟩:_∧Below w.heap.size w w'))
        rw[← Hex.out] at HE
        clear hBq
        cases he:(s.toList == (elName ⟨(s.data.toList.take k).toArray⟩ q).toList)
        ·rw[← Hex.out] at he
         go_wp2_with (go_at_call 183;refine HE.out.mono ?_;rintro e w3 ⟨rfl,hb3⟩;have HB4:=Lib.hid hb3;clear hb3)
         go_roundw
         case rel=>exact⟨q+1,by go_num,by omega,fun j hj=>by
          by_cases e:j=q
          ·subst e;rw[← Hex.out];exact he
          ·exact HAl.out j (by omega),(by assumption:Hid (Below w.heap.size w _)).out⟩
         case measure=>simp[intOf];omega
        ·have hyes:Hid (varB s.data.toList=true):=by show _=_;rw[HV.out];exact match_elem s _ q hlq hA he
         rw[← Hex.out] at he
         go_wp2_with (go_at_call 183;refine HE.out.mono ?_;rintro e w3 ⟨rfl,hb3⟩;have HB4:=Lib.hid hb3;clear hb3)
         go_ret
         exact⟨by rw[hyes.out];rfl,by assumption⟩
       ·have HSk:=Lib.hid (noTo_skip HNo.out (fun i hi _=>HAl.out i (by omega)))
        go_wp2_with fail
        go_roundw
        case rel=>exact⟨k+1,by go_num,by omega,Or.inl (by omega),HSk.out,HBq.out⟩
        case measure=>simp[intOf];omega
    ·have hne:(((s[k]'hlt).toNat:Int) != 91)=true:=by simp;omega
     have HSk:=Lib.hid (noTo_skip HNo.out (fun i _ _=>by
      cases hm:(s.toList == (elName ⟨(s.data.toList.take k).toArray⟩ i).toList)
      ·rfl
      ·exact absurd (HM.out i hm) h91))
     go_wp2_with fail
     go_roundw
     case rel=>exact⟨k+1,by go_num,by omega,Or.inl (by omega),HSk.out,HBr.out⟩
     case measure=>simp[intOf];omega
   ·have hend:Hid (varB s.data.toList=false):=by
     show _=_
     rw[HV.out]
     refine noTo_end (fun j hj=>HNo.out j (by omega))
    go_wp2_with fail
    go_ret
    exact⟨by rw[hend.out];rfl,HBr.out⟩
 ·have hyes:Hid (varB s.data.toList=true):=by show _=_;unfold varB;rw[hn,Bool.or_true]
  go_enter Tryz.func182, Tryz.ntmps182
  go_wp2_with fail
  refine HN.out.mono ?_
  rintro e w1 ⟨rfl,hb1⟩
  rw[hn]
  have HB1:=Lib.hid hb1
  clear hb1
  go_wp2_with fail
  go_ret
  exact⟨by rw[hyes.out];rfl,HB1.out⟩
end Go.Proofs.YtcplmcjbkpmhdaaGreatDoor
namespace Go.Proofs.YtcplmcjbkpmhdaaGreatDoor
open Go.RowKit
def ErrIff (P:Prop) (e:Ending):Prop:=∃ n:Int,e=.returned (.int .i64 n)∧(n=0↔P)
theorem ErrIff.yes {P:Prop} (h:P):ErrIff P (.returned (.int .i64 0)):=⟨0,rfl,by simp[h]⟩
theorem ErrIff.no {P:Prop} {n:Int} (h:¬ P) (hn:n≠0):ErrIff P (.returned (.int .i64 n)):=⟨n,rfl,by simp[h,hn]⟩
theorem ErrIff.congr {P Q:Prop} {e:Ending} (h:ErrIff P e) (hpq:P↔Q):ErrIff Q e:=by
 obtain⟨n,h1,h2⟩:=h;exact⟨n,h1,h2.trans hpq⟩
theorem ErrIff.ok {P:Prop} {e:Ending} (h:ErrIff P e) (hp:P):e=.returned (.int .i64 0):=by
 obtain⟨n,h1,h2⟩:=h;rw[h1,h2.2 hp]
theorem errT {P:Program} {f:FuncId} {args:Array Value} {w:World} {R:Prop} {B:World→Prop} (h:Calls P f args w fun e w'=>ErrIff R e∧B w') (hR:R):Calls P f args w fun e w'=>e=.returned (.int .i64 0)∧B w' :=
 h.mono fun _ _ h=>⟨h.1.ok hR,h.2⟩
def NotNil (e:Ending):Prop:=∃ n:Int,e=.returned (.int .i64 n)∧(n != 0)=true
theorem errF {P:Program} {f:FuncId} {args:Array Value} {w:World} {R:Prop} {B:World→Prop} (h:Calls P f args w fun e w'=>ErrIff R e∧B w') (hR:¬ R):Calls P f args w fun e w'=>NotNil e∧B w' :=
 h.mono fun _ _ h=>⟨by obtain⟨n,h1,h2⟩:=h.1;exact⟨n,h1,by simpa using fun h=>hR (h2.1 h)⟩,h.2⟩
noncomputable def pB (P:Prop):Bool:=@decide P (Classical.propDecidable P)
theorem pB_true {P:Prop} (h:P):pB P=true:=by unfold pB;exact @decide_eq_true P (Classical.propDecidable P) h
theorem pB_false {P:Prop} (h:¬ P):pB P=false:=by unfold pB;exact @decide_eq_false P (Classical.propDecidable P) h
theorem pB_iff {P:Prop}:pB P=true↔P:=by unfold pB;exact @decide_eq_true_iff P (Classical.propDecidable P)
def varNumsB (v:VarD):Bool:=decide (1≤v.width) && decide (v.width≤8) && decide (0≤v.mode) && decide (v.mode≤2) && decide (0≤v.value) && decide (v.value < 2 ^ v.width.toNat) && (v.mode == 0 || v.value == 0)
def varOkB (v:VarD):Bool:=varB v.name.data.toList && varNumsB v
theorem pow8 {n:Int} (h:n≤8):(1:Int)≤2 ^ n.toNat∧(2:Int) ^ n.toNat≤256:=by
 refine⟨Int.pow_pos (by decide),?_⟩
 have h':((2 ^ n.toNat:Nat):Int)≤((2 ^ 8:Nat):Int):=Int.ofNat_le.2 (Nat.pow_le_pow_right (by decide) (by omega))
 rw[Int.natCast_pow] at h'
 simpa using h'
theorem pow_pack (n:Int) (h1:n≤8):∃ p:Int,(2:Int) ^ n.toNat=p∧IntKind.i64.wrap (2 ^ n.toNat)=p∧1≤p∧p≤256:=by
 have hp:=pow8 h1
 exact⟨_,rfl,by rw[IntKind.wrap_i64];omega,hp.1,hp.2⟩
set_option maxHeartbeats 4000000 in
theorem r14variable_any (v:VarD) (w:World) (hs:v.name.size≤1073741824) :
  Calls Tryz.prog 126 #[varVal v] w fun e w'=>ErrIff (varOkB v=true) e∧Below w.heap.size w w':=by
 obtain⟨name,width,mode,value⟩:=v
 have HN:=Lib.hid (fun W (hW:Below w.heap.size w W) hz=>fr (W0:=w) (B:=w.heap.size) (r14Named_any name W hs) hW hz)
 unfold varVal
 cases hn:varB name.data.toList
 ·have HR:Hid (varOkB ⟨name,width,mode,value⟩=false):=by show _=_;unfold varOkB;rw[hn];rfl
  go_enter Tryz.func126, Tryz.ntmps126
  go_wp2_with (go_at_call 182;refine(HN.out _ bel sz).mono ?_;rintro e w1 ⟨rfl,hc1,hf1,hz1,hb1⟩;rw[hn])
  go_ret
  exact⟨.no (by rw[HR.out];decide) (by decide),by assumption⟩
 ·have HR:Hid (varOkB ⟨name,width,mode,value⟩=varNumsB ⟨name,width,mode,value⟩):=by show _=_;unfold varOkB;rw[hn];rfl
  by_cases hb:1≤width∧width≤8∧0≤mode∧mode≤2∧0≤value
  ·obtain⟨h1,h2,h3,h4,h5⟩:=hb
   have HR2:Hid (varOkB ⟨name,width,mode,value⟩=(decide (value < 2 ^ width.toNat) && (mode == 0 || value == 0))):=by
    show _=_;rw[HR.out];unfold varNumsB;simp[h1,h2,h3,h4,h5]
   obtain⟨pw,hpw,hwp,p1,p2⟩:=pow_pack width h2
   have h0w:0≤width:=by omega
   rw[hpw] at HR2
   clear hpw
   go_enter Tryz.func126, Tryz.ntmps126
   go_wp2_with (go_at_call 182;refine(HN.out _ bel sz).mono ?_;rintro e w1 ⟨rfl,hc1,hf1,hz1,hb1⟩;rw[hn])
   simp only[World.size_alloc] at hc1
   have c1:w1.cell? ⟨w.heap.size,1,none⟩=some (.int .i64 width):=(hc1 _ _ (by omega)).trans (by simp)
   have c2:w1.cell? ⟨w.heap.size,2,none⟩=some (.int .i64 mode):=(hc1 _ _ (by omega)).trans (by simp)
   have c3:w1.cell? ⟨w.heap.size,3,none⟩=some (.int .i64 value):=(hc1 _ _ (by omega)).trans (by simp)
   have HB1:=Lib.hid hb1
   clear hc1 hf1 hz1 hb1
   by_cases m0:mode=0
   ·subst m0
    by_cases hv:value < pw
    ·have hd:decide (pw≤value)=false:=by simpa using hv
     go_quiet (fail)
     go_wp2_with fail
     go_ret
     exact⟨ErrIff.congr (.yes trivial) (by rw[HR2.out];simp[hv]),(below_drewN HB1.out _)⟩
    ·have hd:decide (pw≤value)=true:=by simpa using hv
     go_quiet (fail)
     go_wp2_with fail
     go_ret
     exact⟨.no (by rw[HR2.out];simp[hv]) (by decide),(below_drewN HB1.out _)⟩
   ·have m0b:(mode == 0)=false:=by simpa using m0
    have m0c:(mode != 0)=true:=by simpa using m0
    clear m0
    by_cases hv:value=0
    ·subst hv
     go_quiet (fail)
     go_wp2_with fail
     go_ret
     exact⟨ErrIff.congr (.yes trivial) (by rw[HR2.out];simp;omega),(below_drewN HB1.out _)⟩
    ·have m1b:(value == 0)=false:=by simpa using hv
     have m1c:(value != 0)=true:=by simpa using hv
     clear hv
     go_quiet (fail)
     go_wp2_with fail
     go_ret
     exact⟨.no (by rw[HR2.out];simp[m0b,m1b]) (by decide),(below_drewN HB1.out _)⟩
  ·have HR2:Hid (varOkB ⟨name,width,mode,value⟩=false):=by
    show _=_;rw[HR.out]
    cases hv:varNumsB ⟨name,width,mode,value⟩
    ·rfl
    ·unfold varNumsB at hv
     simp only[Bool.and_eq_true,decide_eq_true_eq] at hv
     exact absurd ⟨hv.1.1.1.1.1.1,hv.1.1.1.1.1.2,hv.1.1.1.1.2,hv.1.1.1.2,hv.1.1.2⟩ hb
   go_enter Tryz.func126, Tryz.ntmps126
   go_upto_region 5 with (go_at_call 182;refine(HN.out _ bel sz).mono ?_;rintro e w1 ⟨rfl,hc1,hf1,hz1,hb1⟩;rw[hn])
   all_goals first
    | (exfalso;omega)
    | (go_ret;exact⟨.no (by rw[HR2.out];decide) (by decide),by assumption⟩)
end Go.Proofs.YtcplmcjbkpmhdaaGreatDoor
namespace Go.Proofs.YtcplmcjbkpmhdaaGreatDoor
open Go.RowKit
def GapOf (l:List VarD) (s:ByteArray):Prop:=∃ (A:List UInt8) (n:Nat),1≤n∧n < 8∧(s.toList == (elName ⟨A.toArray⟩ n).toList)=true∧findV l (elName ⟨A.toArray⟩ (n - 1)) 0 < 0
theorem toList_eq_iff (s t:ByteArray):(s.toList == t.toList)=true↔s.data.toList=t.data.toList:=by
 rw[beq_iff_eq,ByteArray.toList_eq,ByteArray.toList_eq]
theorem varB_elem {A:List UInt8} {x y z:UInt8} (h:varB (A++[x,y,z])=true) (hx:x=91):nameB A=true:=by
 subst hx
 unfold varB at h
 rw[Bool.or_eq_true] at h
 rcases h with h | h
 ·obtain⟨A',x',he,hn,_⟩:=(elemB_iff _).1 h
  have hl:=congrArg List.length he
  simp only[List.length_append,List.length_cons,List.length_nil] at hl
  have:=(List.append_inj he (by omega)).1
  rw[this];exact hn
 ·exact absurd (by simp) (nameB_no91 h)
theorem nameB_pos {A:List UInt8} (h:nameB A=true):1≤A.length:=by
 cases A with
 | nil=>exact absurd h (by decide)
 | cons=>simp
theorem gap_place {l:List VarD} {s:ByteArray} (hv:varB s.data.toList=true) (h:GapOf l s):∃ k n:Nat,1≤k∧k < s.size∧1≤n∧n < 8∧(s.toList == (elName ⟨(s.data.toList.take k).toArray⟩ n).toList)=true∧findV l (elName ⟨(s.data.toList.take k).toArray⟩ (n - 1)) 0 < 0:=by
 obtain⟨A,n,h1,h2,h3,h4⟩:=h
 have he:=(toList_eq_iff _ _).1 h3
 rw[elName_list] at he
 have hA:=nameB_pos (varB_elem (he ▸ hv) rfl)
 have hl:=congrArg List.length he
 simp only[List.length_append,List.length_cons,List.length_nil] at hl
 have hsz:s.data.toList.length=s.size:=by simp
 have ht:s.data.toList.take A.length=A:=by rw[he];simp
 exact⟨A.length,n,hA,by omega,h1,h2,by rw[ht];exact h3,by rw[ht];exact h4⟩
def NoGap (l:List VarD) (s:ByteArray) (k:Nat):Prop:=∀ j:Nat,1≤j→j < k→∀ n:Nat,1≤n→n < 8→¬ ((s.toList == (elName ⟨(s.data.toList.take j).toArray⟩ n).toList)=true∧findV l (elName ⟨(s.data.toList.take j).toArray⟩ (n - 1)) 0 < 0)
def NoGapN (l:List VarD) (s:ByteArray) (k m:Nat):Prop:=∀ n:Nat,1≤n→n < m→¬ ((s.toList == (elName ⟨(s.data.toList.take k).toArray⟩ n).toList)=true∧findV l (elName ⟨(s.data.toList.take k).toArray⟩ (n - 1)) 0 < 0)
theorem noGap_step {l:List VarD} {s:ByteArray} {k:Nat} (h:NoGap l s k) (h8:NoGapN l s k 8):NoGap l s (k+1):=by
 intro j h1 h2 n h3 h4
 by_cases e:j=k
 ·subst e;exact h8 n h3 h4
 ·exact h j h1 (by omega) n h3 h4
theorem noGap_skip {l:List VarD} {s:ByteArray} {k:Nat} (h:NoGap l s k) (hk:k < s.size) (hne:(s[k]'hk).toNat≠91):NoGap l s (k+1) :=
 noGap_step h fun n _ _ ⟨h1,_⟩=>hne (match_at hk h1)
theorem noGapN_step {l:List VarD} {s:ByteArray} {k m:Nat} (h:NoGapN l s k m) (hm:¬ ((s.toList == (elName ⟨(s.data.toList.take k).toArray⟩ m).toList)=true∧findV l (elName ⟨(s.data.toList.take k).toArray⟩ (m - 1)) 0 < 0)):NoGapN l s k (m+1):=by
 intro n h3 h4
 by_cases e:n=m
 ·subst e;exact hm
 ·exact h n h3 (by omega)
theorem noGap_end {l:List VarD} {s:ByteArray} (hv:varB s.data.toList=true) (h:NoGap l s s.size):¬ GapOf l s:=by
 intro hg
 obtain⟨k,n,h1,h2,h3,h4,h5,h6⟩:=gap_place hv hg
 exact h k h1 h2 n h3 h4 ⟨h5,h6⟩
theorem gap_here {l:List VarD} {s:ByteArray} {k n:Nat} (h1:1≤n) (h2:n < 8) (h3:(s.toList == (elName ⟨(s.data.toList.take k).toArray⟩ n).toList)=true) (h4:findV l (elName ⟨(s.data.toList.take k).toArray⟩ (n - 1)) 0 < 0):GapOf l s:=⟨_,n,h1,h2,h3,h4⟩
theorem extract_take (s:ByteArray) (k:Nat):s.extract 0 k=(⟨(s.data.toList.take k).toArray⟩:ByteArray):=by
 apply ByteArray.ext
 apply Array.ext'
 rw[Lib.extract_data]
 simp
def GapAny (l:List VarD):Prop:=∃ v,v∈l∧GapOf l v.name
set_option maxRecDepth 100000 in
set_option maxHeartbeats 4000000 in
theorem r14gap_any (l:List VarD) (a:Option Addr) (cap:Nat) (w:World) (hE:VarsIn w l a cap) (hV:∀ v,v∈l→varB v.name.data.toList=true) :
  Calls Tryz.prog 128 #[.slice a l.length cap] w fun e w'=>e=.returned (.bool (pB (GapAny l)))∧Below w.heap.size w w':=by
 have hlen:=hE.2.1
 have HA:=Lib.hid hE.addr
 have HE:=Lib.hid hE
 have HV:=Lib.hid hV
 clear hE hV
 go_enter Tryz.func128, Tryz.ntmps128
 go_wp2_with fail
 go_loopw [3] (fun i wr=>∃ k:Nat,i=.int .i64 k∧k≤l.length∧(∀ j (hj:j < l.length),j < k→¬ GapOf l (l[j]'hj).name)∧Below w.heap.size w wr) (fun i _=>l.length - (intOf i).toNat)
 case atStart=>exact⟨0,rfl,Nat.zero_le _,fun _ _ h=>absurd h (by omega),Below.refl _ _⟩
 case round =>
  obtain⟨i,rfl,hi,hall,hBr⟩:=hrel
  have HAl:=Lib.hid hall
  clear hall
  by_cases hlt:i < l.length
  ·obtain⟨b,off,ha⟩:=HA.out.resolve_left (by omega)
   subst ha
   obtain⟨c0,_,_,_,hsz⟩:=HE.out.get rfl hlt
   have hb0:=World.block_lt_of_cell? _ _ c0
   simp only at hb0
   have C0:=Lib.hid c0
   have c0r:=(keeps_of_below hBr) _ _ c0
   have HVi:=Lib.hid (HV.out _ (List.getElem_mem hlt))
   have HBr:=Lib.hid hBr
   generalize hs:(l[i]'hlt).name=s at c0 c0r hsz HVi C0
   have Hs:=Lib.hid hs
   clear hs hBr c0
   go_wp2_with fail
   go_loopw [4] (fun i wr=>∃ k:Nat,i=.int .i64 k∧1≤k∧(k≤s.size∨k=1)∧NoGap l s k∧Below w.heap.size w wr) (fun i _=>s.size - (intOf i).toNat)
   case atStart=>exact⟨1,rfl,by omega,Or.inr rfl,fun j h1 h2=>absurd h1 (by omega),HBr.out⟩
   case round =>
    obtain⟨k,rfl,hk1,hk,hno,hBk⟩:=hrel
    have c0k:=(keeps_of_below hBk) _ _ C0.out
    have HNo:=Lib.hid hno
    have HBk:=Lib.hid hBk
    clear hno hBk c0r
    by_cases hlk:k < s.size
    ·by_cases h91:(s[k]'hlk).toNat=91
     ·have hb91:(((s[k]'hlk).toNat:Int) != 91)=false:=by simp;omega
      have hkI:(0:Int)≤(k:Int):=by omega
      have hkI2:(k:Int)≤(s.size:Int):=by omega
      have hTsz:(⟨(s.data.toList.take k).toArray⟩:ByteArray).size≤1073741824:=by show (s.data.toList.take k).toArray.size≤_;simp;omega
      have hex:s.extract 0 k=(⟨(s.data.toList.take k).toArray⟩:ByteArray):=extract_take s k
      have HE1:=Lib.hid (fun (n:Nat) (hn:n < 8) W (hW:Below w.heap.size w W)=>(r14element_any ⟨(s.data.toList.take k).toArray⟩ n hn W hTsz).mono fun e w' h=>(⟨h.1,hW.trans (h.2.mono hW.size)⟩:_∧Below w.heap.size w w'))
      have HF1:=Lib.hid (fun (n:Nat) W (hW:Below w.heap.size w W)=>r14find_any l (some ⟨b,off,none⟩) cap (elName ⟨(s.data.toList.take k).toArray⟩ n) W (HE.out.keep (keeps_of_below hW)))
      rw[← hex] at HE1 HF1
      have Hex:=Lib.hid hex
      clear hex hTsz h91
      go_wp2_with fail
      go_loopw [5] (fun n wr=>∃ m:Nat,n=.int .i64 m∧1≤m∧m≤8∧NoGapN l s k m∧Below w.heap.size w wr) (fun n _=>8 - (intOf n).toNat)
      case atStart=>exact⟨1,rfl,by omega,by omega,fun n h1 h2=>absurd h1 (by omega),HBk.out⟩
      case round =>
       obtain⟨m,rfl,hm1,hm8,hno,hBm⟩:=hrel
       have c0m:∀ g:Grow w.heap.size w,g.w'.cell? ⟨b,off+i * 4,none⟩=some (.string s):=Grow.old C0.out (Nat.le_refl _)
       have HNm:=Lib.hid hno
       have HBm:=Lib.hid hBm
       clear hno c0k
       by_cases hlm:m < 8
       ·cases he:(s.toList == (elName (s.extract 0 k) m).toList)
        ·have HSt:Hid (NoGapN l s k (m+1)):=noGapN_step HNm.out (fun ⟨h,_⟩=>by rw[← Hex.out,he] at h;simp at h)
         go_wp2_with fail
         (refine wp_region_grow (B:=w.heap.size) (w0:=w) (by kernel_rfl) (by kernel_rfl) bel ?_;(repeat (go_big_quiet_step ((go_at_call 183;exact grow_call (HE1.out m hlm _ (Grow.h _))))));refine wpQuiet_nil ?_;intro wg hCg;have hbg:=grow_out hCg;clear hCg)
         go_wp2_with fail
         go_roundw
         case rel=>exact⟨m+1,by go_num,by omega,by omega,HSt.out,by assumption⟩
         case measure=>simp[intOf];omega
        ·have hme:Hid ((s.toList == (elName ⟨(s.data.toList.take k).toArray⟩ m).toList)=true):=by show _=_;rw[← Hex.out];exact he
         have hm':((m - 1:Nat):Int)=(m:Int) - 1:=by omega
         have HE2:=Lib.hid (fun W hW=>HE1.out (m - 1) (by omega) W hW)
         have HF2:=Lib.hid (fun W hW=>HF1.out (m - 1) W hW)
         simp only[hm'] at HE2 HF2
         have Hwrap:=IntWalk.i64_in ((m:Int) - 1) (by omega)
         clear hm'
         by_cases hf:findV l (elName (s.extract 0 k) (m - 1)) 0 < 0
         ·have hfd:decide (findV l (elName (s.extract 0 k) (m - 1)) 0 < 0)=true:=by simpa using hf
          have HY:Hid (pB (GapAny l)=true):=pB_true ⟨_,List.getElem_mem hlt,by rw[Hs.out];exact gap_here hm1 hlm hme.out (by rw[← Hex.out];exact hf)⟩
          clear hf
          go_wp2_with fail
          (refine wp_region_grow (B:=w.heap.size) (w0:=w) (by kernel_rfl) (by kernel_rfl) bel ?_;(repeat (go_big_quiet_step (first | (go_at_call 183;first | (with_reducible exact grow_call (HE1.out m hlm _ (Grow.h _))) | (with_reducible exact grow_call (HE2.out _ (Grow.h _)))) | (go_at_call 127;(with_reducible exact grow_callS _ (HF2.out _ (Grow.h _)))))));refine wpQuiet_nil ?_;intro wg hCg;have hbg:=grow_out hCg;clear hCg)
          go_wp2_with fail
          go_ret
          exact⟨by rw[HY.out];rfl,by assumption⟩
         ·have hfd:decide (findV l (elName (s.extract 0 k) (m - 1)) 0 < 0)=false:=by simpa using hf
          have HSt:Hid (NoGapN l s k (m+1)):=noGapN_step HNm.out (fun ⟨_,h⟩=>hf (by rw[Hex.out];exact h))
          clear hf
          go_wp2_with fail
          (refine wp_region_grow (B:=w.heap.size) (w0:=w) (by kernel_rfl) (by kernel_rfl) bel ?_;(repeat (go_big_quiet_step (first | (go_at_call 183;first | (with_reducible exact grow_call (HE1.out m hlm _ (Grow.h _))) | (with_reducible exact grow_call (HE2.out _ (Grow.h _)))) | (go_at_call 127;(with_reducible exact grow_callS _ (HF2.out _ (Grow.h _)))))));refine wpQuiet_nil ?_;intro wg hCg;have hbg:=grow_out hCg;clear hCg)
          go_wp2_with fail
          go_roundw
          case rel=>exact⟨m+1,by go_num,by omega,by omega,HSt.out,by assumption⟩
          case measure=>simp[intOf];omega
       ·obtain rfl:m=8:=by omega
        have HSt:=Lib.hid (noGap_step HNo.out HNm.out)
        go_wp2_with fail
        go_roundw
        case rel=>exact⟨k+1,by go_num,by omega,Or.inl (by omega),HSt.out,HBm.out⟩
        case measure=>simp[intOf];omega
     ·have hb91:(((s[k]'hlk).toNat:Int) != 91)=true:=by simp;omega
      have HSk:=Lib.hid (noGap_skip HNo.out hlk h91)
      clear h91
      go_wp2_with fail
      go_roundw
      case rel=>exact⟨k+1,by go_num,by omega,Or.inl (by omega),HSk.out,HBk.out⟩
      case measure=>simp[intOf];omega
    ·go_wp2_with fail
     go_roundw
     case rel=>exact⟨i+1,by go_num,by omega,fun j hj hjk=>by
      by_cases e:j=i
      ·subst e
       rw[Hs.out]
       refine noGap_end HVi.out (fun q h1 h2=>HNo.out q h1 (by omega))
      ·exact HAl.out j hj (by omega),HBk.out⟩
     case measure=>simp[intOf];omega
  ·obtain rfl:i=l.length:=by omega
   have HN:Hid (pB (GapAny l)=false):=pB_false (fun ⟨v,hv,hg⟩=>by
    obtain⟨j,hj,rfl⟩:=List.getElem_of_mem hv
    exact HAl.out j hj hj hg)
   go_wp2_with fail
   go_ret
   exact⟨by rw[HN.out];rfl,hBr⟩
end Go.Proofs.YtcplmcjbkpmhdaaGreatDoor
