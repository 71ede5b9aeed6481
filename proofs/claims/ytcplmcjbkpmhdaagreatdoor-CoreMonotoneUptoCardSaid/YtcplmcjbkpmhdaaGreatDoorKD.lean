/- The reference of names: has, IsKeyword, IsName return the same. -/
import Derived.Test.YtcplmcjbkpmhdaaGreatDoorKB
import Derived.Test.YtcplmcjbkpmhdaaGreatDoorKC
set_option linter.unusedSimpArgs false
set_option linter.unusedVariables false
set_option linter.unnecessarySimpa false
namespace Go.Proofs.YtcplmcjbkpmhdaaGreatDoor
open Go.RowKit
theorem contains_no {l:List ByteArray} {s:ByteArray} (h:∀ j (hj:j < l.length),((l[j]'hj).toList == s.toList)=false):Lib.containsS l s=false:=by
 cases hc:Lib.containsS l s
 ·rfl
 ·obtain⟨i,hi,he⟩:=List.mem_iff_getElem.1 ((Lib.containsS_iff l s).1 hc)
  have:=h i hi
  rw[he] at this
  simp at this
theorem contains_yes {l:List ByteArray} {s:ByteArray} {k:Nat} (hk:k < l.length) (h:((l[k]'hk).toList == s.toList)=true):Lib.containsS l s=true:=by
 rw[Lib.containsS_iff]
 have:l[k]=s:=by
  have h':=eq_of_beq h
  rw[ByteArray.toList_eq,ByteArray.toList_eq] at h'
  exact ByteArray.ext (Array.ext' h')
 rw[← this];exact List.getElem_mem hk
set_option maxHeartbeats 1000000 in
theorem has_testbenchref07 (l:List ByteArray) (a:Option Addr) (cap:Nat) (s:ByteArray) (w:World) (hE:StrsIn w l a cap) :
  Calls Tryz.prog 290 #[.slice a l.length cap,.string s] w fun e w'=>e=.returned (.bool (Lib.containsS l s))∧w=w':=by
 have hlen:=hE.2.1
 have HA:=Lib.hid hE.addr
 have HE:=Lib.hid hE
 clear hE
 go_enter Tryz.func290, Tryz.ntmps290
 go_wp2_with fail
 go_loop [5] (fun i=>∃ k:Nat,i=.int .i64 k∧k≤l.length∧∀ j (hj:j < l.length),j < k→((l[j]'hj).toList == s.toList)=false) (fun i=>l.length - (intOf i).toNat)
 case atStart=>exact⟨0,rfl,Nat.zero_le _,fun _ _ h=>absurd h (by omega)⟩
 case round =>
  obtain⟨k,rfl,hk,hall⟩:=hrel
  have HAl:=Lib.hid hall
  clear hall
  by_cases hlt:k < l.length
  ·obtain⟨b,off,ha⟩:=HA.out.resolve_left (by omega)
   subst ha
   have c0:=HE.out.get rfl hlt
   cases he:((l[k]'hlt).toList == s.toList)
   ·go_wp2_with fail
    go_round
    case rel=>exact⟨k+1,by go_num,by omega,fun j hj hjk=>by
     by_cases e:j=k
     ·subst e;exact he
     ·exact HAl.out j hj (by omega)⟩
    case measure=>simp[intOf];omega
   ·have HY:=Lib.hid (contains_yes hlt he)
    go_wp2_with fail
    go_ret
    exact⟨by rw[HY.out];rfl,rfl⟩
  ·obtain rfl:k=l.length:=by omega
   have HN:=Lib.hid (contains_no (l:=l) (s:=s) (fun j hj=>HAl.out j hj hj))
   go_wp2_with fail
   go_ret
   exact⟨by rw[HN.out];rfl,rfl⟩
set_option maxHeartbeats 1000000 in
theorem has_testbenchref08 (l:List ByteArray) (a:Option Addr) (cap:Nat) (s:ByteArray) (w:World) (hE:StrsIn w l a cap) :
  Calls Tryz.prog 206 #[.slice a l.length cap,.string s] w fun e w'=>e=.returned (.bool (Lib.containsS l s))∧w=w':=by
 have hlen:=hE.2.1
 have HA:=Lib.hid hE.addr
 have HE:=Lib.hid hE
 clear hE
 go_enter Tryz.func206, Tryz.ntmps206
 go_wp2_with fail
 go_loop [5] (fun i=>∃ k:Nat,i=.int .i64 k∧k≤l.length∧∀ j (hj:j < l.length),j < k→((l[j]'hj).toList == s.toList)=false) (fun i=>l.length - (intOf i).toNat)
 case atStart=>exact⟨0,rfl,Nat.zero_le _,fun _ _ h=>absurd h (by omega)⟩
 case round =>
  obtain⟨k,rfl,hk,hall⟩:=hrel
  have HAl:=Lib.hid hall
  clear hall
  by_cases hlt:k < l.length
  ·obtain⟨b,off,ha⟩:=HA.out.resolve_left (by omega)
   subst ha
   have c0:=HE.out.get rfl hlt
   cases he:((l[k]'hlt).toList == s.toList)
   ·go_wp2_with fail
    go_round
    case rel=>exact⟨k+1,by go_num,by omega,fun j hj hjk=>by
     by_cases e:j=k
     ·subst e;exact he
     ·exact HAl.out j hj (by omega)⟩
    case measure=>simp[intOf];omega
   ·have HY:=Lib.hid (contains_yes hlt he)
    go_wp2_with fail
    go_ret
    exact⟨by rw[HY.out];rfl,rfl⟩
  ·obtain rfl:k=l.length:=by omega
   have HN:=Lib.hid (contains_no (l:=l) (s:=s) (fun j hj=>HAl.out j hj hj))
   go_wp2_with fail
   go_ret
   exact⟨by rw[HN.out];rfl,rfl⟩
theorem rsmall_any (c:Int) (w:World) :
  Calls Tryz.prog 257 #[.int .u8 c] w fun e w'=>e=.returned (.bool (lowB c))∧w=w':=by
 go_enter Tryz.func257, Tryz.ntmps257
 go_wp2
 all_goals go_ret
 all_goals exact⟨by simp_all [lowB]<;>omega,rfl⟩
theorem rdigit_any (c:Int) (w:World) :
  Calls Tryz.prog 292 #[.int .u8 c] w fun e w'=>e=.returned (.bool (digB c))∧w=w':=by
 go_enter Tryz.func292, Tryz.ntmps292
 go_wp2
 all_goals go_ret
 all_goals exact⟨by simp_all [digB]<;>omega,rfl⟩
set_option maxHeartbeats 400000 in
theorem rinner_any (c:Int) (w:World) :
  Calls Tryz.prog 259 #[.int .u8 c] w fun e w'=>e=.returned (.bool (follB c))∧w=w':=by
 go_enter Tryz.func259, Tryz.ntmps259
 go_wp2_with (first | (go_at_call 257;refine(rsmall_any _ _).mono ?_;rintro e w' ⟨rfl,rfl⟩) | (go_at_call 292;refine(rdigit_any _ _).mono ?_;rintro e w' ⟨rfl,rfl⟩))
 all_goals go_ret
 all_goals exact⟨by simp_all [follB]<;>omega,rfl⟩
set_option maxRecDepth 100000 in
set_option maxHeartbeats 1000000 in
theorem rkeywords_any (w:World):Calls Tryz.prog 291 #[] w fun e w'=>(∃ a cap,e=.returned (.slice a kwS.length cap)∧StrsIn w' kwS a cap)∧Below w.heap.size w w':=by
 go_enter Tryz.func291, Tryz.ntmps291
 go_wp2_with fail
 go_ret
 refine⟨⟨some ⟨w.heap.size,0,none⟩,24,rfl,by decide,by decide,Or.inr ⟨w.heap.size,0,rfl,?_⟩⟩,bel⟩
 intro i hi
 refine⟨kwS[i]'hi,List.getElem?_eq_getElem hi,?_⟩
 rw[World.cell?_alloc_new]
 have h24:i < 24:=hi
 match i,h24 with
 | 0,_ | 1,_ | 2,_ | 3,_ | 4,_ | 5,_ | 6,_ | 7,_ | 8,_ | 9,_ | 10,_ | 11,_ | 12,_ | 13,_ | 14,_ | 15,_ | 16,_ | 17,_ | 18,_ | 19,_ | 20,_ | 21,_ | 22,_ | 23,_=>rfl
 | n+24,h=>exact absurd h (by omega)
set_option maxHeartbeats 400000 in
theorem risKeyword_any (s:ByteArray) (w:World) :
  Calls Tryz.prog 258 #[.string s] w fun e w'=>e=.returned (.bool (kwL.contains s.data.toList))∧Below w.heap.size w w':=by
 go_enter Tryz.func258, Tryz.ntmps258
 go_wp2_with fail
 refine(rkeywords_any _).mono ?_
 rintro e w1 ⟨⟨a,cap,rfl,hs⟩,hb⟩
 have HH:=Lib.hid (has_testbenchref07 kwS a cap s w1 hs)
 have HB:=Lib.hid hb
 clear hs hb
 go_wp2_with (go_at_call 290;refine HH.out.mono ?_;rintro e w' ⟨rfl,rfl⟩)
 go_ret
 exact⟨by rw[← containsS_eq];rfl,HB.out⟩
set_option maxHeartbeats 1000000 in
theorem risName_any (s:ByteArray) (w:World) (hs:s.size≤1073741824) :
  Calls Tryz.prog 224 #[.string s] w fun e w'=>e=.returned (.bool (nameB s.data.toList))∧Below w.heap.size w w':=by
 have hll:s.data.toList.length=s.size:=by simp
 have htl:s.toList=s.data.toList:=ByteArray.toList_eq s
 by_cases h0:s.size=0
 ·have he:s.toList=[]:=by rw[htl];exact List.length_eq_zero_iff.1 (by omega)
  have hR:Hid (nameB s.data.toList=false):=by show _=_;rw[← htl,he];rfl
  clear htl hll
  go_enter Tryz.func224, Tryz.ntmps224
  go_wp2_with fail
  go_ret
  exact⟨by rw[hR.out];rfl,Below.refl _ _⟩
 ·have hne:(s.toList == [])=false:=by
   rw[htl];cases hc:s.data.toList with
   | nil=>rw[hc] at hll;simp at hll;omega
   | cons c l=>rfl
  have hne2:s.toList≠[]:=by intro h;rw[h] at hne;simp at hne
  have hne3:s.toList.isEmpty=false:=by cases hc:s.toList with
   | nil=>exact absurd hc hne2
   | cons c l=>rfl
  by_cases h16:16 < s.size
  ·have hR:Hid (nameB s.data.toList=false):=by
    show _=_;unfold nameB;rw[decide_eq_false (by omega)];simp
   clear htl hll
   go_enter Tryz.func224, Tryz.ntmps224
   go_wp2_with fail
   go_ret
   exact⟨by rw[hR.out];rfl,Below.refl _ _⟩
  ·have hp:0 < s.size:=by omega
   cases hl:lowB (s[0]'hp).toNat
   ·have hR:Hid (nameB s.data.toList=false):=by
     show _=_;unfold nameB;rw[word_bad hp (Or.inr ⟨rfl,hl⟩)];rfl
    clear htl hll
    go_enter Tryz.func224, Tryz.ntmps224
    go_wp2_with (go_at_call 257;refine(rsmall_any _ _).mono ?_;rintro e w' ⟨rfl,rfl⟩)
    go_ret
    exact⟨by rw[hR.out];rfl,Below.refl _ _⟩
   ·cases hk:kwL.contains s.data.toList
    ·have HN:Hid (nameB s.data.toList=wordB s.data.toList):=by
      show _=_;unfold nameB;rw[hk,decide_eq_true (by omega)];simp
     have Hl:=Lib.hid hl
     have HW0:Hid (WordRel s 0):=⟨by omega,by simp,by omega⟩
     clear htl hll
     go_enter Tryz.func224, Tryz.ntmps224
     go_wp2_with (first | (go_at_call 257;refine(rsmall_any _ _).mono ?_;rintro e w' ⟨rfl,rfl⟩) | (go_at_call 258;refine(risKeyword_any _ _).mono ?_;rintro e w1 ⟨rfl,hb1⟩;rw[hk];have HB1:=Lib.hid hb1;clear hb1))
     go_loop [3] (fun i=>∃ k:Nat,i=.int .i64 k∧WordRel s k) (fun i=>s.size - (intOf i).toNat)
     case atStart=>exact⟨0,rfl,HW0.out⟩
     case round =>
      obtain⟨k,rfl,hW⟩:=hrel
      have hkk:=hW.1
      have HW:=Lib.hid hW
      clear hW
      by_cases hlt:k < s.size
      ·cases hf:follB (s[k]'hlt).toNat
       ·have HBad:=Lib.hid (word_bad hlt (Or.inl hf))
        go_wp2_with (go_at_call 259;refine(rinner_any _ _).mono ?_;rintro e w' ⟨rfl,rfl⟩)
        go_ret
        exact⟨by rw[HN.out,HBad.out];rfl,(by assumption:Hid (Below w.heap.size w _)).out⟩
       ·have HSt:=Lib.hid (wordRel_step HW.out hlt hf (fun e=>by subst e;exact Hl.out))
        go_wp2_with (go_at_call 259;refine(rinner_any _ _).mono ?_;rintro e w' ⟨rfl,rfl⟩)
        go_round
        case rel=>exact⟨k+1,by go_num,HSt.out⟩
        case measure=>simp[intOf];omega
      ·have HE:=Lib.hid (wordRel_end HW.out hlt)
       go_wp2_with fail
       go_ret
       exact⟨by rw[HN.out,HE.out,← ByteArray.toList_eq,hne3];rfl,(by assumption:Hid (Below w.heap.size w _)).out⟩
    ·have hR:Hid (nameB s.data.toList=false):=by
      show _=_;unfold nameB;rw[hk];simp
     clear htl hll
     go_enter Tryz.func224, Tryz.ntmps224
     go_wp2_with (first | (go_at_call 257;refine(rsmall_any _ _).mono ?_;rintro e w' ⟨rfl,rfl⟩) | (go_at_call 258;refine(risKeyword_any _ _).mono ?_;rintro e w1 ⟨rfl,hb1⟩;rw[hk]))
     go_ret
     exact⟨by rw[hR.out];rfl,by assumption⟩
end Go.Proofs.YtcplmcjbkpmhdaaGreatDoor
namespace Go.Proofs.YtcplmcjbkpmhdaaGreatDoor
open Go.RowKit
theorem tmod_neg' (n:Int) (h:n < 0):n.tmod 65536=-((-n) % 65536):=by
 have h1:n=-(-n):=by omega
 rw[h1,Int.neg_tmod,Int.tmod_eq_emod_of_nonneg (by omega)]
 simp
set_option maxHeartbeats 400000 in
theorem RWrap_any (n:Int) (w:World):Calls Tryz.prog 318 #[.int .i64 n] w fun e w'=>e=.returned (.int .i64 (wrapW n))∧w=w':=by
 by_cases h:0≤n
 ·go_enter Tryz.func318, Tryz.ntmps318
  have h1:0≤n % 65536:=by omega
  go_wp2
  go_ret
  exact⟨rfl,rfl⟩
 ·have ht:=tmod_neg' n (by omega)
  have hr:Hid (wrapW n=if n.tmod 65536 < 0 then n.tmod 65536+65535+1 else n.tmod 65536):=by
   show _=_
   rw[ht];unfold wrapW;split<;>omega
  have h1:-65536 < n.tmod 65536:=by rw[ht];omega
  have h2:n.tmod 65536≤0:=by rw[ht];omega
  clear ht
  by_cases h0:n.tmod 65536 < 0
  ·have hr':Hid (wrapW n=n.tmod 65536+65535+1):=by show _=_;rw[hr.out,if_pos h0]
   go_enter Tryz.func318, Tryz.ntmps318
   go_wp2
   go_ret
   exact⟨by rw[hr'.out];rfl,rfl⟩
  ·have hr':Hid (wrapW n=n.tmod 65536):=by show _=_;rw[hr.out,if_neg h0]
   go_enter Tryz.func318, Tryz.ntmps318
   go_wp2
   go_ret
   exact⟨by rw[hr'.out];rfl,rfl⟩
theorem wrapW_range (n:Int):0≤wrapW n∧wrapW n≤65535:=by unfold wrapW;omega
set_option maxHeartbeats 400000 in
theorem RAdd_any (a b:Int) (w:World):Calls Tryz.prog 297 #[.int .i64 a,.int .i64 b] w fun e w'=>e=.returned (.int .i64 (addW a b))∧w=w':=by
 have hR:Hid (addW a b=wrapW (wrapW a+wrapW b)):=by show _=_;unfold addW wrapW;omega
 obtain⟨a0,a1⟩:=wrapW_range a
 obtain⟨b0,b1⟩:=wrapW_range b
 go_enter Tryz.func297, Tryz.ntmps297
 go_wp2_with (go_at_call 318;refine(RWrap_any _ _).mono ?_;rintro e w' ⟨rfl,rfl⟩)
 go_ret
 exact⟨by rw[hR.out];rfl,rfl⟩
set_option maxHeartbeats 400000 in
theorem RSub_any (a b:Int) (w:World):Calls Tryz.prog 324 #[.int .i64 a,.int .i64 b] w fun e w'=>e=.returned (.int .i64 (subW a b))∧w=w':=by
 have hR:Hid (subW a b=wrapW (wrapW a - wrapW b)):=by show _=_;unfold subW wrapW;omega
 obtain⟨a0,a1⟩:=wrapW_range a
 obtain⟨b0,b1⟩:=wrapW_range b
 go_enter Tryz.func324, Tryz.ntmps324
 go_wp2_with (go_at_call 318;refine(RWrap_any _ _).mono ?_;rintro e w' ⟨rfl,rfl⟩)
 go_ret
 exact⟨by rw[hR.out];rfl,rfl⟩
set_option maxHeartbeats 400000 in
theorem RMul_any (a b:Int) (w:World):Calls Tryz.prog 325 #[.int .i64 a,.int .i64 b] w fun e w'=>e=.returned (.int .i64 (mulW a b))∧w=w':=by
 have hR:Hid (mulW a b=wrapW (wrapW a * wrapW b)):=by show _=_;unfold mulW wrapW;rw[Int.mul_emod]
 obtain⟨a0,a1⟩:=wrapW_range a
 obtain⟨b0,b1⟩:=wrapW_range b
 have m0:0≤wrapW a * wrapW b:=Int.mul_nonneg a0 b0
 have m1:wrapW a * wrapW b≤65535 * 65535:=Int.mul_le_mul a1 b1 b0 (by decide)
 go_enter Tryz.func325, Tryz.ntmps325
 go_wp2_with (go_at_call 318;refine(RWrap_any _ _).mono ?_;rintro e w' ⟨rfl,rfl⟩)
 go_ret
 exact⟨by rw[hR.out];rfl,rfl⟩
set_option maxHeartbeats 400000 in
theorem RNeg_any (a:Int) (w:World):Calls Tryz.prog 322 #[.int .i64 a] w fun e w'=>e=.returned (.int .i64 (negW a))∧w=w':=by
 have hR:Hid (negW a=wrapW (0 - wrapW a)):=by show _=_;unfold negW wrapW;omega
 have hR2:Hid (negW a=wrapW (-wrapW a)):=by show _=_;unfold negW wrapW;omega
 obtain⟨a0,a1⟩:=wrapW_range a
 go_enter Tryz.func322, Tryz.ntmps322
 go_wp2_with (go_at_call 318;refine(RWrap_any _ _).mono ?_;rintro e w' ⟨rfl,rfl⟩)
 go_ret
 exact⟨by first | (rw[hR.out];rfl) | (rw[hR2.out];rfl),rfl⟩
set_option maxHeartbeats 400000 in
theorem RInv_any (a:Int) (w:World):Calls Tryz.prog 321 #[.int .i64 a] w fun e w'=>e=.returned (.int .i64 (invW a))∧w=w':=by
 obtain⟨a0,a1⟩:=wrapW_range a
 go_enter Tryz.func321, Tryz.ntmps321
 go_wp2_with (go_at_call 318;refine(RWrap_any _ _).mono ?_;rintro e w' ⟨rfl,rfl⟩)
 go_ret
 exact⟨rfl,rfl⟩
theorem pow_le16 {k:Nat} (h:k≤16):(2:Int) ^ k≤65536:=by
 have h':((2 ^ k:Nat):Int)≤((2 ^ 16:Nat):Int):=Int.ofNat_le.2 (Nat.pow_le_pow_right (by decide) h)
 rw[Int.natCast_pow] at h'
 simpa using h'
set_option maxHeartbeats 400000 in
theorem power_any (n:Nat) (h:n≤16) (w:World):Calls Tryz.prog 338 #[.int .i64 n] w fun e w'=>e=.returned (.int .i64 (2 ^ n))∧w=w':=by
 go_enter Tryz.func338, Tryz.ntmps338
 go_wp2_with fail
 go_loop [3,4] (fun p i=>∃ (k:Nat) (q:Int),i=.int .i64 k∧k≤n∧p=.int .i64 q∧Hid (q=2 ^ k)∧0≤q∧q≤65536) (fun _ i=>n - (intOf i).toNat)
 case atStart=>exact⟨0,1,rfl,Nat.zero_le _,rfl,rfl,by decide,by decide⟩
 case round =>
  obtain⟨k,q,rfl,hk,rfl,hq,h0,h1⟩:=hrel
  by_cases hlt:k < n
  ·have hp1:(2:Int) ^ (k+1)≤65536:=pow_le16 (by omega)
   have hn:Hid (2 * q=2 ^ (k+1)):=by show _=_;rw[hq.out,Int.pow_succ,Int.mul_comm]
   have h2:2 * q≤65536:=by rw[hn.out];exact hp1
   clear hp1
   go_wp2_with fail
   go_round
   case rel=>exact⟨k+1,2 * q,by go_num,by omega,rfl,hn,by omega,by omega⟩
   case measure=>simp[intOf];omega
  ·obtain rfl:k=n:=by omega
   go_wp2_with fail
   go_ret
   exact⟨by rw[← hq.out];rfl,rfl⟩
set_option maxHeartbeats 400000 in
theorem RShl_any (a n:Int) (w:World):Calls Tryz.prog 329 #[.int .i64 a,.int .i64 n] w fun e w'=>e=.returned (.int .i64 (shlW a n))∧w=w':=by
 by_cases hn:n < 0∨16≤n
 ·have hR:Hid (shlW a n=0):=by show _=_;unfold shlW;rw[if_pos hn]
  rcases hn with hn | hn
  all_goals
   go_enter Tryz.func329, Tryz.ntmps329
   go_wp2_with fail
   go_ret
   exact⟨by rw[hR.out];rfl,rfl⟩
 ·obtain⟨k,rfl⟩:=Int.eq_ofNat_of_zero_le (show 0≤n by omega)
  have hR:Hid (shlW a k=wrapW (wrapW a * 2 ^ k)):=by
   have e:(a % 65536 * 2 ^ k) % 65536=(a * 2 ^ k) % 65536:=by rw[Int.mul_emod,Int.emod_emod,← Int.mul_emod]
   show _=_;unfold shlW wrapW;rw[if_neg hn,Int.toNat_natCast,e]
  obtain⟨a0,a1⟩:=wrapW_range a
  have hk:k≤15:=by omega
  have p1:=pow_le16 (show k≤16 by omega)
  have p0:(0:Int)≤2 ^ k:=Int.le_of_lt (Int.pow_pos (by decide))
  have m0:0≤wrapW a * 2 ^ k:=Int.mul_nonneg a0 p0
  have m1:wrapW a * 2 ^ k≤65535 * 65536:=Int.mul_le_mul a1 p1 p0 (by decide)
  have HP:=Lib.hid (fun w=>power_any k (by omega) w)
  clear hn
  go_enter Tryz.func329, Tryz.ntmps329
  go_wp2_with (first | (go_at_call 318;refine(RWrap_any _ _).mono ?_;rintro e w' ⟨rfl,rfl⟩) | (go_at_call 338;refine(HP.out _).mono ?_;rintro e w' ⟨rfl,rfl⟩))
  go_ret
  exact⟨by rw[hR.out];rfl,rfl⟩
set_option maxHeartbeats 400000 in
theorem RShr_any (a n:Int) (w:World):Calls Tryz.prog 330 #[.int .i64 a,.int .i64 n] w fun e w'=>e=.returned (.int .i64 (shrW a n))∧w=w':=by
 by_cases hn:n < 0∨16≤n
 ·have hR:Hid (shrW a n=0):=by show _=_;unfold shrW;rw[if_pos hn]
  rcases hn with hn | hn
  all_goals
   go_enter Tryz.func330, Tryz.ntmps330
   go_wp2_with fail
   go_ret
   exact⟨by rw[hR.out];rfl,rfl⟩
 ·obtain⟨k,rfl⟩:=Int.eq_ofNat_of_zero_le (show 0≤n by omega)
  have hR:Hid (shrW a k=wrapW a / 2 ^ k):=by
   show _=_;unfold shrW wrapW;rw[if_neg hn,Int.toNat_natCast]
  obtain⟨a0,a1⟩:=wrapW_range a
  have hk:k≤15:=by omega
  have p0:(1:Int)≤2 ^ k:=Int.pow_pos (by decide)
  have m0:0≤wrapW a / 2 ^ k:=Int.ediv_nonneg a0 (by omega)
  have m1:wrapW a / 2 ^ k≤65535:=Int.le_trans (Int.ediv_le_self _ a0) a1
  have HP:=Lib.hid (fun w=>power_any k (by omega) w)
  clear hn
  go_enter Tryz.func330, Tryz.ntmps330
  go_wp2_with (first | (go_at_call 318;refine(RWrap_any _ _).mono ?_;rintro e w' ⟨rfl,rfl⟩) | (go_at_call 338;refine(HP.out _).mono ?_;rintro e w' ⟨rfl,rfl⟩))
  go_ret
  exact⟨by rw[hR.out];rfl,rfl⟩
theorem wrapW_nat (A:Nat) (h:A < 65536):wrapW (A:Int)=A:=by unfold wrapW;omega
set_option maxHeartbeats 400000 in
theorem RBit_any (a:Int) (j:Nat) (h:j < 16) (w:World):Calls Tryz.prog 336 #[.int .i64 a,.int .i64 j] w fun e w'=>e=.returned (.int .i64 (bitN (wrapW a).toNat j:Nat))∧w=w':=by
 obtain⟨a0,a1⟩:=wrapW_range a
 have hR:Hid (((bitN (wrapW a).toNat j:Nat):Int)=shrW a j % 2):=by
  show _=_
  unfold bitN shrW
  rw[if_neg (by omega),Int.toNat_natCast]
  show _=wrapW a / 2 ^ j % 2
  obtain⟨A,hA⟩:=Int.eq_ofNat_of_zero_le a0
  rw[hA,Int.toNat_natCast,Int.natCast_emod,Int.natCast_ediv,Int.natCast_pow]
  rfl
 have m0:0≤shrW a j:=by
  unfold shrW;rw[if_neg (by omega)]
  exact Int.ediv_nonneg a0 (Int.le_of_lt (Int.pow_pos (by decide)))
 go_enter Tryz.func336, Tryz.ntmps336
 go_wp2_with (go_at_call 330;refine(RShr_any _ _ _).mono ?_;rintro e w' ⟨rfl,rfl⟩)
 go_ret
 exact⟨by rw[hR.out];rfl,rfl⟩
theorem bitN_le (x j:Nat):bitN x j≤1:=by unfold bitN;omega
def onesTo (x:Nat):Nat→Nat
 | 0=>0
 | k+1=>onesTo x k+bitN x k
theorem onesTo_all (x:Nat):onesTo x 16=onesN x:=by simp only[onesTo,onesN];omega
theorem onesTo_le (x k:Nat):onesTo x k≤k:=by
 induction k with
 | zero=>simp[onesTo]
 | succ k ih=>have:=bitN_le x k;simp only[onesTo];omega
set_option maxHeartbeats 400000 in
theorem ROnes_any (a:Int) (w:World):Calls Tryz.prog 323 #[.int .i64 a] w fun e w'=>e=.returned (.int .i64 (onesW a))∧w=w':=by
 have hR:Hid (onesW a=(onesTo (wrapW a).toNat 16:Nat)):=by show _=_;rw[onesTo_all];rfl
 generalize hx:(wrapW a).toNat=x at hR
 have HB:=Lib.hid (fun (j:Nat) (h:j < 16) (w:World)=>hx ▸ RBit_any a j h w)
 clear hx
 go_enter Tryz.func323, Tryz.ntmps323
 go_wp2_with fail
 go_loop [3,4] (fun n i=>∃ k:Nat,i=.int .i64 k∧k≤16∧n=.int .i64 (onesTo x k:Nat)) (fun _ i=>16 - (intOf i).toNat)
 case atStart=>exact⟨0,rfl,Nat.zero_le _,rfl⟩
 case round =>
  obtain⟨k,rfl,hk,rfl⟩:=hrel
  by_cases hlt:k < 16
  ·have h1:=onesTo_le x k
   have h2:=bitN_le x k
   have HS:Hid (onesTo x (k+1)=onesTo x k+bitN x k):=rfl
   go_wp2_with (go_at_call 336;refine(HB.out _ hlt _).mono ?_;rintro e w' ⟨rfl,rfl⟩)
   go_round
   case rel=>exact⟨k+1,by go_num,by omega,by rw[HS.out];go_num⟩
   case measure=>simp[intOf];omega
  ·obtain rfl:k=16:=by omega
   go_wp2_with fail
   go_ret
   exact⟨by rw[hR.out];rfl,rfl⟩
theorem bitN_test (x j:Nat):bitN x j=(x.testBit j).toNat:=by rw[Nat.toNat_testBit];rfl
set_option maxRecDepth 100000 in
set_option maxHeartbeats 1000000 in
theorem bits_any (A B X:Nat) (hA:A < 65536) (hB:B < 65536) (hX:X < 65536) (lo hi:Int) (hbit:∀ j,bitN X j=if lo≤(bitN A j:Int)+bitN B j∧(bitN A j:Int)+bitN B j≤hi then 1 else 0) (w:World) :
  Calls Tryz.prog 337 #[.int .i64 A,.int .i64 B,.int .i64 lo,.int .i64 hi] w fun e w'=>e=.returned (.int .i64 X)∧w=w':=by
 have HBA:=Lib.hid (fun (j:Nat) (h:j < 16) (w:World)=>RBit_any A j h w)
 have HBB:=Lib.hid (fun (j:Nat) (h:j < 16) (w:World)=>RBit_any B j h w)
 rw[wrapW_nat A hA,Int.toNat_natCast] at HBA
 rw[wrapW_nat B hB,Int.toNat_natCast] at HBB
 have Hbit:=Lib.hid hbit
 clear hbit
 go_enter Tryz.func337, Tryz.ntmps337
 go_wp2_with fail
 go_loop [9,10] (fun n i=>∃ (c:Int) (q:Nat),i=.int .i64 c∧-1≤c∧c≤15∧n=.int .i64 q∧Hid (q=X / 2 ^ (c+1).toNat)∧q≤65535) (fun _ i=>(intOf i+1).toNat)
 case atStart=>exact⟨15,0,rfl,by decide,by decide,rfl,(Nat.div_eq_of_lt (show X < 2 ^ 16 by omega)).symm,by decide⟩
 case round =>
  obtain⟨c,q,rfl,hc0,hc1,rfl,HQ,hq⟩:=hrel
  by_cases h0:c < 0
  ·have hX:Hid (q=X):=by
    show _=_
    rw[HQ.out,show (c+1).toNat=0 from by omega,Nat.pow_zero,Nat.div_one]
   go_wp2_with fail
   go_ret
   exact⟨by rw[← hX.out];rfl,rfl⟩
  ·obtain⟨j,rfl⟩:=Int.eq_ofNat_of_zero_le (show 0≤c by omega)
   have hj:j < 16:=by omega
   have hstep:X / 2 ^ j=2 * q+bitN X j:=by
    rw[HQ.out,show ((j:Int)+1).toNat=j+1 from by omega]
    unfold bitN
    rw[Nat.pow_succ,← Nat.div_div_eq_div_mul]
    omega
   have h1:=bitN_le A j
   have h2:=bitN_le B j
   have hle:X / 2 ^ j≤65535:=Nat.le_trans (Nat.div_le_self _ _) (by omega)
   have Hb:=Lib.hid (Hbit.out j)
   have HS:=Lib.hid hstep
   have hle2:2 * q+bitN X j≤65535:=by omega
   have Hle:=Lib.hid hle2
   clear hstep hle hle2 HQ
   have HA:=Lib.hid (fun w=>HBA.out j hj w)
   have HB:=Lib.hid (fun w=>HBB.out j hj w)
   generalize bitN A j=x at h1 HA Hb
   generalize bitN B j=y at h2 HB Hb
   by_cases hb:lo≤(x:Int)+y∧(x:Int)+y≤hi
   ·have HX:Hid (X / 2 ^ j=2 * q+1):=by show _=_;rw[HS.out,Hb.out,if_pos hb]
    have hle3:2 * q+1≤65535:=by have:=Hle.out;rw[Hb.out,if_pos hb] at this;exact this
    obtain⟨hb1,hb2⟩:=hb
    go_wp2_with (go_at_call 336;first | (refine(HA.out _).mono ?_;rintro e w' ⟨rfl,rfl⟩) | (refine(HB.out _).mono ?_;rintro e w' ⟨rfl,rfl⟩))
    go_round
    case rel=>exact⟨(j:Int) - 1,2 * q+1,by go_num,by omega,by omega,by go_num,by show _=_;rw[show ((j:Int) - 1+1).toNat=j from by omega,HX.out],by omega⟩
    case measure=>simp[intOf]<;>omega
   ·have HX:Hid (X / 2 ^ j=2 * q):=by show _=_;rw[HS.out,Hb.out,if_neg hb];rfl
    have hle3:2 * q≤65535:=by have:=Hle.out;omega
    by_cases hb1:lo≤(x:Int)+y
    ·have hb2:¬ (x:Int)+y≤hi:=fun h=>hb ⟨hb1,h⟩
     clear hb
     go_wp2_with (go_at_call 336;first | (refine(HA.out _).mono ?_;rintro e w' ⟨rfl,rfl⟩) | (refine(HB.out _).mono ?_;rintro e w' ⟨rfl,rfl⟩))
     go_round
     case rel=>exact⟨(j:Int) - 1,2 * q,by go_num,by omega,by omega,by go_num,by show _=_;rw[show ((j:Int) - 1+1).toNat=j from by omega,HX.out],by omega⟩
     case measure=>simp[intOf]<;>omega
    ·clear hb
     go_wp2_with (go_at_call 336;first | (refine(HA.out _).mono ?_;rintro e w' ⟨rfl,rfl⟩) | (refine(HB.out _).mono ?_;rintro e w' ⟨rfl,rfl⟩))
     go_round
     case rel=>exact⟨(j:Int) - 1,2 * q,by go_num,by omega,by omega,by go_num,by show _=_;rw[show ((j:Int) - 1+1).toNat=j from by omega,HX.out],by omega⟩
     case measure=>simp[intOf]<;>omega
theorem bitAnd (A B j:Nat):bitN (A &&& B) j=if (2:Int)≤(bitN A j:Int)+bitN B j∧(bitN A j:Int)+bitN B j≤2 then 1 else 0:=by
 rw[bitN_test,bitN_test,bitN_test,Nat.testBit_and]
 cases A.testBit j<;>cases B.testBit j<;>rfl
set_option maxHeartbeats 400000 in
theorem RAnd_any (a b:Int) (ha:0≤a) (ha':a < 65536) (hb:0≤b) (hb':b < 65536) (w:World):Calls Tryz.prog 326 #[.int .i64 a,.int .i64 b] w fun e w'=>e=.returned (.int .i64 (andW a b))∧w=w':=by
 obtain⟨A,rfl⟩:=Int.eq_ofNat_of_zero_le ha
 obtain⟨B,rfl⟩:=Int.eq_ofNat_of_zero_le hb
 have hA:A < 2 ^ 16:=by omega
 have hB:B < 2 ^ 16:=by omega
 have hX:A &&& B < 2 ^ 16:=Nat.and_lt_two_pow _ hB
 have HC:=Lib.hid (fun w=>bits_any A B (A &&& B) hA hB hX 2 2 (fun j=>bitAnd A B j) w)
 clear hX
 go_enter Tryz.func326, Tryz.ntmps326
 go_wp2_with (go_at_call 337;refine(HC.out _).mono ?_;rintro e w' ⟨rfl,rfl⟩)
 go_ret
 exact⟨rfl,rfl⟩
theorem bitOr (A B j:Nat):bitN (A ||| B) j=if (1:Int)≤(bitN A j:Int)+bitN B j∧(bitN A j:Int)+bitN B j≤2 then 1 else 0:=by
 rw[bitN_test,bitN_test,bitN_test,Nat.testBit_or]
 cases A.testBit j<;>cases B.testBit j<;>rfl
set_option maxHeartbeats 400000 in
theorem ROr_any (a b:Int) (ha:0≤a) (ha':a < 65536) (hb:0≤b) (hb':b < 65536) (w:World):Calls Tryz.prog 327 #[.int .i64 a,.int .i64 b] w fun e w'=>e=.returned (.int .i64 (orW a b))∧w=w':=by
 obtain⟨A,rfl⟩:=Int.eq_ofNat_of_zero_le ha
 obtain⟨B,rfl⟩:=Int.eq_ofNat_of_zero_le hb
 have hA:A < 2 ^ 16:=by omega
 have hB:B < 2 ^ 16:=by omega
 have hX:A ||| B < 2 ^ 16:=Nat.or_lt_two_pow hA hB
 have HC:=Lib.hid (fun w=>bits_any A B (A ||| B) hA hB hX 1 2 (fun j=>bitOr A B j) w)
 clear hX
 go_enter Tryz.func327, Tryz.ntmps327
 go_wp2_with (go_at_call 337;refine(HC.out _).mono ?_;rintro e w' ⟨rfl,rfl⟩)
 go_ret
 exact⟨rfl,rfl⟩
theorem bitXor (A B j:Nat):bitN (A ^^^ B) j=if (1:Int)≤(bitN A j:Int)+bitN B j∧(bitN A j:Int)+bitN B j≤1 then 1 else 0:=by
 rw[bitN_test,bitN_test,bitN_test,Nat.testBit_xor]
 cases A.testBit j<;>cases B.testBit j<;>rfl
set_option maxHeartbeats 400000 in
theorem RXor_any (a b:Int) (ha:0≤a) (ha':a < 65536) (hb:0≤b) (hb':b < 65536) (w:World):Calls Tryz.prog 328 #[.int .i64 a,.int .i64 b] w fun e w'=>e=.returned (.int .i64 (xorW a b))∧w=w':=by
 obtain⟨A,rfl⟩:=Int.eq_ofNat_of_zero_le ha
 obtain⟨B,rfl⟩:=Int.eq_ofNat_of_zero_le hb
 have hA:A < 2 ^ 16:=by omega
 have hB:B < 2 ^ 16:=by omega
 have hX:A ^^^ B < 2 ^ 16:=Nat.xor_lt_two_pow hA hB
 have HC:=Lib.hid (fun w=>bits_any A B (A ^^^ B) hA hB hX 1 1 (fun j=>bitXor A B j) w)
 clear hX
 go_enter Tryz.func328, Tryz.ntmps328
 go_wp2_with (go_at_call 337;refine(HC.out _).mono ?_;rintro e w' ⟨rfl,rfl⟩)
 go_ret
 exact⟨rfl,rfl⟩
end Go.Proofs.YtcplmcjbkpmhdaaGreatDoor
namespace Go.Proofs.YtcplmcjbkpmhdaaGreatDoor
open Go.RowKit
set_option maxHeartbeats 4000000 in
theorem rArity_any (op:Int) (w:World) :
  Calls Tryz.prog 249 #[.int .i64 op] w fun e w'=>e=.returned (.int .i64 (arityS op))∧w=w':=by
 go_enter Tryz.func249, Tryz.ntmps249
 go_wp2
 all_goals go_ret
 all_goals refine⟨?_,rfl⟩
 all_goals simp_all [arityS]
 all_goals omega
theorem rnamed_any (op:Int) (w:World) :
  Calls Tryz.prog 248 #[.int .i64 op] w fun e w'=>e=.returned (.bool (op == 2 || op == 3 || op == 24))∧w=w':=by
 go_enter Tryz.func248, Tryz.ntmps248
 go_wp2
 all_goals go_ret
 all_goals refine⟨?_,rfl⟩
 all_goals congr 2
 all_goals simp_all [Bool.eq_iff_iff]
theorem rasks_any (op:Int) (w:World) :
  Calls Tryz.prog 262 #[.int .i64 op] w fun e w'=>e=.returned (.bool (op == 1 || (op == 2 || op == 3 || op == 24)))∧w=w':=by
 go_enter Tryz.func262, Tryz.ntmps262
 go_wp2_with (go_at_call 248;refine(rnamed_any _ _).mono ?_;rintro e w' ⟨rfl,rfl⟩)
 all_goals go_ret
 all_goals refine⟨?_,rfl⟩
 all_goals congr 2
 all_goals simp_all [Bool.eq_iff_iff]
theorem rtruth_any (b:Bool) (w:World):Calls Tryz.prog 320 #[.bool b] w fun e w'=>e=.returned (.int .i64 (truthS b))∧w=w':=by
 cases b
 all_goals
  go_enter Tryz.func320, Tryz.ntmps320
  go_wp2_with fail
  go_ret
  exact⟨rfl,rfl⟩
set_option maxHeartbeats 1000000 in
theorem runary_any (op a:Int) (w:World):Calls Tryz.prog 298 #[.int .i64 op,.int .i64 a] w fun e w'=>e=.returned (.int .i64 (singleS op a))∧w=w':=by
 have HS:Hid (singleS op a=if op=4 then truthS (a == 0) else if op=5 then invW a else if op=6 then negW a else onesW a):=rfl
 go_enter Tryz.func298, Tryz.ntmps298
 go_wp2_with (first | (go_at_call 320;refine(rtruth_any _ _).mono ?_;rintro e w' ⟨rfl,rfl⟩) | (go_at_call 321;refine(RInv_any _ _).mono ?_;rintro e w' ⟨rfl,rfl⟩) | (go_at_call 322;refine(RNeg_any _ _).mono ?_;rintro e w' ⟨rfl,rfl⟩) | (go_at_call 323;refine(ROnes_any _ _).mono ?_;rintro e w' ⟨rfl,rfl⟩))
 all_goals go_ret
 all_goals refine⟨?_,rfl⟩
 all_goals rw[HS.out]
 all_goals simp_all
set_option maxHeartbeats 4000000 in
theorem rbinary_any (op a b:Int) (ha:0≤a) (ha':a < 65536) (hb:0≤b) (hb':b < 65536) (w:World):Calls Tryz.prog 299 #[.int .i64 op,.int .i64 a,.int .i64 b] w fun e w'=>e=.returned (.int .i64 (doubleS op a b))∧w=w':=by
 go_enter Tryz.func299, Tryz.ntmps299
 go_wp2_with (first | (go_at_call 320;refine(rtruth_any _ _).mono ?_;rintro e w' ⟨rfl,rfl⟩) | (go_at_call 297;refine(RAdd_any _ _ _).mono ?_;rintro e w' ⟨rfl,rfl⟩) | (go_at_call 324;refine(RSub_any _ _ _).mono ?_;rintro e w' ⟨rfl,rfl⟩) | (go_at_call 325;refine(RMul_any _ _ _).mono ?_;rintro e w' ⟨rfl,rfl⟩) | (go_at_call 329;refine(RShl_any _ _ _).mono ?_;rintro e w' ⟨rfl,rfl⟩) | (go_at_call 330;refine(RShr_any _ _ _).mono ?_;rintro e w' ⟨rfl,rfl⟩) | (go_at_call 326;refine(RAnd_any _ _ ha ha' hb hb' _).mono ?_;rintro e w' ⟨rfl,rfl⟩) | (go_at_call 327;refine(ROr_any _ _ ha ha' hb hb' _).mono ?_;rintro e w' ⟨rfl,rfl⟩) | (go_at_call 328;refine(RXor_any _ _ ha ha' hb hb' _).mono ?_;rintro e w' ⟨rfl,rfl⟩))
 all_goals go_ret
 all_goals refine⟨?_,rfl⟩
 all_goals congr 2
 all_goals unfold doubleS
 all_goals simp_all
 all_goals rename_i h
 all_goals have h':(a != 0)=true:=by simpa using h
 all_goals rw[h',Bool.true_or]
set_option maxHeartbeats 1000000 in
theorem rdigit8_any (i:Nat) (hi:i < 8) (w:World):Calls Tryz.prog 319 #[.int .i64 i] w fun e w'=>e=.returned (.string ⟨#[UInt8.ofNat (48+i)]⟩)∧w=w':=by
 match i,hi with
 | 0,_ | 1,_ | 2,_ | 3,_ | 4,_ | 5,_ | 6,_ | 7,_ =>
  go_enter Tryz.func319, Tryz.ntmps319
  go_wp2_with fail
  go_ret
  exact⟨rfl,rfl⟩
 | n+8,h=>exact absurd h (by omega)
theorem relName_eq (s:ByteArray) (i:Nat):s++(⟨#[91]⟩:ByteArray)++(⟨#[UInt8.ofNat (48+i)]⟩:ByteArray)++(⟨#[93]⟩:ByteArray)=elName s i:=by
 apply ByteArray.ext
 apply Array.ext'
 simp[elName]
set_option maxRecDepth 100000 in
set_option maxHeartbeats 1000000 in
theorem rElement_any (s:ByteArray) (i:Nat) (hi:i < 8) (w:World) (hs:s.size≤1073741824):Calls Tryz.prog 295 #[.string s,.int .i64 i] w fun e w'=>e=.returned (.string (elName s i))∧w=w':=by
 have HN:=Lib.hid (relName_eq s i)
 have e1:(s++(⟨#[91]⟩:ByteArray)).size=s.size+1:=by simp[ByteArray.size_append];rfl
 have e3:(s++(⟨#[91]⟩:ByteArray)++(⟨#[UInt8.ofNat (48+i)]⟩:ByteArray)).size=s.size+2:=by rw[ByteArray.size_append,e1];rfl
 have HD:=Lib.hid (fun w=>rdigit8_any i hi w)
 generalize UInt8.ofNat (48+i)=c at HD HN e3
 go_enter Tryz.func295, Tryz.ntmps295
 go_wp2_with (go_at_call 319;refine(HD.out _).mono ?_;rintro e w' ⟨rfl,rfl⟩)
 go_ret
 exact⟨by rw[← HN.out];rfl,rfl⟩
set_option maxHeartbeats 1000000 in
theorem rfind_any (l:List (ByteArray × Int)) (a:Option Addr) (cap:Nat) (s:ByteArray) (w:World) (hE:SigsIn w l a cap) :
  Calls Tryz.prog 294 #[.slice a l.length cap,.string s] w fun e w'=>e=.returned (.tuple #[.int .i64 ((findS l s).getD 0),.bool (findS l s).isSome])∧w=w':=by
 have hlen:=hE.2.1
 have hadr:=hE.addr
 have HE:=Lib.hid hE
 have HA:=Lib.hid hadr
 clear hE hadr
 go_enter Tryz.func294, Tryz.ntmps294
 go_wp2_with fail
 go_loop [6] (fun i=>∃ k:Nat,i=.int .i64 k∧FindRel l s k) (fun i=>l.length - (intOf i).toNat)
 case atStart=>exact⟨0,rfl,⟨Nat.zero_le _,fun _ _ h=>absurd h (by omega)⟩⟩
 case round =>
  obtain⟨k,rfl,hF⟩:=hrel
  have hk:=hF.1
  have HF:=Lib.hid hF
  clear hF
  by_cases hlt:k < l.length
  ·obtain⟨b,off,ha⟩:=HA.out.resolve_left (by omega)
   subst ha
   obtain⟨c0,c1⟩:=HE.out.get rfl hlt
   cases heq:((l[k]'hlt).1.toList == s.toList)
   ·have hstep:FindRel l s (k+1):=⟨hlt,fun j hj hjk=>by
     by_cases e:j=k
     ·subst e;exact heq
     ·exact HF.out.2 j hj (by omega)⟩
    have HS:=Lib.hid hstep
    clear hstep
    go_wp2_with fail
    go_round
    case rel=>exact⟨k+1,by go_num,HS.out⟩
    case measure=>simp[intOf];omega
   ·have hfound:=findS_at s l k hlt (fun j hj=>HF.out.2 j (by omega) hj) heq
    have HFd:=Lib.hid hfound
    clear hfound
    go_wp2_with (go_at_call 318;refine(RWrap_any _ _).mono ?_;rintro e w' ⟨rfl,rfl⟩)
    go_ret2
    exact⟨by rw[HFd.out];rfl,rfl⟩
  ·obtain rfl:k=l.length:=by omega
   have hnone:=findS_none s l (fun j hj=>HF.out.2 j hj hj)
   have HN:=Lib.hid hnone
   clear hnone
   go_wp2_with fail
   go_ret2
   exact⟨by rw[HN.out];rfl,rfl⟩
set_option maxHeartbeats 1000000 in
theorem relement_any (l:List (ByteArray × Int)) (a:Option Addr) (cap:Nat) (s:ByteArray) (i:Int) (w:World) (hs:s.size≤1073741824) (hE:SigsIn w l a cap) :
  Calls Tryz.prog 296 #[.slice a l.length cap,.string s,.int .i64 i] w fun e w'=>e=.returned (.int .i64 ((atS l s i).getD 0))∧w=w':=by
 have HE:=Lib.hid hE
 clear hE
 by_cases h:i < 0∨8≤i
 ·have HR:Hid (atS l s i=none):=if_pos h
  rcases h with h | h
  all_goals
   go_enter Tryz.func296, Tryz.ntmps296
   go_wp2_with fail
   go_ret
   exact⟨by rw[HR.out];rfl,rfl⟩
 ·have HR:Hid (atS l s i=findS l (elName s i)):=if_neg h
  obtain⟨k,rfl⟩:=Int.eq_ofNat_of_zero_le (show 0≤i by omega)
  have hk:k < 8:=by omega
  go_enter Tryz.func296, Tryz.ntmps296
  go_wp2_with (first | (go_at_call 295;refine(rElement_any s k hk _ hs).mono ?_;rintro e w' ⟨rfl,rfl⟩) | (go_at_call 294;refine(rfind_any l a cap _ _ HE.out).mono ?_;rintro e w' ⟨rfl,rfl⟩))
  go_ret
  exact⟨by rw[HR.out];rfl,rfl⟩
end Go.Proofs.YtcplmcjbkpmhdaaGreatDoor
namespace Go.Proofs.YtcplmcjbkpmhdaaGreatDoor
open Go.RowKit
set_option maxHeartbeats 2000000 in
theorem roperate_any (op:Int) (l:List Int) (a:Option Addr) (cap:Nat) (w:World) (hE:IntsIn w l a cap) (h1:1≤l.length) (h22:op=22→3≤l.length) (hr:∀ i,0≤l.getD i 0∧l.getD i 0 < 65536) :
  Calls Tryz.prog 264 #[.int .i64 op,.slice a l.length cap] w fun e w'=>e=.returned (.int .i64 (operateS op l))∧Below w.heap.size w w':=by
 have hlen:=hE.2.1
 obtain⟨b,off,ha⟩:=hE.addr.resolve_left (by omega)
 subst ha
 have g0:=hE.get rfl (show 0 < l.length by omega)
 rw[Nat.add_zero] at g0
 by_cases e22:op=22
 ·have h3:=h22 e22
  have g1:=hE.get rfl (show 1 < l.length by omega)
  have g2:=hE.get rfl (show 2 < l.length by omega)
  have HO:Hid (operateS op l=if l.getD 0 0≠0 then l.getD 1 0 else l.getD 2 0):=if_pos e22
  clear hE hr h22
  generalize l.getD 0 0=x0 at g0 HO
  generalize l.getD 1 0=x1 at g1 HO
  generalize l.getD 2 0=x2 at g2 HO
  by_cases z:x0=0
  all_goals
   go_enter Tryz.func264, Tryz.ntmps264
   go_wp2_with fail
   go_ret
   exact⟨by rw[HO.out];first | (rw[if_neg (by simpa using z)];rfl) | (rw[if_pos (by simpa using z)];rfl),Below.refl _ _⟩
 ·by_cases e23:op=23
  ·have HO:Hid (operateS op l=insideL (l.getD 0 0) (l.drop 1)):=by
    show _=_
    unfold operateS;rw[if_neg e22,if_pos e23]
   have HE:=Lib.hid hE
   clear hE hr h22
   generalize hx0:l.getD 0 0=x0 at g0 HO
   clear hx0 e22
   subst e23
   go_enter Tryz.func264, Tryz.ntmps264
   go_wp2_with fail
   go_loopw [5] (fun i wr=>∃ k:Nat,i=.int .i64 ((2 * k+1:Nat):Int)∧2 * k+1≤l.length∧insideL x0 (l.drop 1)=insideL x0 (l.drop (2 * k+1))∧Below w.heap.size w wr) (fun i _=>l.length - (intOf i).toNat)
   case atStart=>exact⟨0,rfl,h1,rfl,Below.refl _ _⟩
   case round =>
    obtain⟨k,rfl,hk,hI,hBr⟩:=hrel
    have HI:=Lib.hid hI
    have HBr:=Lib.hid hBr
    have g0':=(hBr.cell (p:=⟨b,off,none⟩) (World.block_lt_of_cell? _ _ g0)).trans g0
    clear hI hBr
    by_cases hlt:2 * k+2 < l.length
    ·have kk:=keeps_of_below HBr.out
     have hE':=HE.out.keep kk
     have gA:=hE'.get rfl (show 2 * k+1 < l.length by omega)
     have gB:=hE'.get rfl (show 2 * k+1+1 < l.length by omega)
     have hdrop:l.drop (2 * k+1)=l.getD (2 * k+1) 0::l.getD (2 * k+1+1) 0::l.drop (2 * (k+1)+1):=by
      rw[List.drop_eq_getElem_cons (by omega),List.drop_eq_getElem_cons (i:=2 * k+1+1) (by omega)]
      rw[List.getD_eq_getElem?_getD,List.getD_eq_getElem?_getD,List.getElem?_eq_getElem (by omega),List.getElem?_eq_getElem (by omega)]
      rfl
     have HD:=Lib.hid hdrop
     clear hE' kk hdrop
     generalize l.getD (2 * k+1) 0=xa at gA HD
     generalize l.getD (2 * k+1+1) 0=xb at gB HD
     by_cases ca:xa≤x0
     ·by_cases cb:x0≤xb
      ·have hfin:insideL x0 (l.drop 1)=1:=by rw[HI.out,HD.out];unfold insideL;rw[if_pos ⟨ca,cb⟩]
       have HF:=Lib.hid hfin
       clear hfin
       go_wp2_with fail
       go_quiet (fail)
       go_wp2_with fail
       go_ret
       exact⟨by rw[HO.out,HF.out];rfl,below_drewN HBr.out _⟩
      ·have hst:insideL x0 (l.drop 1)=insideL x0 (l.drop (2 * (k+1)+1)):=by rw[HI.out,HD.out,insideL,if_neg (fun h=>cb h.2)]
       have HF:=Lib.hid hst
       clear hst
       go_wp2_with fail
       go_quiet (fail)
       go_wp2_with fail
       go_roundw
       case rel=>exact⟨k+1,by go_num,by omega,HF.out,below_drewN HBr.out _⟩
       case measure=>simp[intOf];omega
     ·have hst:insideL x0 (l.drop 1)=insideL x0 (l.drop (2 * (k+1)+1)):=by rw[HI.out,HD.out,insideL,if_neg (fun h=>ca h.1)]
      have HF:=Lib.hid hst
      have hd:decide (xa≤x0)=false:=by simpa using ca
      clear hst
      go_wp2_with fail
      go_quiet (fail)
      go_wp2_with fail
      go_roundw
      case rel=>exact⟨k+1,by go_num,by omega,HF.out,below_drewN HBr.out _⟩
      case measure=>simp[intOf];omega
    ·have hend:insideL x0 (l.drop (2 * k+1))=0:=by
      match hm:l.drop (2 * k+1) with
      | []=>rfl
      | [_]=>rfl
      | _::_::_ =>
       have:=congrArg List.length hm
       simp at this;omega
     have HD:=Lib.hid hend
     clear hend
     go_wp2_with fail
     go_ret
     exact⟨by rw[HO.out,HI.out,HD.out];rfl,HBr.out⟩
  ·by_cases h1':l.length=1
   ·have HO:Hid (operateS op l=singleS op (l.getD 0 0)):=by
     show _=_
     unfold operateS;rw[if_neg e22,if_neg e23,if_pos h1']
    clear hE hr h22
    generalize l.getD 0 0=x0 at g0 HO
    go_enter Tryz.func264, Tryz.ntmps264
    go_wp2_with (go_at_call 298;refine(runary_any _ _ _).mono ?_;rintro e w' ⟨rfl,rfl⟩)
    go_ret
    exact⟨by rw[HO.out];rfl,Below.refl _ _⟩
   ·have HO:Hid (operateS op l=doubleS op (l.getD 0 0) (l.getD 1 0)):=by
     show _=_
     unfold operateS;rw[if_neg e22,if_neg e23,if_neg h1']
    have g1:=hE.get rfl (show 1 < l.length by omega)
    obtain⟨r0,r0'⟩:=hr 0
    obtain⟨r1,r1'⟩:=hr 1
    clear hE hr h22
    generalize l.getD 0 0=x0 at g0 HO r0 r0'
    generalize l.getD 1 0=x1 at g1 HO r1 r1'
    go_enter Tryz.func264, Tryz.ntmps264
    go_wp2_with fail
    go_quiet ((go_at_call 299;exact Calls.quiet_of_same ((rbinary_any op x0 x1 r0 r0' r1 r1' _).mono fun e w' h=>⟨h.1,h.2.symm⟩)))
    go_wp2_with fail
    go_ret
    exact⟨by rw[HO.out];rfl,below_drewN (Below.refl _ _) _⟩
def knownN (env:List (ByteArray × Int)) (x:Ex):Bool:=if x.op=2 then (findS env x.name).isSome else if x.op=3∨x.op=24 then (atS env x.name 0).isSome else true
def errK (b:Bool):Int:=if b then 0 else 7
def leafS (env:List (ByteArray × Int)) (op n:Int) (s:ByteArray) (L:List Int):Int :=
 if op=1 then n else if op=2 then (findS env s).getD 0 else if (atS env s 0).isSome=false then 0 else if op=3 then (atS env s (L.getD 0 0)).getD 0 else sumS env s
set_option maxRecDepth 100000 in
set_option maxHeartbeats 2000000 in
theorem rleaf_any (env:List (ByteArray × Int)) (a:Option Addr) (cap:Nat) (op n:Int) (s:ByteArray) (ae:Option Addr) (len ce:Nat) (L:List Int) (al:Option Addr) (cl:Nat) (w:World) (hs:s.size≤1073741824) (hS:SigsIn w env a cap) (hI:IntsIn w L al cl)
  (hop:op=1∨op=2∨op=3∨op=24) (h3:op=3→1≤L.length) :
  Calls Tryz.prog 263 #[.agg #[.int .i64 op,.int .i64 n,.string s,.slice ae len ce],.slice a env.length cap,.slice al L.length cl] w fun e w'=>e=.returned (.tuple #[.int .i64 (leafS env op n s L),.int .i64 (errK (knownN env (.mk op n s [])))])∧Below w.heap.size w w':=by
 have HF:=Lib.hid (fun o W (hW:Below w.heap.size w W)=>rfind_any env a cap o W (hS.keep (keeps_of_below hW)))
 have HEl:=Lib.hid (fun i W (hW:Below w.heap.size w W)=>relement_any env a cap s i W hs (hS.keep (keeps_of_below hW)))
 have HN:=Lib.hid (fun w=>rElement_any s 0 (by decide) w hs)
 have HI:=Lib.hid hI
 have HA0:Hid (atS env s 0=findS env (elName s 0)):=rfl
 have hBA:Below w.heap.size w (w.alloc (.cells #[.int .i64 op,.int .i64 n,.string s,.slice ae len ce] 55)):=(Below.refl _ _).alloc (Nat.le_refl _) _
 have HBA:=Lib.hid hBA
 clear hS hI hBA
 by_cases e1:op=1
 ·have hv:Hid (leafS env op n s L=n∧knownN env (.mk op n s [])=true):=by
   refine⟨by rw[leafS,if_pos e1],?_⟩
   unfold knownN;rw[Ex.op_mk,if_neg (by omega),if_neg (by omega)]
  subst e1
  go_enter Tryz.func263, Tryz.ntmps263
  go_wp2_with fail
  go_ret2
  exact⟨by rw[hv.out.1,hv.out.2];rfl,HBA.out⟩
 ·by_cases e2:op=2
  ·have hv:Hid (leafS env op n s L=(findS env s).getD 0∧knownN env (.mk op n s [])=(findS env s).isSome):=by
    refine⟨by rw[leafS,if_neg e1,if_pos e2],?_⟩
    unfold knownN;rw[Ex.op_mk,if_pos e2];rfl
   subst e2
   cases hf:(findS env s).isSome
   ·have hv0:Hid ((findS env s).getD 0=0):=by
     show _=_;cases hc:findS env s with
     | none=>rfl
     | some v=>rw[hc] at hf;simp at hf
    go_enter Tryz.func263, Tryz.ntmps263
    go_wp2_with (go_at_call 294;refine(HF.out _ _ HBA.out).mono ?_;rintro e w' ⟨rfl,rfl⟩)
    go_ret2
    exact⟨by rw[hv.out.1,hv.out.2,hv0.out,hf];rfl,HBA.out⟩
   ·go_enter Tryz.func263, Tryz.ntmps263
    go_wp2_with (go_at_call 294;refine(HF.out _ _ HBA.out).mono ?_;rintro e w' ⟨rfl,rfl⟩)
    go_ret2
    exact⟨by rw[hv.out.1,hv.out.2,hf];rfl,HBA.out⟩
  ·have hk:Hid (knownN env (.mk op n s [])=(findS env (elName s 0)).isSome):=by
    show _=_
    unfold knownN;rw[Ex.op_mk,if_neg e2,if_pos (by omega)];rfl
   cases hf:(findS env (elName s 0)).isSome
   ·have hv:Hid (leafS env op n s L=0):=by show _=_;rw[leafS,if_neg e1,if_neg e2,HA0.out,if_pos hf]
    go_enter Tryz.func263, Tryz.ntmps263
    go_wp2_with (first | (go_at_call 294;refine(HF.out _ _ HBA.out).mono ?_;rintro e w' ⟨rfl,rfl⟩) | (go_at_call 295;refine(HN.out _).mono ?_;rintro e w' ⟨rfl,rfl⟩))
    go_ret2
    exact⟨by rw[hv.out,hk.out,hf];rfl,HBA.out⟩
   ·have hf':¬ (atS env s 0).isSome=false:=by rw[HA0.out,hf];simp
    by_cases e3:op=3
    ·have hv:Hid (leafS env op n s L=(atS env s (L.getD 0 0)).getD 0):=by show _=_;rw[leafS,if_neg e1,if_neg e2,if_neg hf',if_pos e3]
     have hL:=h3 e3
     obtain⟨bl,ol,hal⟩:=HI.out.addr.resolve_left (by omega)
     subst hal
     have i0:=HI.out.get rfl (show 0 < L.length by omega)
     rw[Nat.add_zero] at i0
     have hlx:=World.block_lt_of_cell? _ _ i0
     have i0':∀ o,(w.alloc o).cell? ⟨bl,ol,none⟩=_:=fun o=>(World.cell?_alloc_lt _ _ _ hlx).trans i0
     have hL0:(0:Int) < (L.length:Int):=by omega
     have hLn:0 < L.length:=by omega
     have hLm:L.length≤1073741824:=HI.out.2.1
     generalize L.getD 0 0=x0 at i0 i0' hv
     subst e3
     go_enter Tryz.func263, Tryz.ntmps263
     go_wp2_with (first | (go_at_call 294;refine(HF.out _ _ HBA.out).mono ?_;rintro e w' ⟨rfl,rfl⟩) | (go_at_call 295;refine(HN.out _).mono ?_;rintro e w' ⟨rfl,rfl⟩))
     go_quiet ((go_at_call 296;exact Calls.quiet_of_same ((HEl.out x0 _ (below_drewN HBA.out _)).mono fun e w' h=>⟨h.1,h.2.symm⟩)))
     go_wp2_with fail
     go_ret2
     exact⟨by rw[hv.out,hk.out,hf];rfl,below_drewN HBA.out _⟩
    ·have hv:Hid (leafS env op n s L=sumS env s):=by show _=_;rw[leafS,if_neg e1,if_neg e2,if_neg hf',if_neg e3]
     have e3b:(op == 3)=false:=by simpa using e3
     go_enter Tryz.func263, Tryz.ntmps263
     go_wp2_with (first | (go_at_call 294;refine(HF.out _ _ HBA.out).mono ?_;rintro e w' ⟨rfl,rfl⟩) | (go_at_call 295;refine(HN.out _).mono ?_;rintro e w' ⟨rfl,rfl⟩))
     go_loopw [12,13] (fun q i wr=>∃ k:Nat,i=.int .i64 k∧k≤8∧q=.int .i64 (sumTo env s k)∧wr=w.alloc (.cells #[.int .i64 op,.int .i64 n,.string s,.slice ae len ce] 55)) (fun _ i _=>8 - (intOf i).toNat)
     case atStart=>exact⟨0,rfl,by omega,rfl,rfl⟩
     case round =>
      obtain⟨k,rfl,hk',rfl,rfl⟩:=hrel
      by_cases hlt:k < 8
      ·have HSt:Hid (sumTo env s (k+1)=addW (sumTo env s k) ((atS env s k).getD 0)):=rfl
       go_wp2_with (first | (go_at_call 296;refine(HEl.out _ _ HBA.out).mono ?_;rintro e w' ⟨rfl,rfl⟩) | (go_at_call 297;refine(RAdd_any _ _ _).mono ?_;rintro e w' ⟨rfl,rfl⟩))
       go_roundw
       case rel=>exact⟨k+1,by go_num,by omega,by rw[HSt.out],trivial⟩
       case measure=>simp[intOf];omega
      ·obtain rfl:k=8:=by omega
       go_wp2_with fail
       go_ret2
       exact⟨by rw[hv.out,hk.out,hf];rfl,HBA.out⟩
end Go.Proofs.YtcplmcjbkpmhdaaGreatDoor
