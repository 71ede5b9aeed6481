/- The reference of names: has, IsKeyword, IsName return the same. -/
import Derived.Test.YtebneadheaefdaaGreatDoorKB
import Derived.Test.YtebneadheaefdaaGreatDoorKC
set_option linter.unusedSimpArgs false
set_option linter.unusedVariables false
set_option linter.unnecessarySimpa false
namespace Go.Proofs.YtebneadheaefdaaGreatDoor
open Go.RowKit
theorem contains_no {l:List ByteArray} {s:ByteArray} (h:∀ j (hj:j < l.length),((l[j]'hj).toList == s.toList)=false):Lib.containsS l s=false:=by
 cases hc:Lib.containsS l s
 ·rfl
 ·obtain⟨i,hi,he⟩:=List.mem_iff_getElem.1 ((Lib.containsS_iff l s).1 hc)
  have:=h i hi
  rw[he] at this
  simp at this
theorem contains_yes {l:List ByteArray} {s:ByteArray} {k:Nat} (hk:k < l.length) (h:((l[k]'hk).toList == s.toList)=true):Lib.containsS l s=true:=by
 rw[Lib.containsS_iff]
 have:l[k]=s:=by
  have h':=eq_of_beq h
  rw[ByteArray.toList_eq,ByteArray.toList_eq] at h'
  exact ByteArray.ext (Array.ext' h')
 rw[← this];exact List.getElem_mem hk
set_option maxHeartbeats 1000000 in
theorem has_testbenchref07 (l:List ByteArray) (a:Option Addr) (cap:Nat) (s:ByteArray) (w:World) (hE:StrsIn w l a cap) :
  Calls Tryz.prog 250 #[.slice a l.length cap,.string s] w fun e w'=>e=.returned (.bool (Lib.containsS l s))∧w=w':=by
 have hlen:=hE.2.1
 have HA:=Lib.hid hE.addr
 have HE:=Lib.hid hE
 clear hE
 go_enter Tryz.func250, Tryz.ntmps250
 go_wp2_with fail
 go_loop [5] (fun i=>∃ k:Nat,i=.int .i64 k∧k≤l.length∧∀ j (hj:j < l.length),j < k→((l[j]'hj).toList == s.toList)=false) (fun i=>l.length - (intOf i).toNat)
 case atStart=>exact⟨0,rfl,Nat.zero_le _,fun _ _ h=>absurd h (by omega)⟩
 case round =>
  obtain⟨k,rfl,hk,hall⟩:=hrel
  have HAl:=Lib.hid hall
  clear hall
  by_cases hlt:k < l.length
  ·obtain⟨b,off,ha⟩:=HA.out.resolve_left (by omega)
   subst ha
   have c0:=HE.out.get rfl hlt
   cases he:((l[k]'hlt).toList == s.toList)
   ·go_wp2_with fail
    go_round
    case rel=>exact⟨k+1,by go_num,by omega,fun j hj hjk=>by
     by_cases e:j=k
     ·subst e;exact he
     ·exact HAl.out j hj (by omega)⟩
    case measure=>simp[intOf];omega
   ·have HY:=Lib.hid (contains_yes hlt he)
    go_wp2_with fail
    go_ret
    exact⟨by rw[HY.out];rfl,rfl⟩
  ·obtain rfl:k=l.length:=by omega
   have HN:=Lib.hid (contains_no (l:=l) (s:=s) (fun j hj=>HAl.out j hj hj))
   go_wp2_with fail
   go_ret
   exact⟨by rw[HN.out];rfl,rfl⟩
set_option maxHeartbeats 1000000 in
theorem has_testbenchref08 (l:List ByteArray) (a:Option Addr) (cap:Nat) (s:ByteArray) (w:World) (hE:StrsIn w l a cap) :
  Calls Tryz.prog 222 #[.slice a l.length cap,.string s] w fun e w'=>e=.returned (.bool (Lib.containsS l s))∧w=w':=by
 have hlen:=hE.2.1
 have HA:=Lib.hid hE.addr
 have HE:=Lib.hid hE
 clear hE
 go_enter Tryz.func222, Tryz.ntmps222
 go_wp2_with fail
 go_loop [5] (fun i=>∃ k:Nat,i=.int .i64 k∧k≤l.length∧∀ j (hj:j < l.length),j < k→((l[j]'hj).toList == s.toList)=false) (fun i=>l.length - (intOf i).toNat)
 case atStart=>exact⟨0,rfl,Nat.zero_le _,fun _ _ h=>absurd h (by omega)⟩
 case round =>
  obtain⟨k,rfl,hk,hall⟩:=hrel
  have HAl:=Lib.hid hall
  clear hall
  by_cases hlt:k < l.length
  ·obtain⟨b,off,ha⟩:=HA.out.resolve_left (by omega)
   subst ha
   have c0:=HE.out.get rfl hlt
   cases he:((l[k]'hlt).toList == s.toList)
   ·go_wp2_with fail
    go_round
    case rel=>exact⟨k+1,by go_num,by omega,fun j hj hjk=>by
     by_cases e:j=k
     ·subst e;exact he
     ·exact HAl.out j hj (by omega)⟩
    case measure=>simp[intOf];omega
   ·have HY:=Lib.hid (contains_yes hlt he)
    go_wp2_with fail
    go_ret
    exact⟨by rw[HY.out];rfl,rfl⟩
  ·obtain rfl:k=l.length:=by omega
   have HN:=Lib.hid (contains_no (l:=l) (s:=s) (fun j hj=>HAl.out j hj hj))
   go_wp2_with fail
   go_ret
   exact⟨by rw[HN.out];rfl,rfl⟩
theorem rsmall_any (c:Int) (w:World) :
  Calls Tryz.prog 208 #[.int .u8 c] w fun e w'=>e=.returned (.bool (lowB c))∧w=w':=by
 go_enter Tryz.func208, Tryz.ntmps208
 go_wp2
 all_goals go_ret
 all_goals exact⟨by simp_all [lowB]<;>omega,rfl⟩
theorem rdigit_any (c:Int) (w:World) :
  Calls Tryz.prog 252 #[.int .u8 c] w fun e w'=>e=.returned (.bool (digB c))∧w=w':=by
 go_enter Tryz.func252, Tryz.ntmps252
 go_wp2
 all_goals go_ret
 all_goals exact⟨by simp_all [digB]<;>omega,rfl⟩
set_option maxHeartbeats 400000 in
theorem rinner_any (c:Int) (w:World) :
  Calls Tryz.prog 210 #[.int .u8 c] w fun e w'=>e=.returned (.bool (follB c))∧w=w':=by
 go_enter Tryz.func210, Tryz.ntmps210
 go_wp2_with (first | (go_at_call 208;refine(rsmall_any _ _).mono ?_;rintro e w' ⟨rfl,rfl⟩) | (go_at_call 252;refine(rdigit_any _ _).mono ?_;rintro e w' ⟨rfl,rfl⟩))
 all_goals go_ret
 all_goals exact⟨by simp_all [follB]<;>omega,rfl⟩
set_option maxRecDepth 100000 in
set_option maxHeartbeats 1000000 in
theorem rkeywords_any (w:World):Calls Tryz.prog 251 #[] w fun e w'=>(∃ a cap,e=.returned (.slice a kwS.length cap)∧StrsIn w' kwS a cap)∧Below w.heap.size w w':=by
 go_enter Tryz.func251, Tryz.ntmps251
 go_wp2_with fail
 go_ret
 refine⟨⟨some ⟨w.heap.size,0,none⟩,24,rfl,by decide,by decide,Or.inr ⟨w.heap.size,0,rfl,?_⟩⟩,bel⟩
 intro i hi
 refine⟨kwS[i]'hi,List.getElem?_eq_getElem hi,?_⟩
 rw[World.cell?_alloc_new]
 have h24:i < 24:=hi
 match i,h24 with
 | 0,_ | 1,_ | 2,_ | 3,_ | 4,_ | 5,_ | 6,_ | 7,_ | 8,_ | 9,_ | 10,_ | 11,_ | 12,_ | 13,_ | 14,_ | 15,_ | 16,_ | 17,_ | 18,_ | 19,_ | 20,_ | 21,_ | 22,_ | 23,_=>rfl
 | n+24,h=>exact absurd h (by omega)
set_option maxHeartbeats 400000 in
theorem risKeyword_any (s:ByteArray) (w:World) :
  Calls Tryz.prog 209 #[.string s] w fun e w'=>e=.returned (.bool (kwL.contains s.data.toList))∧Below w.heap.size w w':=by
 go_enter Tryz.func209, Tryz.ntmps209
 go_wp2_with fail
 refine(rkeywords_any _).mono ?_
 rintro e w1 ⟨⟨a,cap,rfl,hs⟩,hb⟩
 have HH:=Lib.hid (has_testbenchref07 kwS a cap s w1 hs)
 have HB:=Lib.hid hb
 clear hs hb
 go_wp2_with (go_at_call 250;refine HH.out.mono ?_;rintro e w' ⟨rfl,rfl⟩)
 go_ret
 exact⟨by rw[← containsS_eq];rfl,HB.out⟩
set_option maxHeartbeats 1000000 in
theorem risName_any (s:ByteArray) (w:World) (hs:s.size≤1073741824) :
  Calls Tryz.prog 160 #[.string s] w fun e w'=>e=.returned (.bool (nameB s.data.toList))∧Below w.heap.size w w':=by
 have hll:s.data.toList.length=s.size:=by simp
 have htl:s.toList=s.data.toList:=ByteArray.toList_eq s
 by_cases h0:s.size=0
 ·have he:s.toList=[]:=by rw[htl];exact List.length_eq_zero_iff.1 (by omega)
  have hR:Hid (nameB s.data.toList=false):=by show _=_;rw[← htl,he];rfl
  clear htl hll
  go_enter Tryz.func160, Tryz.ntmps160
  go_wp2_with fail
  go_ret
  exact⟨by rw[hR.out];rfl,Below.refl _ _⟩
 ·have hne:(s.toList == [])=false:=by
   rw[htl];cases hc:s.data.toList with
   | nil=>rw[hc] at hll;simp at hll;omega
   | cons c l=>rfl
  have hne2:s.toList≠[]:=by intro h;rw[h] at hne;simp at hne
  have hne3:s.toList.isEmpty=false:=by cases hc:s.toList with
   | nil=>exact absurd hc hne2
   | cons c l=>rfl
  by_cases h16:16 < s.size
  ·have hR:Hid (nameB s.data.toList=false):=by
    show _=_;unfold nameB;rw[decide_eq_false (by omega)];simp
   clear htl hll
   go_enter Tryz.func160, Tryz.ntmps160
   go_wp2_with fail
   go_ret
   exact⟨by rw[hR.out];rfl,Below.refl _ _⟩
  ·have hp:0 < s.size:=by omega
   cases hl:lowB (s[0]'hp).toNat
   ·have hR:Hid (nameB s.data.toList=false):=by
     show _=_;unfold nameB;rw[word_bad hp (Or.inr ⟨rfl,hl⟩)];rfl
    clear htl hll
    go_enter Tryz.func160, Tryz.ntmps160
    go_wp2_with (go_at_call 208;refine(rsmall_any _ _).mono ?_;rintro e w' ⟨rfl,rfl⟩)
    go_ret
    exact⟨by rw[hR.out];rfl,Below.refl _ _⟩
   ·cases hk:kwL.contains s.data.toList
    ·have HN:Hid (nameB s.data.toList=wordB s.data.toList):=by
      show _=_;unfold nameB;rw[hk,decide_eq_true (by omega)];simp
     have Hl:=Lib.hid hl
     have HW0:Hid (WordRel s 0):=⟨by omega,by simp,by omega⟩
     clear htl hll
     go_enter Tryz.func160, Tryz.ntmps160
     go_wp2_with (first | (go_at_call 208;refine(rsmall_any _ _).mono ?_;rintro e w' ⟨rfl,rfl⟩) | (go_at_call 209;refine(risKeyword_any _ _).mono ?_;rintro e w1 ⟨rfl,hb1⟩;rw[hk];have HB1:=Lib.hid hb1;clear hb1))
     go_loop [3] (fun i=>∃ k:Nat,i=.int .i64 k∧WordRel s k) (fun i=>s.size - (intOf i).toNat)
     case atStart=>exact⟨0,rfl,HW0.out⟩
     case round =>
      obtain⟨k,rfl,hW⟩:=hrel
      have hkk:=hW.1
      have HW:=Lib.hid hW
      clear hW
      by_cases hlt:k < s.size
      ·cases hf:follB (s[k]'hlt).toNat
       ·have HBad:=Lib.hid (word_bad hlt (Or.inl hf))
        go_wp2_with (go_at_call 210;refine(rinner_any _ _).mono ?_;rintro e w' ⟨rfl,rfl⟩)
        go_ret
        exact⟨by rw[HN.out,HBad.out];rfl,(by assumption:Hid (Below w.heap.size w _)).out⟩
       ·have HSt:=Lib.hid (wordRel_step HW.out hlt hf (fun e=>by subst e;exact Hl.out))
        go_wp2_with (go_at_call 210;refine(rinner_any _ _).mono ?_;rintro e w' ⟨rfl,rfl⟩)
        go_round
        case rel=>exact⟨k+1,by go_num,HSt.out⟩
        case measure=>simp[intOf];omega
      ·have HE:=Lib.hid (wordRel_end HW.out hlt)
       go_wp2_with fail
       go_ret
       exact⟨by rw[HN.out,HE.out,← ByteArray.toList_eq,hne3];rfl,(by assumption:Hid (Below w.heap.size w _)).out⟩
    ·have hR:Hid (nameB s.data.toList=false):=by
      show _=_;unfold nameB;rw[hk];simp
     clear htl hll
     go_enter Tryz.func160, Tryz.ntmps160
     go_wp2_with (first | (go_at_call 208;refine(rsmall_any _ _).mono ?_;rintro e w' ⟨rfl,rfl⟩) | (go_at_call 209;refine(risKeyword_any _ _).mono ?_;rintro e w1 ⟨rfl,hb1⟩;rw[hk]))
     go_ret
     exact⟨by rw[hR.out];rfl,by assumption⟩
end Go.Proofs.YtebneadheaefdaaGreatDoor
namespace Go.Proofs.YtebneadheaefdaaGreatDoor
open Go.RowKit
theorem pow_le16 {k:Nat} (h:k≤16):(2:Int) ^ k≤65536:=by
 have h':((2 ^ k:Nat):Int)≤((2 ^ 16:Nat):Int):=Int.ofNat_le.2 (Nat.pow_le_pow_right (by decide) h)
 rw[Int.natCast_pow] at h'
 simpa using h'
set_option maxHeartbeats 400000 in
theorem power_any (n:Nat) (h:n≤16) (w:World):Calls Tryz.prog 166 #[.int .i64 n] w fun e w'=>e=.returned (.int .i64 (2 ^ n))∧w=w':=by
 go_enter Tryz.func166, Tryz.ntmps166
 go_wp2_with fail
 go_loop [3,4] (fun p i=>∃ (k:Nat) (q:Int),i=.int .i64 k∧k≤n∧p=.int .i64 q∧Hid (q=2 ^ k)∧0≤q∧q≤65536) (fun _ i=>n - (intOf i).toNat)
 case atStart=>exact⟨0,1,rfl,Nat.zero_le _,rfl,rfl,by decide,by decide⟩
 case round =>
  obtain⟨k,q,rfl,hk,rfl,hq,h0,h1⟩:=hrel
  by_cases hlt:k < n
  ·have hp1:(2:Int) ^ (k+1)≤65536:=pow_le16 (by omega)
   have hn:Hid (2 * q=2 ^ (k+1)):=by show _=_;rw[hq.out,Int.pow_succ,Int.mul_comm]
   have h2:2 * q≤65536:=by rw[hn.out];exact hp1
   clear hp1
   go_wp2_with fail
   go_round
   case rel=>exact⟨k+1,2 * q,by go_num,by omega,rfl,hn,by omega,by omega⟩
   case measure=>simp[intOf];omega
  ·obtain rfl:k=n:=by omega
   go_wp2_with fail
   go_ret
   exact⟨by rw[← hq.out];rfl,rfl⟩
end Go.Proofs.YtebneadheaefdaaGreatDoor
namespace Go.Proofs.YtebneadheaefdaaGreatDoor
open Go.RowKit
set_option maxHeartbeats 4000000 in
theorem rArity_any (op:Int) (w:World) :
  Calls Tryz.prog 271 #[.int .i64 op] w fun e w'=>e=.returned (.int .i64 (arityS op))∧w=w':=by
 go_enter Tryz.func271, Tryz.ntmps271
 go_wp2
 all_goals go_ret
 all_goals refine⟨?_,rfl⟩
 all_goals simp_all [arityS]
 all_goals omega
theorem rnamed_any (op:Int) (w:World) :
  Calls Tryz.prog 253 #[.int .i64 op] w fun e w'=>e=.returned (.bool (op == 2 || op == 3 || op == 24))∧w=w':=by
 go_enter Tryz.func253, Tryz.ntmps253
 go_wp2
 all_goals go_ret
 all_goals refine⟨?_,rfl⟩
 all_goals congr 2
 all_goals simp_all [Bool.eq_iff_iff]
end Go.Proofs.YtebneadheaefdaaGreatDoor
namespace Go.Proofs.YtebneadheaefdaaGreatDoor
open Go.RowKit
def knownN (env:List (ByteArray × Int)) (x:Ex):Bool:=if x.op=2 then (findS env x.name).isSome else if x.op=3∨x.op=24 then (atS env x.name 0).isSome else true
end Go.Proofs.YtebneadheaefdaaGreatDoor
