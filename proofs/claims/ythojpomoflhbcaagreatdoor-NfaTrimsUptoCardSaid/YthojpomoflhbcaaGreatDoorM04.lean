/- The reference of expressions, its parts: they return the same plain functions. -/
import Derived.Test.YthojpomoflhbcaaGreatDoorM02
import Derived.Test.YthojpomoflhbcaaGreatDoorM03
set_option linter.unusedSimpArgs false
set_option linter.unusedVariables false
set_option linter.unnecessarySimpa false
namespace Go.Proofs.YthojpomoflhbcaaGreatDoor
open Go.RowKit
set_option maxHeartbeats 4000000 in
theorem rArity_any (op:Int) (w:World) :
  Calls Tryz.prog 286 #[.int .i64 op] w fun e w'=>e=.returned (.int .i64 (arityS op))∧w=w':=by
 go_enter Tryz.func286, Tryz.ntmps286
 go_wp2
 all_goals go_ret
 all_goals refine⟨?_,rfl⟩
 all_goals simp_all [arityS]
 all_goals omega
theorem rnamed_any (op:Int) (w:World) :
  Calls Tryz.prog 285 #[.int .i64 op] w fun e w'=>e=.returned (.bool (op == 2 || op == 3 || op == 24))∧w=w':=by
 go_enter Tryz.func285, Tryz.ntmps285
 go_wp2
 all_goals go_ret
 all_goals refine⟨?_,rfl⟩
 all_goals congr 2
 all_goals simp_all [Bool.eq_iff_iff]
theorem rasks_any (op:Int) (w:World) :
  Calls Tryz.prog 281 #[.int .i64 op] w fun e w'=>e=.returned (.bool (op == 1 || (op == 2 || op == 3 || op == 24)))∧w=w':=by
 go_enter Tryz.func281, Tryz.ntmps281
 go_wp2_with (go_at_call 285;refine(rnamed_any _ _).mono ?_;rintro e w' ⟨rfl,rfl⟩)
 all_goals go_ret
 all_goals refine⟨?_,rfl⟩
 all_goals congr 2
 all_goals simp_all [Bool.eq_iff_iff]
theorem rtruth_any (b:Bool) (w:World):Calls Tryz.prog 321 #[.bool b] w fun e w'=>e=.returned (.int .i64 (truthS b))∧w=w':=by
 cases b
 all_goals
  go_enter Tryz.func321, Tryz.ntmps321
  go_wp2_with fail
  go_ret
  exact⟨rfl,rfl⟩
set_option maxHeartbeats 1000000 in
theorem runary_any (op a:Int) (w:World):Calls Tryz.prog 304 #[.int .i64 op,.int .i64 a] w fun e w'=>e=.returned (.int .i64 (singleS op a))∧w=w':=by
 have HS:Hid (singleS op a=if op=4 then truthS (a == 0) else if op=5 then invW a else if op=6 then negW a else onesW a):=rfl
 go_enter Tryz.func304, Tryz.ntmps304
 go_wp2_with (first | (go_at_call 321;refine(rtruth_any _ _).mono ?_;rintro e w' ⟨rfl,rfl⟩) | (go_at_call 322;refine(RInv_any _ _).mono ?_;rintro e w' ⟨rfl,rfl⟩) | (go_at_call 323;refine(RNeg_any _ _).mono ?_;rintro e w' ⟨rfl,rfl⟩) | (go_at_call 324;refine(ROnes_any _ _).mono ?_;rintro e w' ⟨rfl,rfl⟩))
 all_goals go_ret
 all_goals refine⟨?_,rfl⟩
 all_goals rw[HS.out]
 all_goals simp_all
set_option maxHeartbeats 4000000 in
theorem rbinary_any (op a b:Int) (ha:0≤a) (ha':a < 65536) (hb:0≤b) (hb':b < 65536) (w:World):Calls Tryz.prog 305 #[.int .i64 op,.int .i64 a,.int .i64 b] w fun e w'=>e=.returned (.int .i64 (doubleS op a b))∧w=w':=by
 go_enter Tryz.func305, Tryz.ntmps305
 go_wp2_with (first | (go_at_call 321;refine(rtruth_any _ _).mono ?_;rintro e w' ⟨rfl,rfl⟩) | (go_at_call 303;refine(RAdd_any _ _ _).mono ?_;rintro e w' ⟨rfl,rfl⟩) | (go_at_call 325;refine(RSub_any _ _ _).mono ?_;rintro e w' ⟨rfl,rfl⟩) | (go_at_call 326;refine(RMul_any _ _ _).mono ?_;rintro e w' ⟨rfl,rfl⟩) | (go_at_call 330;refine(RShl_any _ _ _).mono ?_;rintro e w' ⟨rfl,rfl⟩) | (go_at_call 331;refine(RShr_any _ _ _).mono ?_;rintro e w' ⟨rfl,rfl⟩) | (go_at_call 327;refine(RAnd_any _ _ ha ha' hb hb' _).mono ?_;rintro e w' ⟨rfl,rfl⟩) | (go_at_call 328;refine(ROr_any _ _ ha ha' hb hb' _).mono ?_;rintro e w' ⟨rfl,rfl⟩) | (go_at_call 329;refine(RXor_any _ _ ha ha' hb hb' _).mono ?_;rintro e w' ⟨rfl,rfl⟩))
 all_goals go_ret
 all_goals refine⟨?_,rfl⟩
 all_goals congr 2
 all_goals unfold doubleS
 all_goals simp_all
 all_goals rename_i h
 all_goals have h':(a != 0)=true:=by simpa using h
 all_goals rw[h',Bool.true_or]
set_option maxHeartbeats 1000000 in
theorem rdigit8_any (i:Nat) (hi:i < 8) (w:World):Calls Tryz.prog 223 #[.int .i64 i] w fun e w'=>e=.returned (.string ⟨#[UInt8.ofNat (48+i)]⟩)∧w=w':=by
 match i,hi with
 | 0,_ | 1,_ | 2,_ | 3,_ | 4,_ | 5,_ | 6,_ | 7,_ =>
  go_enter Tryz.func223, Tryz.ntmps223
  go_wp2_with fail
  go_ret
  exact⟨rfl,rfl⟩
 | n+8,h=>exact absurd h (by omega)
theorem relName_eq (s:ByteArray) (i:Nat):s++(⟨#[91]⟩:ByteArray)++(⟨#[UInt8.ofNat (48+i)]⟩:ByteArray)++(⟨#[93]⟩:ByteArray)=elName s i:=by
 apply ByteArray.ext
 apply Array.ext'
 simp[elName]
set_option maxRecDepth 100000 in
set_option maxHeartbeats 1000000 in
theorem rElement_any (s:ByteArray) (i:Nat) (hi:i < 8) (w:World) (hs:s.size≤1073741824):Calls Tryz.prog 168 #[.string s,.int .i64 i] w fun e w'=>e=.returned (.string (elName s i))∧w=w':=by
 have HN:=Lib.hid (relName_eq s i)
 have e1:(s++(⟨#[91]⟩:ByteArray)).size=s.size+1:=by simp[ByteArray.size_append];rfl
 have e3:(s++(⟨#[91]⟩:ByteArray)++(⟨#[UInt8.ofNat (48+i)]⟩:ByteArray)).size=s.size+2:=by rw[ByteArray.size_append,e1];rfl
 have HD:=Lib.hid (fun w=>rdigit8_any i hi w)
 generalize UInt8.ofNat (48+i)=c at HD HN e3
 go_enter Tryz.func168, Tryz.ntmps168
 go_wp2_with (go_at_call 223;refine(HD.out _).mono ?_;rintro e w' ⟨rfl,rfl⟩)
 go_ret
 exact⟨by rw[← HN.out];rfl,rfl⟩
set_option maxHeartbeats 1000000 in
theorem rfind_any (l:List (ByteArray × Int)) (a:Option Addr) (cap:Nat) (s:ByteArray) (w:World) (hE:SigsIn w l a cap) :
  Calls Tryz.prog 301 #[.slice a l.length cap,.string s] w fun e w'=>e=.returned (.tuple #[.int .i64 ((findS l s).getD 0),.bool (findS l s).isSome])∧w=w':=by
 have hlen:=hE.2.1
 have hadr:=hE.addr
 have HE:=Lib.hid hE
 have HA:=Lib.hid hadr
 clear hE hadr
 go_enter Tryz.func301, Tryz.ntmps301
 go_wp2_with fail
 go_loop [6] (fun i=>∃ k:Nat,i=.int .i64 k∧FindRel l s k) (fun i=>l.length - (intOf i).toNat)
 case atStart=>exact⟨0,rfl,⟨Nat.zero_le _,fun _ _ h=>absurd h (by omega)⟩⟩
 case round =>
  obtain⟨k,rfl,hF⟩:=hrel
  have hk:=hF.1
  have HF:=Lib.hid hF
  clear hF
  by_cases hlt:k < l.length
  ·obtain⟨b,off,ha⟩:=HA.out.resolve_left (by omega)
   subst ha
   obtain⟨c0,c1⟩:=HE.out.get rfl hlt
   cases heq:((l[k]'hlt).1.toList == s.toList)
   ·have hstep:FindRel l s (k+1):=⟨hlt,fun j hj hjk=>by
     by_cases e:j=k
     ·subst e;exact heq
     ·exact HF.out.2 j hj (by omega)⟩
    have HS:=Lib.hid hstep
    clear hstep
    go_wp2_with fail
    go_round
    case rel=>exact⟨k+1,by go_num,HS.out⟩
    case measure=>simp[intOf];omega
   ·have hfound:=findS_at s l k hlt (fun j hj=>HF.out.2 j (by omega) hj) heq
    have HFd:=Lib.hid hfound
    clear hfound
    go_wp2_with (go_at_call 59;refine(RWrap_any _ _).mono ?_;rintro e w' ⟨rfl,rfl⟩)
    go_ret2
    exact⟨by rw[HFd.out];rfl,rfl⟩
  ·obtain rfl:k=l.length:=by omega
   have hnone:=findS_none s l (fun j hj=>HF.out.2 j hj hj)
   have HN:=Lib.hid hnone
   clear hnone
   go_wp2_with fail
   go_ret2
   exact⟨by rw[HN.out];rfl,rfl⟩
set_option maxHeartbeats 1000000 in
theorem relement_any (l:List (ByteArray × Int)) (a:Option Addr) (cap:Nat) (s:ByteArray) (i:Int) (w:World) (hs:s.size≤1073741824) (hE:SigsIn w l a cap) :
  Calls Tryz.prog 302 #[.slice a l.length cap,.string s,.int .i64 i] w fun e w'=>e=.returned (.int .i64 ((atS l s i).getD 0))∧w=w':=by
 have HE:=Lib.hid hE
 clear hE
 by_cases h:i < 0∨8≤i
 ·have HR:Hid (atS l s i=none):=if_pos h
  rcases h with h | h
  all_goals
   go_enter Tryz.func302, Tryz.ntmps302
   go_wp2_with fail
   go_ret
   exact⟨by rw[HR.out];rfl,rfl⟩
 ·have HR:Hid (atS l s i=findS l (elName s i)):=if_neg h
  obtain⟨k,rfl⟩:=Int.eq_ofNat_of_zero_le (show 0≤i by omega)
  have hk:k < 8:=by omega
  go_enter Tryz.func302, Tryz.ntmps302
  go_wp2_with (first | (go_at_call 168;refine(rElement_any s k hk _ hs).mono ?_;rintro e w' ⟨rfl,rfl⟩) | (go_at_call 301;refine(rfind_any l a cap _ _ HE.out).mono ?_;rintro e w' ⟨rfl,rfl⟩))
  go_ret
  exact⟨by rw[HR.out];rfl,rfl⟩
end Go.Proofs.YthojpomoflhbcaaGreatDoor
namespace Go.Proofs.YthojpomoflhbcaaGreatDoor
open Go.RowKit
set_option maxHeartbeats 2000000 in
theorem roperate_any (op:Int) (l:List Int) (a:Option Addr) (cap:Nat) (w:World) (hE:IntsIn w l a cap) (h1:1≤l.length) (h22:op=22→3≤l.length) (hr:∀ i,0≤l.getD i 0∧l.getD i 0 < 65536) :
  Calls Tryz.prog 283 #[.int .i64 op,.slice a l.length cap] w fun e w'=>e=.returned (.int .i64 (operateS op l))∧Below w.heap.size w w':=by
 have hlen:=hE.2.1
 obtain⟨b,off,ha⟩:=hE.addr.resolve_left (by omega)
 subst ha
 have g0:=hE.get rfl (show 0 < l.length by omega)
 rw[Nat.add_zero] at g0
 by_cases e22:op=22
 ·have h3:=h22 e22
  have g1:=hE.get rfl (show 1 < l.length by omega)
  have g2:=hE.get rfl (show 2 < l.length by omega)
  have HO:Hid (operateS op l=if l.getD 0 0≠0 then l.getD 1 0 else l.getD 2 0):=if_pos e22
  clear hE hr h22
  generalize l.getD 0 0=x0 at g0 HO
  generalize l.getD 1 0=x1 at g1 HO
  generalize l.getD 2 0=x2 at g2 HO
  by_cases z:x0=0
  all_goals
   go_enter Tryz.func283, Tryz.ntmps283
   go_wp2_with fail
   go_ret
   exact⟨by rw[HO.out];first | (rw[if_neg (by simpa using z)];rfl) | (rw[if_pos (by simpa using z)];rfl),Below.refl _ _⟩
 ·by_cases e23:op=23
  ·have HO:Hid (operateS op l=insideL (l.getD 0 0) (l.drop 1)):=by
    show _=_
    unfold operateS;rw[if_neg e22,if_pos e23]
   have HE:=Lib.hid hE
   clear hE hr h22
   generalize hx0:l.getD 0 0=x0 at g0 HO
   clear hx0 e22
   subst e23
   go_enter Tryz.func283, Tryz.ntmps283
   go_wp2_with fail
   go_loopw [5] (fun i wr=>∃ k:Nat,i=.int .i64 ((2 * k+1:Nat):Int)∧2 * k+1≤l.length∧insideL x0 (l.drop 1)=insideL x0 (l.drop (2 * k+1))∧Below w.heap.size w wr) (fun i _=>l.length - (intOf i).toNat)
   case atStart=>exact⟨0,rfl,h1,rfl,Below.refl _ _⟩
   case round =>
    obtain⟨k,rfl,hk,hI,hBr⟩:=hrel
    have HI:=Lib.hid hI
    have HBr:=Lib.hid hBr
    have g0':=(hBr.cell (p:=⟨b,off,none⟩) (World.block_lt_of_cell? _ _ g0)).trans g0
    clear hI hBr
    by_cases hlt:2 * k+2 < l.length
    ·have kk:=keeps_of_below HBr.out
     have hE':=HE.out.keep kk
     have gA:=hE'.get rfl (show 2 * k+1 < l.length by omega)
     have gB:=hE'.get rfl (show 2 * k+1+1 < l.length by omega)
     have hdrop:l.drop (2 * k+1)=l.getD (2 * k+1) 0::l.getD (2 * k+1+1) 0::l.drop (2 * (k+1)+1):=by
      rw[List.drop_eq_getElem_cons (by omega),List.drop_eq_getElem_cons (i:=2 * k+1+1) (by omega)]
      rw[List.getD_eq_getElem?_getD,List.getD_eq_getElem?_getD,List.getElem?_eq_getElem (by omega),List.getElem?_eq_getElem (by omega)]
      rfl
     have HD:=Lib.hid hdrop
     clear hE' kk hdrop
     generalize l.getD (2 * k+1) 0=xa at gA HD
     generalize l.getD (2 * k+1+1) 0=xb at gB HD
     by_cases ca:xa≤x0
     ·by_cases cb:x0≤xb
      ·have hfin:insideL x0 (l.drop 1)=1:=by rw[HI.out,HD.out];unfold insideL;rw[if_pos ⟨ca,cb⟩]
       have HF:=Lib.hid hfin
       clear hfin
       go_wp2_with fail
       go_quiet (fail)
       go_wp2_with fail
       go_ret
       exact⟨by rw[HO.out,HF.out];rfl,below_drewN HBr.out _⟩
      ·have hst:insideL x0 (l.drop 1)=insideL x0 (l.drop (2 * (k+1)+1)):=by rw[HI.out,HD.out,insideL,if_neg (fun h=>cb h.2)]
       have HF:=Lib.hid hst
       clear hst
       go_wp2_with fail
       go_quiet (fail)
       go_wp2_with fail
       go_roundw
       case rel=>exact⟨k+1,by go_num,by omega,HF.out,below_drewN HBr.out _⟩
       case measure=>simp[intOf];omega
     ·have hst:insideL x0 (l.drop 1)=insideL x0 (l.drop (2 * (k+1)+1)):=by rw[HI.out,HD.out,insideL,if_neg (fun h=>ca h.1)]
      have HF:=Lib.hid hst
      have hd:decide (xa≤x0)=false:=by simpa using ca
      clear hst
      go_wp2_with fail
      go_quiet (fail)
      go_wp2_with fail
      go_roundw
      case rel=>exact⟨k+1,by go_num,by omega,HF.out,below_drewN HBr.out _⟩
      case measure=>simp[intOf];omega
    ·have hend:insideL x0 (l.drop (2 * k+1))=0:=by
      match hm:l.drop (2 * k+1) with
      | []=>rfl
      | [_]=>rfl
      | _::_::_ =>
       have:=congrArg List.length hm
       simp at this;omega
     have HD:=Lib.hid hend
     clear hend
     go_wp2_with fail
     go_ret
     exact⟨by rw[HO.out,HI.out,HD.out];rfl,HBr.out⟩
  ·by_cases h1':l.length=1
   ·have HO:Hid (operateS op l=singleS op (l.getD 0 0)):=by
     show _=_
     unfold operateS;rw[if_neg e22,if_neg e23,if_pos h1']
    clear hE hr h22
    generalize l.getD 0 0=x0 at g0 HO
    go_enter Tryz.func283, Tryz.ntmps283
    go_wp2_with (go_at_call 304;refine(runary_any _ _ _).mono ?_;rintro e w' ⟨rfl,rfl⟩)
    go_ret
    exact⟨by rw[HO.out];rfl,Below.refl _ _⟩
   ·have HO:Hid (operateS op l=doubleS op (l.getD 0 0) (l.getD 1 0)):=by
     show _=_
     unfold operateS;rw[if_neg e22,if_neg e23,if_neg h1']
    have g1:=hE.get rfl (show 1 < l.length by omega)
    obtain⟨r0,r0'⟩:=hr 0
    obtain⟨r1,r1'⟩:=hr 1
    clear hE hr h22
    generalize l.getD 0 0=x0 at g0 HO r0 r0'
    generalize l.getD 1 0=x1 at g1 HO r1 r1'
    go_enter Tryz.func283, Tryz.ntmps283
    go_wp2_with fail
    go_quiet ((go_at_call 305;exact Calls.quiet_of_same ((rbinary_any op x0 x1 r0 r0' r1 r1' _).mono fun e w' h=>⟨h.1,h.2.symm⟩)))
    go_wp2_with fail
    go_ret
    exact⟨by rw[HO.out];rfl,below_drewN (Below.refl _ _) _⟩
def knownN (env:List (ByteArray × Int)) (x:Ex):Bool:=if x.op=2 then (findS env x.name).isSome else if x.op=3∨x.op=24 then (atS env x.name 0).isSome else true
def errK (b:Bool):Int:=if b then 0 else 7
def leafS (env:List (ByteArray × Int)) (op n:Int) (s:ByteArray) (L:List Int):Int :=
 if op=1 then n else if op=2 then (findS env s).getD 0 else if (atS env s 0).isSome=false then 0 else if op=3 then (atS env s (L.getD 0 0)).getD 0 else sumS env s
set_option maxRecDepth 100000 in
set_option maxHeartbeats 2000000 in
theorem rleaf_any (env:List (ByteArray × Int)) (a:Option Addr) (cap:Nat) (op n:Int) (s:ByteArray) (ae:Option Addr) (len ce:Nat) (L:List Int) (al:Option Addr) (cl:Nat) (w:World) (hs:s.size≤1073741824) (hS:SigsIn w env a cap) (hI:IntsIn w L al cl)
  (hop:op=1∨op=2∨op=3∨op=24) (h3:op=3→1≤L.length) :
  Calls Tryz.prog 282 #[.agg #[.int .i64 op,.int .i64 n,.string s,.slice ae len ce],.slice a env.length cap,.slice al L.length cl] w fun e w'=>e=.returned (.tuple #[.int .i64 (leafS env op n s L),.int .i64 (errK (knownN env (.mk op n s [])))])∧Below w.heap.size w w':=by
 have HF:=Lib.hid (fun o W (hW:Below w.heap.size w W)=>rfind_any env a cap o W (hS.keep (keeps_of_below hW)))
 have HEl:=Lib.hid (fun i W (hW:Below w.heap.size w W)=>relement_any env a cap s i W hs (hS.keep (keeps_of_below hW)))
 have HN:=Lib.hid (fun w=>rElement_any s 0 (by decide) w hs)
 have HI:=Lib.hid hI
 have HA0:Hid (atS env s 0=findS env (elName s 0)):=rfl
 have hBA:Below w.heap.size w (w.alloc (.cells #[.int .i64 op,.int .i64 n,.string s,.slice ae len ce] 24)):=(Below.refl _ _).alloc (Nat.le_refl _) _
 have HBA:=Lib.hid hBA
 clear hS hI hBA
 by_cases e1:op=1
 ·have hv:Hid (leafS env op n s L=n∧knownN env (.mk op n s [])=true):=by
   refine⟨by rw[leafS,if_pos e1],?_⟩
   unfold knownN;rw[Ex.op_mk,if_neg (by omega),if_neg (by omega)]
  subst e1
  go_enter Tryz.func282, Tryz.ntmps282
  go_wp2_with fail
  go_ret2
  exact⟨by rw[hv.out.1,hv.out.2];rfl,HBA.out⟩
 ·by_cases e2:op=2
  ·have hv:Hid (leafS env op n s L=(findS env s).getD 0∧knownN env (.mk op n s [])=(findS env s).isSome):=by
    refine⟨by rw[leafS,if_neg e1,if_pos e2],?_⟩
    unfold knownN;rw[Ex.op_mk,if_pos e2];rfl
   subst e2
   cases hf:(findS env s).isSome
   ·have hv0:Hid ((findS env s).getD 0=0):=by
     show _=_;cases hc:findS env s with
     | none=>rfl
     | some v=>rw[hc] at hf;simp at hf
    go_enter Tryz.func282, Tryz.ntmps282
    go_wp2_with (go_at_call 301;refine(HF.out _ _ HBA.out).mono ?_;rintro e w' ⟨rfl,rfl⟩)
    go_ret2
    exact⟨by rw[hv.out.1,hv.out.2,hv0.out,hf];rfl,HBA.out⟩
   ·go_enter Tryz.func282, Tryz.ntmps282
    go_wp2_with (go_at_call 301;refine(HF.out _ _ HBA.out).mono ?_;rintro e w' ⟨rfl,rfl⟩)
    go_ret2
    exact⟨by rw[hv.out.1,hv.out.2,hf];rfl,HBA.out⟩
  ·have hk:Hid (knownN env (.mk op n s [])=(findS env (elName s 0)).isSome):=by
    show _=_
    unfold knownN;rw[Ex.op_mk,if_neg e2,if_pos (by omega)];rfl
   cases hf:(findS env (elName s 0)).isSome
   ·have hv:Hid (leafS env op n s L=0):=by show _=_;rw[leafS,if_neg e1,if_neg e2,HA0.out,if_pos hf]
    go_enter Tryz.func282, Tryz.ntmps282
    go_wp2_with (first | (go_at_call 301;refine(HF.out _ _ HBA.out).mono ?_;rintro e w' ⟨rfl,rfl⟩) | (go_at_call 168;refine(HN.out _).mono ?_;rintro e w' ⟨rfl,rfl⟩))
    go_ret2
    exact⟨by rw[hv.out,hk.out,hf];rfl,HBA.out⟩
   ·have hf':¬ (atS env s 0).isSome=false:=by rw[HA0.out,hf];simp
    by_cases e3:op=3
    ·have hv:Hid (leafS env op n s L=(atS env s (L.getD 0 0)).getD 0):=by show _=_;rw[leafS,if_neg e1,if_neg e2,if_neg hf',if_pos e3]
     have hL:=h3 e3
     obtain⟨bl,ol,hal⟩:=HI.out.addr.resolve_left (by omega)
     subst hal
     have i0:=HI.out.get rfl (show 0 < L.length by omega)
     rw[Nat.add_zero] at i0
     have hlx:=World.block_lt_of_cell? _ _ i0
     have i0':∀ o,(w.alloc o).cell? ⟨bl,ol,none⟩=_:=fun o=>(World.cell?_alloc_lt _ _ _ hlx).trans i0
     have hL0:(0:Int) < (L.length:Int):=by omega
     have hLn:0 < L.length:=by omega
     have hLm:L.length≤1073741824:=HI.out.2.1
     generalize L.getD 0 0=x0 at i0 i0' hv
     subst e3
     go_enter Tryz.func282, Tryz.ntmps282
     go_wp2_with (first | (go_at_call 301;refine(HF.out _ _ HBA.out).mono ?_;rintro e w' ⟨rfl,rfl⟩) | (go_at_call 168;refine(HN.out _).mono ?_;rintro e w' ⟨rfl,rfl⟩))
     go_quiet ((go_at_call 302;exact Calls.quiet_of_same ((HEl.out x0 _ (below_drewN HBA.out _)).mono fun e w' h=>⟨h.1,h.2.symm⟩)))
     go_wp2_with fail
     go_ret2
     exact⟨by rw[hv.out,hk.out,hf];rfl,below_drewN HBA.out _⟩
    ·have hv:Hid (leafS env op n s L=sumS env s):=by show _=_;rw[leafS,if_neg e1,if_neg e2,if_neg hf',if_neg e3]
     have e3b:(op == 3)=false:=by simpa using e3
     go_enter Tryz.func282, Tryz.ntmps282
     go_wp2_with (first | (go_at_call 301;refine(HF.out _ _ HBA.out).mono ?_;rintro e w' ⟨rfl,rfl⟩) | (go_at_call 168;refine(HN.out _).mono ?_;rintro e w' ⟨rfl,rfl⟩))
     go_loopw [12,13] (fun q i wr=>∃ k:Nat,i=.int .i64 k∧k≤8∧q=.int .i64 (sumTo env s k)∧wr=w.alloc (.cells #[.int .i64 op,.int .i64 n,.string s,.slice ae len ce] 24)) (fun _ i _=>8 - (intOf i).toNat)
     case atStart=>exact⟨0,rfl,by omega,rfl,rfl⟩
     case round =>
      obtain⟨k,rfl,hk',rfl,rfl⟩:=hrel
      by_cases hlt:k < 8
      ·have HSt:Hid (sumTo env s (k+1)=addW (sumTo env s k) ((atS env s k).getD 0)):=rfl
       go_wp2_with (first | (go_at_call 302;refine(HEl.out _ _ HBA.out).mono ?_;rintro e w' ⟨rfl,rfl⟩) | (go_at_call 303;refine(RAdd_any _ _ _).mono ?_;rintro e w' ⟨rfl,rfl⟩))
       go_roundw
       case rel=>exact⟨k+1,by go_num,by omega,by rw[HSt.out],trivial⟩
       case measure=>simp[intOf];omega
      ·obtain rfl:k=8:=by omega
       go_wp2_with fail
       go_ret2
       exact⟨by rw[hv.out,hk.out,hf];rfl,HBA.out⟩
end Go.Proofs.YthojpomoflhbcaaGreatDoor
namespace Go.Proofs.YthojpomoflhbcaaGreatDoor
open Go.RowKit
noncomputable def knownA (env:List (ByteArray × Int)) (e:Ex):Bool:=e.nodes.all (knownN env)
theorem knownA_eq (env:List (ByteArray × Int)) (e:Ex):knownA env e=(knownN env e && e.args.all (knownA env)):=by
 unfold knownA
 rw[Ex.nodes_eq,List.all_cons,List.all_flatten,List.all_map]
 rfl
theorem knownA_arg {env:List (ByteArray × Int)} {e x:Ex} (hx:x∈e.args) (h:knownA env x=false):knownA env e=false:=by
 rw[knownA_eq]
 cases ha:e.args.all (knownA env)
 ·simp
 ·rw[List.all_eq_true.1 ha x hx] at h;simp at h
theorem knownA_self {env:List (ByteArray × Int)} {e:Ex} (h:∀ j (hj:j < e.args.length),knownA env (e.args[j]'hj)=true):knownA env e=knownN env e:=by
 have:e.args.all (knownA env)=true:=List.all_eq_true.2 fun x hx=>by
  obtain⟨j,hj,rfl⟩:=List.mem_iff_getElem.1 hx
  exact h j hj
 rw[knownA_eq,this,Bool.and_true]
noncomputable def rvalS (env:List (ByteArray × Int)) (e:Ex):Int:=if knownA env e=true then valueS env e else 0
theorem leaf_value {env:List (ByteArray × Int)} {e:Ex} (hop:e.op=1∨e.op=2∨e.op=3∨e.op=24) (h:knownA env e=knownN env e):leafS env e.op e.n e.name (e.args.map (valueS env))=rvalS env e:=by
 unfold rvalS leafS
 rw[h,valueS_eq]
 unfold knownN
 rcases hop with h1 | h1 | h1 | h1
 ·simp[h1]
 ·simp only[h1]
  cases findS env e.name<;>simp
 ·simp only[h1]
  cases h2:atS env e.name 0<;>simp
 ·simp only[h1]
  cases h2:atS env e.name 0<;>simp
set_option maxRecDepth 100000 in
set_option maxHeartbeats 4000000 in
theorem rvalue_any (env:List (ByteArray × Int)) (a:Option Addr) (cap:Nat) (e:Ex):∀ (ae:Option Addr) (ce:Nat) (w:World),OkE e→e.nodes.length≤1073741824→SigsIn w env a cap→ExIn w e ae ce →
  Calls Tryz.prog 261 #[exVal e ae ce,.slice a env.length cap] w fun r w'=>r=.returned (.tuple #[.int .i64 (rvalS env e),.int .i64 (errK (knownA env e))])∧Below w.heap.size w w':=by
 induction e using Ex.ind with
 | h e ih =>
  intro ae ce w hok hn hS hE
  obtain⟨op,n,s,args⟩:=e
  have hlen:=hE.2.2.1
  have hadr:=hE.2.addr
  have hnl:(Ex.mk op n s args).nodes.length=(nodesTo args args.length).length+1:=by rw[nodes_cons];simp[Ex.args_mk]
  have hsz:=hE.1
  simp only[Ex.args_mk,Ex.name_mk] at hlen hadr hsz
  have HN:=Lib.hid (⟨hn,hnl⟩:_∧_)
  have HS:=Lib.hid hS
  have HE:=Lib.hid hE
  have HOK:=Lib.hid hok
  have HIH:=Lib.hid ih
  have HA:=Lib.hid hadr
  clear hn hS hE ih hadr hnl hok
  simp only[exVal,Ex.op_mk,Ex.n_mk,Ex.name_mk,Ex.args_mk]
  go_enter Tryz.func261, Tryz.ntmps261
  go_wp2_with fail
  go_loopw [6,7] (fun v i wr=>∃ k:Nat,i=.int .i64 k∧k≤args.length∧(∀ j (hj:j < args.length),j < k→knownA env (args[j]'hj)=true) ∧
   wr.ownsRow w.heap.size 3 1 v k ((valsTo env args k).map (Value.int .i64))∧Below w.heap.size w wr∧wr.heap[w.heap.size]? = some (.cells #[.int .i64 op,.int .i64 n,.string s,.slice ae args.length ce] 24 (0,0))) (fun _ i _=>args.length - (intOf i).toNat)
  case atStart=>exact⟨0,rfl,Nat.zero_le _,fun _ _ h=>absurd h (by omega),World.ownsRow_nil _ _ _ _,bel,heap_alloc_new' _ _⟩
  case round =>
   obtain⟨k,rfl,hk,hall,hown,hBr,hb0⟩:=hrel
   have HAll:=Lib.hid hall
   clear hall
   have hlt0:=lt_of_block hb0
   by_cases hlt:k < args.length
   ·obtain⟨b,off,ha⟩:=HA.out.resolve_left (by omega)
    subst ha
    obtain⟨a',cap',g0,g1,g2,g3,hX⟩:=HE.out.2.get rfl hlt
    have kk:=keeps_of_below hBr
    have c0:=kk _ _ g0
    have c1:=kk _ _ g1
    have c2:=kk _ _ g2
    have c3:=kk _ _ g3
    simp only[Ex.args_mk] at c0 c1 c2 c3
    have b3:wr.cell? ⟨w.heap.size,3,none⟩=some (.slice (some ⟨b,off,none⟩) args.length ce):=by simp[World.cell?,hb0]
    have hrm:=nodes_room args k hlt
    have hn':=HN.out
    have hm:args[k]∈(Ex.mk op n s args).args:=List.getElem_mem hlt
    have hC:=HIH.out _ hm a' cap' wr (HOK.out.arg hm) (by omega) (HS.out.keep (keeps_of_below hBr)) (hX.keep (keeps_of_below hBr))
    have HC:=Lib.hid hC
    simp only[Ex.args_mk,exVal] at HC
    have Hon:=Lib.hid (valsTo_succ env args k hlt)
    have HR:=Lib.hid (⟨hown,hBr,hb0⟩:_∧_∧_)
    have hz:=hBr.size
    have HM:=Lib.hid hm
    clear g0 g1 g2 g3 kk hC hrm hn' hX hown hBr hb0 hm
    cases hkn:knownA env (args[k]'hlt)
    ·have HF:=Lib.hid (knownA_arg HM.out hkn)
     go_wp2_with fail
     refine HC.out.mono ?_
     rintro e w2 ⟨rfl,hb2⟩
     rw[hkn]
     have HB2:=Lib.hid hb2
     clear hb2 c0 c1 c2 c3
     go_wp2_with fail
     have hR:rvalS env (.mk op n s args)=0:=by unfold rvalS;rw[HF.out];simp
     go_ret2
     exact⟨by rw[hR,HF.out];rfl,HR.out.2.1.trans (HB2.out.mono hz)⟩
    ·have hrv:rvalS env (args[k]'hlt)=valueS env (args[k]'hlt):=by unfold rvalS;rw[if_pos hkn]
     go_wp2_with fail
     refine HC.out.mono ?_
     rintro e w2 ⟨rfl,hb2⟩
     rw[hkn,hrv]
     have HB2:=Lib.hid hb2
     have HO2:=Lib.hid (ownsRow_below HR.out.1 hb2)
     have hz2:=hb2.size
     have HKn:=Lib.hid hkn
     clear hb2 c0 c1 c2 c3 hkn hrv
     go_wp2_with (at_builtin;go_must (refine own_app elemI _ rfl (.tmp 30) (.tmp 32) rfl w.heap.size _ k _ rfl HO2.out [.int .i64 (valueS env (args[k]'hlt))] rfl (by simp[Value.oneCell']) _ 1 rfl (by simp) (by omega) (by omega) ?_))
     intro v' w3 hown3 hg3
     have H3:=Lib.hid (⟨hown3,hg3⟩:_∧_)
     clear hown3 hg3
     go_wp2_with fail
     go_roundw
     case rel =>
      obtain⟨hown3,hg3⟩:=H3.out
      obtain⟨hown,hBr,hb0⟩:=HR.out
      have hold:∀ (q:Nat) (c:Array Value) (t:TypeId),wr.heap[q]? = some (.cells c t (0,0))→t≠3→w3.heap[q]? = some (.cells c t (0,0)):=by
       intro q c t hq ht
       have h1:=(HB2.out.block _ (lt_of_block hq)).trans hq
       have h2:(w2.alloc (.cells #[.int .i64 (valueS env (args[k]'hlt))] 3)).heap[q]? = some (.cells c t (0,0)):=by rw[Below.heap_alloc _ _ _ (lt_of_block h1)];exact h1
       exact(hg3.block _ (lt_of_block h2) (ownsRow_ne hown hq ht)).trans h2
      have hz:=hBr.size
      refine⟨k+1,by go_num,by omega,fun j hj hjk=>?_,by rw[Hon.out,List.map_append];exact hown3,?_,hold _ _ _ hb0 (by decide)⟩
      ·by_cases e:j=k
       ·subst e;exact HKn.out
       ·exact HAll.out j hj (by omega)
      refine Below.grown ((hBr.trans (HB2.out.mono hz)).alloc (by omega) _) hg3 (by simp;omega) (fun q hq=>(hown.lt q hq).1)
     case measure=>simp[intOf];omega
   ·obtain rfl:k=args.length:=by omega
    have hkA:knownA env (.mk op n s args)=knownN env (.mk op n s []):=knownA_self (e:=.mk op n s args) (fun j hj=>HAll.out j hj hj)
    have hown':wr.ownsRow w.heap.size 3 1 u6 (valsTo env args args.length).length ((valsTo env args args.length).map (Value.int .i64)):=by
     rw[valsTo_len _ _ _ (Nat.le_refl _)];exact hown
    have hT:valsTo env args args.length=args.map (valueS env):=by unfold valsTo;rw[List.take_of_length_le (Nat.le_refl _)]
    have hV:Hid ((op=1∨op=2∨op=3∨op=24)→rvalS env (.mk op n s args)=leafS env op n s (valsTo env args args.length)):=by
     intro hop;rw[hT];exact(leaf_value (e:=.mk op n s args) hop hkA).symm
    have hO:Hid (¬ (op=1∨op=2∨op=3∨op=24)→rvalS env (.mk op n s args)=operateS op (valsTo env args args.length)∧knownA env (.mk op n s args)=true):=by
     intro hop
     have hkt:knownA env (.mk op n s args)=true:=by rw[hkA];unfold knownN;rw[Ex.op_mk,if_neg (by omega),if_neg (by omega)]
     refine⟨?_,hkt⟩
     unfold rvalS;rw[if_pos hkt,valueS_eq,hT]
     rw[if_neg (show ¬ (Ex.mk op n s args).op=1 from fun h=>hop (Or.inl h)),if_neg (show ¬ (Ex.mk op n s args).op=2 from fun h=>hop (Or.inr (Or.inl h))),if_neg (show ¬ (Ex.mk op n s args).op=3 from fun h=>hop (Or.inr (Or.inr (Or.inl h)))),if_neg (show ¬ (Ex.mk op n s args).op=24 from fun h=>hop (Or.inr (Or.inr (Or.inr h))))]
     rfl
    have hrng:∀ v∈valsTo env args args.length,Rng v:=by
     intro v hv
     rw[hT] at hv
     obtain⟨x,hx,rfl⟩:=List.mem_map.1 hv
     exact rng_value env x (HOK.out.arg hx)
    have hLl:=valsTo_len env args args.length (Nat.le_refl _)
    have hopk:=operands_ok (node_ok HOK.out.self).2.2.2 (node_ok HOK.out.self).1 (node_ok HOK.out.self).2.1
    simp only[Ex.op_mk,Ex.args_mk] at hopk
    clear hT
    generalize valsTo env args args.length=L at hown' hV hO hrng hLl
    rw[← hLl] at hopk
    obtain⟨al,cl,hv,hints⟩:=ints_of_own hown' (by omega)
    subst hv
    have b0:wr.cell? ⟨w.heap.size,0,none⟩=some (.int .i64 op):=by simp[World.cell?,hb0]
    have b1:wr.cell? ⟨w.heap.size,1,none⟩=some (.int .i64 n):=by simp[World.cell?,hb0]
    have b2:wr.cell? ⟨w.heap.size,2,none⟩=some (.string s):=by simp[World.cell?,hb0]
    have b3:wr.cell? ⟨w.heap.size,3,none⟩=some (.slice ae args.length ce):=by simp[World.cell?,hb0]
    have hz:=hBr.size
    have hSr:=HS.out.keep (keeps_of_below hBr)
    have HL:=Lib.hid (fun h=>fr (W0:=w) (B:=w.heap.size) (rleaf_any env a cap op n s ae args.length ce L al cl wr hsz hSr hints h (fun h3=>by have:=hopk.1 h3;omega)) hBr hz)
    have HOp:=Lib.hid (fun h=>fr (W0:=w) (B:=w.heap.size) (roperate_any op L al cl wr hints h (fun h'=>by have:=hopk.2.1 h';omega) (fun i=>rng_getD hrng i)) hBr hz)
    have HK:=Lib.hid hopk
    have HKA:=Lib.hid hkA
    clear hown hown' hints hb0 hrng hLl hopk hBr hSr hkA
    by_cases hop:op=1∨op=2∨op=3∨op=24
    ·have HL':=Lib.hid (HL.out hop)
     have hv:=Lib.hid (hV.out hop)
     have hb:(op == 1 || (op == 2 || op == 3 || op == 24))=true:=by simp;omega
     have Hop:=Lib.hid hop
     clear hop
     go_wp2_with (first | (go_at_call 281;refine(rasks_any _ _).mono ?_;rintro e w' ⟨rfl,rfl⟩;rw[hb]) | (go_at_call 282;refine HL'.out.mono ?_;rintro e w1 ⟨rfl,hc1,hf1,hz1,hb1⟩))
     go_ret2
     exact⟨by rw[hv.out,HKA.out];rfl,by assumption⟩
    ·have HO':=Lib.hid (HOp.out (HK.out.2.2 (by omega) (by omega) (by omega)))
     have hv:=Lib.hid (hO.out hop)
     have hb:(op == 1 || (op == 2 || op == 3 || op == 24))=false:=by simp;omega
     clear hop
     go_wp2_with (first | (go_at_call 281;refine(rasks_any _ _).mono ?_;rintro e w' ⟨rfl,rfl⟩;rw[hb]) | (go_at_call 283;refine HO'.out.mono ?_;rintro e w1 ⟨rfl,hc1,hf1,hz1,hb1⟩))
     go_ret2
     exact⟨by rw[hv.out.1,hv.out.2];rfl,by assumption⟩
end Go.Proofs.YthojpomoflhbcaaGreatDoor
namespace Go.Proofs.YthojpomoflhbcaaGreatDoor
open Go.RowKit
theorem index_cons91 (b:UInt8) (l:List UInt8):Lib.index (b::l) [91]=if b=91 then 0 else if Lib.index l [91]=-1 then -1 else Lib.index l [91]+1:=by
 have h:Lib.index (b::l) [91]=if [91].isPrefixOf (b::l) then 0 else if Lib.index l [91] == -1 then -1 else Lib.index l [91]+1:=rfl
 have h2:([91]:List UInt8).isPrefixOf (b::l)=(91 == b):=by simp[List.isPrefixOf]
 rw[h,h2]
 by_cases e:b=91
 ·subst e;rfl
 ·rw[if_neg e]
  have:((91:UInt8) == b)=false:=by simpa using fun h=>e h.symm
  rw[this]
  simp
theorem cut_hit:∀ (A r:List UInt8),(91:UInt8)∉A→Lib.index (A++91::r) [91]=A.length
 | [],r,_=>by rw[List.nil_append,index_cons91,if_pos rfl];rfl
 | b::A,r,h=>by
  have hb:b≠91:=fun e=>h (by rw[e];exact List.mem_cons_self)
  have ih:=cut_hit A r (fun hh=>h (List.mem_cons_of_mem _ hh))
  rw[List.cons_append,index_cons91,if_neg hb,ih,if_neg (by omega)]
  simp
theorem cut_eq (A r:List UInt8) (h:(91:UInt8)∉A):Lib.cut (A++91::r) [91]=(A,r,true):=by
 unfold Lib.cut
 rw[cut_hit A r h,if_pos (by omega)]
 simp
theorem index_split:∀ (l:List UInt8),0≤Lib.index l [91]→l=l.take (Lib.index l [91]).toNat++91::l.drop ((Lib.index l [91]).toNat+1)
 | [],h=>by exfalso;exact absurd h (by decide)
 | b::l,h=>by
  rw[index_cons91] at h⊢
  by_cases e:b=91
  ·subst e;simp
  ·rw[if_neg e] at h⊢
   by_cases e1:Lib.index l [91]=-1
   ·rw[if_pos e1] at h;exact absurd h (by decide)
   ·have hge:=Lib.index_ge l [91]
    have ih:=index_split l (by omega)
    rw[if_neg e1]
    obtain⟨k,hk⟩:=Int.eq_ofNat_of_zero_le (show 0≤Lib.index l [91] by omega)
    rw[hk] at ih⊢
    have:((k:Int)+1).toNat=k+1:=by omega
    rw[this]
    simp only[List.take_succ_cons,List.drop_succ_cons,List.cons_append]
    rw[Int.toNat_natCast] at ih
    rw[← ih]
theorem nameB_no91 {A:List UInt8} (h:nameB A=true):(91:UInt8)∉A:=by
 intro hm
 have hw:wordB A=true:=by
  unfold nameB at h
  simp only[Bool.and_eq_true] at h
  simp_all
 unfold wordB at hw
 rw[Bool.and_eq_true] at hw
 have:=List.all_eq_true.1 hw.1 _ hm
 exact absurd this (by decide)
theorem elemB_iff (l:List UInt8):elemB l=true↔∃ A x,l=A++[91,x,93]∧nameB A=true∧48≤x.toNat∧x.toNat < 56:=by
 constructor
 ·intro h
  unfold elemB at h
  simp only[Bool.and_eq_true] at h
  obtain⟨⟨h1,h2⟩,h3⟩:=h
  unfold Lib.cut at h1 h2 h3
  split at h1
  ·rename_i hi
   rw[if_pos hi] at h2 h3
   have hs:=index_split l hi
   dsimp only at h2 h3
   have hl:([91]:List UInt8).length=1:=rfl
   rw[hl] at h3
   generalize l.drop ((Lib.index l [91]).toNat+1)=r at hs h3
   by_cases hr:r.length=2
   ·obtain⟨x,y,rfl⟩:∃ x y,r=[x,y]:=by
     match r,hr with
     | [x,y],_=>exact⟨x,y,rfl⟩
    rw[elemTail_two] at h3
    obtain⟨hy,hx,hx'⟩:=of_decide_eq_true h3
    have hy':y=93:=UInt8.toNat_inj.1 hy
    exact⟨_,x,by rw[← hy'];exact hs,h2,hx,hx'⟩
   ·rw[elemTail_no hr] at h3;exact absurd h3 (by decide)
  ·simp at h1
 ·rintro ⟨A,x,rfl,h2,hx,hx'⟩
  unfold elemB
  have hc:=cut_eq A [x,93] (nameB_no91 h2)
  have:A++[91,x,93]=A++91::[x,93]:=rfl
  rw[this,hc]
  simp only[Bool.and_eq_true]
  exact⟨⟨trivial,h2⟩,by rw[elemTail_two];exact decide_eq_true ⟨rfl,hx,hx'⟩⟩
theorem elemB_places (s:ByteArray) (m:Nat) (hm:s.size=m+3) (b0:m < s.size) (b1:m+1 < s.size) (b2:m+2 < s.size) :
  elemB s.data.toList=(decide ((s[m+2]'b2).toNat=93) && decide ((s[m]'b0).toNat=91) && decide (48≤(s[m+1]'b1).toNat∧(s[m+1]'b1).toNat < 56) && nameB (s.data.toList.take m)):=by
 have hlen:s.data.toList.length=m+3:=by simpa using hm
 have hdec:s.data.toList=s.data.toList.take m++[s[m]'(by omega),s[m+1]'(by omega),s[m+2]'(by omega)]:=by
  conv=>lhs;rw[← List.take_append_drop m s.data.toList]
  congr 1
  rw[List.drop_eq_getElem_cons (by omega),List.drop_eq_getElem_cons (i:=m+1) (by omega),List.drop_eq_getElem_cons (i:=m+1+1) (by omega),List.drop_eq_nil_of_le (by omega)]
  rfl
 generalize hA:s.data.toList.take m=A at hdec⊢
 generalize (s[m]'(by omega))=x at hdec⊢
 generalize (s[m+1]'(by omega))=y at hdec⊢
 generalize (s[m+2]'(by omega))=z at hdec⊢
 rw[Bool.eq_iff_iff,elemB_iff,hdec]
 simp only[Bool.and_eq_true,decide_eq_true_eq]
 constructor
 ·rintro ⟨A',x',he,hn,h1,h2⟩
  have hl:=congrArg List.length he
  simp only[List.length_append,List.length_cons,List.length_nil] at hl
  obtain⟨e1,e2⟩:=List.append_inj he (by omega)
  simp only[List.cons.injEq,and_true] at e2
  obtain⟨rfl,rfl,rfl⟩:=e2
  exact⟨⟨⟨rfl,rfl⟩,h1,h2⟩,by rw[e1];exact hn⟩
 ·rintro ⟨⟨⟨hz,hx⟩,h1,h2⟩,hn⟩
  exact⟨A,y,by rw[UInt8.toNat_inj.1 (show x.toNat=(91:UInt8).toNat from hx),UInt8.toNat_inj.1 (show z.toNat=(93:UInt8).toNat from hz)],hn,h1,h2⟩
theorem elemB_small (l:List UInt8) (h:l.length < 4):elemB l=false:=by
 cases hc:elemB l
 ·rfl
 ·obtain⟨A,x,rfl,hn,_⟩:=(elemB_iff l).1 hc
  simp only[List.length_append,List.length_cons,List.length_nil] at h
  have:A=[]:=List.length_eq_zero_iff.1 (by omega)
  subst this
  exact absurd hn (by decide)
theorem str_take (s:ByteArray) (m:Nat) (h:m≤s.size):(s.extract 0 m).data.toList=s.data.toList.take m:=by
 simp[ByteArray.data_extract]
set_option maxHeartbeats 2000000 in
theorem rSplit_any (s:ByteArray) (w:World) (hs:s.size≤1073741824) :
  Calls Tryz.prog 174 #[.string s] w fun e w'=>(∃ (t:ByteArray) (i:Int),e=.returned (.tuple #[.string t,.int .i64 i,.bool (elemB s.data.toList)]))∧Below w.heap.size w w':=by
 by_cases h4:s.size < 4
 ·have HE:=Lib.hid (elemB_small s.data.toList (by simpa using h4))
  go_enter Tryz.func174, Tryz.ntmps174
  go_wp2_with fail
  go_ret3
  exact⟨⟨_,_,by rw[HE.out];rfl⟩,Below.refl _ _⟩
 ·obtain⟨m,hm⟩:∃ m,s.size=m+3:=⟨s.size - 3,by omega⟩
  have HT:=Lib.hid (str_take s m (by omega))
  have i1:(s.size:Int) - 1=((m+2:Nat):Int):=by omega
  have i2:(s.size:Int) - 2=((m+1:Nat):Int):=by omega
  have i3:(s.size:Int) - 3=((m:Nat):Int):=by omega
  have b2:m+2 < s.size:=by omega
  have b1:m+1 < s.size:=by omega
  have b0:m < s.size:=by omega
  have HE:=Lib.hid (elemB_places s m hm b0 b1 b2)
  have HM:=Lib.hid hm
  clear hm
  have q1:(s[m+1]'b1).toNat < 256:=UInt8.toNat_lt _
  have HN:=Lib.hid (fun w=>risName_any (s.extract 0 m) w (by rw[ByteArray.size_extract];omega))
  rw[HT.out] at HN
  have HR:∀ c,elemB s.data.toList=c→Hid (elemB s.data.toList=c):=fun _ h=>h
  by_cases h93:(s[m+2]'b2).toNat=93
  ·by_cases h91:(s[m]'b0).toNat=91
   ·by_cases h48:(s[m+1]'b1).toNat < 48
    ·have HX:=HR false (by rw[HE.out,decide_eq_false (p:=48≤_∧_) (by omega)];simp)
     go_enter Tryz.func174, Tryz.ntmps174
     go_wp2_with fail
     go_ret3
     exact⟨⟨_,_,by rw[HX.out];rfl⟩,Below.refl _ _⟩
    ·by_cases h56:(s[m+1]'b1).toNat < 56
     ·have HX:=HR (nameB (s.data.toList.take m)) (by rw[HE.out,decide_eq_true h93,decide_eq_true h91,decide_eq_true (p:=48≤_∧_) ⟨by omega,h56⟩];simp)
      cases hn:nameB (s.data.toList.take m)
      all_goals
       go_enter Tryz.func174, Tryz.ntmps174
       go_wp2_with (go_at_call 125;refine(HN.out _).mono ?_;rintro e w1 ⟨rfl,hb1⟩;rw[hn])
       go_ret3
       exact⟨⟨_,_,by rw[HX.out,hn];rfl⟩,by assumption⟩
     ·have HX:=HR false (by rw[HE.out,decide_eq_false (p:=48≤_∧_) (by omega)];simp)
      go_enter Tryz.func174, Tryz.ntmps174
      go_wp2_with fail
      go_ret3
      exact⟨⟨_,_,by rw[HX.out];rfl⟩,Below.refl _ _⟩
   ·have HX:=HR false (by rw[HE.out,decide_eq_false h91];simp)
    have hne:(((s[m]'b0).toNat:Int) != 91)=true:=by simp;omega
    go_enter Tryz.func174, Tryz.ntmps174
    go_wp2_with fail
    go_ret3
    exact⟨⟨_,_,by rw[HX.out];rfl⟩,Below.refl _ _⟩
  ·have HX:=HR false (by rw[HE.out,decide_eq_false h93];simp)
   go_enter Tryz.func174, Tryz.ntmps174
   go_wp2_with fail
   go_ret3
   exact⟨⟨_,_,by rw[HX.out];rfl⟩,Below.refl _ _⟩
set_option maxHeartbeats 400000 in
theorem rIsVar_any (s:ByteArray) (w:World) (hs:s.size≤1073741824) :
  Calls Tryz.prog 117 #[.string s] w fun e w'=>e=.returned (.bool (varB s.data.toList))∧Below w.heap.size w w':=by
 have hE:=Lib.hid (rSplit_any s w hs)
 go_enter Tryz.func117, Tryz.ntmps117
 go_wp2_with fail
 refine hE.out.mono ?_
 rintro e w1 ⟨⟨t,i,rfl⟩,hb1⟩
 have hN:=Lib.hid ((risName_any s w1 hs).mono fun e w' h=>(⟨h.1,hb1.trans (h.2.mono hb1.size)⟩:_∧Below w.heap.size w w'))
 cases he:elemB s.data.toList
 all_goals go_wp2_with (go_at_call 125;refine hN.out.mono ?_;rintro e w2 ⟨rfl,hb2⟩)
 all_goals go_ret
 all_goals exact⟨by unfold varB;rw[he];rfl,by assumption⟩
end Go.Proofs.YthojpomoflhbcaaGreatDoor
namespace Go.Proofs.YthojpomoflhbcaaGreatDoor
open Go.RowKit
set_option maxHeartbeats 8000000 in
theorem rwrong_any (op n:Int) (s:ByteArray) (args:List Ex) (a:Option Addr) (cap:Nat) (w:World) (hs:s.size≤1073741824) (hl:args.length≤1073741824) :
  Calls Tryz.prog 269 #[.agg #[.int .i64 op,.int .i64 n,.string s,.slice a args.length cap]] w fun e w'=>e=.returned (.int .i64 (nodeS (.mk op n s args)))∧Below w.heap.size w w':=by
 go_enter Tryz.func269, Tryz.ntmps269
 go_wp2_with (first | (go_at_call 285;refine(rnamed_any _ _).mono ?_;rintro e w' ⟨rfl,rfl⟩) | (go_at_call 286;refine(rArity_any _ _).mono ?_;rintro e w' ⟨rfl,rfl⟩) | (go_at_call 117;go_must (refine(fr (W0:=w) (B:=w.heap.size) (rIsVar_any _ _ hs) bel sz).mono ?_;rintro e w1 ⟨rfl,hc1,hf1,hz1,hb1⟩;try simp only[World.size_alloc,World.size_setCell,World.size_drew,World.heap_drewN] at hz1;try (have hzl0:w.heap.size < w1.heap.size:=by omega);try (have hzl1:w.heap.size+1 < w1.heap.size:=by omega);try (have hzl2:w.heap.size+2 < w1.heap.size:=by omega);try (have hzl3:w.heap.size+3 < w1.heap.size:=by omega);try (have hzl4:w.heap.size+4 < w1.heap.size:=by omega);try (have hzl5:w.heap.size+5 < w1.heap.size:=by omega))) | (go_at_call 125;go_must (refine(fr (W0:=w) (B:=w.heap.size) (risName_any _ _ hs) bel sz).mono ?_;rintro e w1 ⟨rfl,hc1,hf1,hz1,hb1⟩;try simp only[World.size_alloc,World.size_setCell,World.size_drew,World.heap_drewN] at hz1;try (have hzl0:w.heap.size < w1.heap.size:=by omega);try (have hzl1:w.heap.size+1 < w1.heap.size:=by omega);try (have hzl2:w.heap.size+2 < w1.heap.size:=by omega);try (have hzl3:w.heap.size+3 < w1.heap.size:=by omega);try (have hzl4:w.heap.size+4 < w1.heap.size:=by omega);try (have hzl5:w.heap.size+5 < w1.heap.size:=by omega))))
 all_goals go_ret
 all_goals refine⟨?_,bel⟩
 all_goals congr 2
 all_goals simp_all [nodeS,operandsB,Ex.op,Ex.n,Ex.name,Ex.args,ByteArray.toList_eq]
 all_goals first | omega | exact decide_eq_true (by omega) | exact decide_eq_false (by omega) | grind
end Go.Proofs.YthojpomoflhbcaaGreatDoor
