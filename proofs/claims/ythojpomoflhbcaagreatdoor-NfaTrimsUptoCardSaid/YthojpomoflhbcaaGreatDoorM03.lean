/- The values of names: find, at, sum. -/
import Derived.Test.YthojpomoflhbcaaGreatDoorM02
import Derived.StillTailTactics
import Derived.Deep.RegionHeld3
set_option linter.unusedSimpArgs false
set_option linter.unusedVariables false
set_option linter.unnecessarySimpa false
namespace Go.Proofs.YthojpomoflhbcaaGreatDoor
open Go.RowKit
def SigsIn (w:World) (l:List (ByteArray × Int)) (a:Option Addr) (cap:Nat):Prop:=SliceIn 2 l.length a cap (fun i b o=>∃ s,l[i]? = some s∧w.cell? ⟨b,o,none⟩=some (.string s.1)∧w.cell? ⟨b,o+1,none⟩=some (.int .i64 s.2))
theorem SigsIn.keep {w w':World} (hk:∀ a v,w.cell? a=some v→w'.cell? a=some v) {l:List (ByteArray × Int)} {a:Option Addr} {cap:Nat} (h:SigsIn w l a cap):SigsIn w' l a cap :=
 h.mono fun _ _ _ _ ⟨s,hs,h1,h2⟩=>⟨s,hs,hk _ _ h1,hk _ _ h2⟩
theorem SigsIn.get {w:World} {l:List (ByteArray × Int)} {a:Option Addr} {cap:Nat} (h:SigsIn w l a cap) {b off:Nat} (ha:a=some ⟨b,off,none⟩) {i:Nat} (hi:i < l.length) :
  w.cell? ⟨b,off+i * 2,none⟩=some (.string (l[i]'hi).1)∧w.cell? ⟨b,off+i * 2+1,none⟩=some (.int .i64 (l[i]'hi).2):=by
 rcases h.2.2 with h | ⟨b',off',ha',hq⟩
 ·omega
 ·rw[ha] at ha'
  simp only[Option.some.injEq,Addr.mk.injEq,and_true] at ha'
  obtain⟨rfl,rfl⟩:=ha'
  obtain⟨e',he',hp⟩:=hq i hi
  rw[List.getElem?_eq_getElem hi] at he'
  obtain rfl:=Option.some.inj he'
  exact hp
def findS:List (ByteArray × Int)→ByteArray→Option Int
 | [],_=>none
 | x::l,s=>if (x.1.toList == s.toList)=true then some (wrapW x.2) else findS l s
theorem findS_at (s:ByteArray) (l:List (ByteArray × Int)):∀ (k:Nat) (hk:k < l.length),(∀ j (hj:j < k),((l[j]'(by omega)).1.toList == s.toList)=false)→((l[k]'hk).1.toList == s.toList)=true→findS l s=some (wrapW (l[k]'hk).2):=by
 induction l with
 | nil=>intro k hk;simp at hk
 | cons x l ih =>
  intro k hk h1 h2
  cases k with
  | zero=>unfold findS;exact if_pos h2
  | succ k =>
   have h0:=h1 0 (by omega)
   unfold findS
   rw[if_neg (by simpa using h0)]
   exact ih k (by simpa using hk) (fun j hj=>h1 (j+1) (by omega)) h2
theorem findS_none (s:ByteArray) (l:List (ByteArray × Int)):(∀ j (hj:j < l.length),((l[j]'hj).1.toList == s.toList)=false)→findS l s=none:=by
 induction l with
 | nil=>intro _;rfl
 | cons x l ih =>
  intro h1
  have h0:=h1 0 (by simp)
  unfold findS
  rw[if_neg (by simpa using h0)]
  exact ih (fun j hj=>h1 (j+1) (by simpa using hj))
def FindRel (l:List (ByteArray × Int)) (s:ByteArray) (k:Nat):Prop:=k≤l.length∧∀ j (hj:j < l.length),j < k→((l[j]'hj).1.toList == s.toList)=false
set_option maxHeartbeats 1000000 in
theorem find_any (l:List (ByteArray × Int)) (a:Option Addr) (cap:Nat) (s:ByteArray) (w:World) (hE:SigsIn w l a cap) :
  Calls Tryz.prog 257 #[.agg #[.slice a l.length cap],.string s] w fun e w'=>e=.returned (.tuple #[.int .i64 ((findS l s).getD 0),.bool (findS l s).isSome])∧Below w.heap.size w w':=by
 have hlen:=hE.2.1
 have hadr:=hE.addr
 have HE:=Lib.hid hE
 have HA:=Lib.hid hadr
 clear hE hadr
 go_enter Tryz.func257, Tryz.ntmps257
 go_wp2_with fail
 go_loopw [11] (fun i wr=>∃ k:Nat,i=.int .i64 k∧FindRel l s k∧Below w.heap.size w wr) (fun i _=>l.length - (intOf i).toNat)
 case atStart=>exact⟨0,rfl,⟨Nat.zero_le _,fun _ _ h=>absurd h (by omega)⟩,bel⟩
 case round =>
  obtain⟨k,rfl,hF,hBr⟩:=hrel
  have hk:=hF.1
  have HF:=Lib.hid hF
  have HBr:=Lib.hid hBr
  clear hF hBr
  by_cases hlt:k < l.length
  ·obtain⟨b,off,ha⟩:=HA.out.resolve_left (by omega)
   subst ha
   obtain⟨c0,c1⟩:=(HE.out.keep (keeps_of_below HBr.out)).get rfl hlt
   have hBA:Below w.heap.size w (wr.alloc (.cells #[.string (l[k]'hlt).1,.int .i64 (l[k]'hlt).2] 78)):=HBr.out.alloc HBr.out.size _
   have HBA:=Lib.hid hBA
   clear hBA
   cases heq:((l[k]'hlt).1.toList == s.toList)
   ·have hstep:FindRel l s (k+1):=⟨hlt,fun j hj hjk=>by
     by_cases e:j=k
     ·subst e;exact heq
     ·exact HF.out.2 j hj (by omega)⟩
    have HS:=Lib.hid hstep
    clear hstep
    go_wp2_with fail
    go_roundw
    case rel=>exact⟨k+1,by go_num,HS.out,HBA.out⟩
    case measure=>simp[intOf];omega
   ·have hfound:=findS_at s l k hlt (fun j hj=>HF.out.2 j (by omega) hj) heq
    have HFd:=Lib.hid hfound
    clear hfound
    go_wp2_with (go_at_call 57;refine(WWrap_any _ _).mono ?_;rintro e w' ⟨rfl,rfl⟩)
    go_ret2
    exact⟨by rw[HFd.out];rfl,HBA.out⟩
  ·obtain rfl:k=l.length:=by omega
   have hnone:=findS_none s l (fun j hj=>HF.out.2 j hj hj)
   have HN:=Lib.hid hnone
   clear hnone
   go_wp2_with fail
   go_ret2
   exact⟨by rw[HN.out];rfl,HBr.out⟩
def elName (s:ByteArray) (i:Int):ByteArray:=⟨(s.data.toList++[91]++[UInt8.ofNat (48+i.toNat)]++[93]).toArray⟩
def atS (l:List (ByteArray × Int)) (s:ByteArray) (i:Int):Option Int:=if i < 0∨8≤i then none else findS l (elName s i)
theorem elName_eq (s:ByteArray) (i:Int) (h:0≤i):s++(⟨#[91]⟩:ByteArray)++strOfNums [48+i]++(⟨#[93]⟩:ByteArray)=elName s i:=by
 apply ByteArray.ext
 apply Array.ext'
 have:(48+i).toNat=48+i.toNat:=by omega
 simp[elName,strOfNums,this]
set_option maxRecDepth 100000 in
set_option maxHeartbeats 1000000 in
theorem at_any (l:List (ByteArray × Int)) (a:Option Addr) (cap:Nat) (s:ByteArray) (i:Int) (w:World) (hs:s.size≤1073741824) (hE:SigsIn w l a cap) :
  Calls Tryz.prog 258 #[.agg #[.slice a l.length cap],.string s,.int .i64 i] w fun e w'=>e=.returned (.tuple #[.int .i64 ((atS l s i).getD 0),.bool (atS l s i).isSome])∧Below w.heap.size w w':=by
 have HE:=Lib.hid hE
 clear hE
 by_cases h0:i < 0
 ·go_enter Tryz.func258, Tryz.ntmps258
  go_wp2_with fail
  go_ret2
  exact⟨by rw[atS,if_pos (Or.inl h0)];rfl,bel⟩
 ·by_cases h1:8≤i
  ·go_enter Tryz.func258, Tryz.ntmps258
   go_wp2_with fail
   go_ret2
   exact⟨by rw[atS,if_pos (Or.inr h1)];rfl,bel⟩
  ·have hcv:∀ (W:World) (b:Nat),W.cell? ⟨b,0,none⟩=some (.int .u8 (48+i))→(convert 119 9 (.slice (some ⟨b,0,none⟩) 1 1)).run Tryz.prog W=.ok (.string (strOfNums [48+i])) W:=fun W b hc =>
    run_convert_bytes_arg W 119 5 Tryz.underlying119 Tryz.underlying5 b 0 1 1 [48+i] rfl (fun j hj=>by have hj0:j=0:=(by omega);subst hj0;simpa using hc) 9 Tryz.underlying9
   have HN:=Lib.hid (elName_eq s i (by omega))
   have e2:(strOfNums [48+i]).size=1:=strOfNums_size _
   have e1:(s++(⟨#[91]⟩:ByteArray)).size=s.size+1:=by simp[ByteArray.size_append];rfl
   have e3:(s++(⟨#[91]⟩:ByteArray)++strOfNums [48+i]).size=s.size+2:=by rw[ByteArray.size_append,e1,e2]
   have hF:=fun W (hW:Below w.heap.size w W) (hz:w.heap.size≤W.heap.size)=>fr (W0:=w) (B:=w.heap.size) (find_any l a cap (elName s i) W (HE.out.keep (keeps_of_below hW))) hW hz
   have HF:=Lib.hid hF
   clear hF
   go_enter Tryz.func258, Tryz.ntmps258
   go_wp2_with (go_at_call 257;go_must (rw[HN.out];refine(HF.out _ bel sz).mono ?_;rintro e w1 ⟨rfl,hc1,hf1,hz1,hb1⟩))
   go_ret2
   exact⟨by rw[atS,if_neg (by omega)];rfl,by assumption⟩
end Go.Proofs.YthojpomoflhbcaaGreatDoor
namespace Go.Proofs.YthojpomoflhbcaaGreatDoor
open Go.RowKit
def sumTo (l:List (ByteArray × Int)) (s:ByteArray):Nat→Int
 | 0=>0
 | k+1=>addW (sumTo l s k) ((atS l s k).getD 0)
def sumS (l:List (ByteArray × Int)) (s:ByteArray):Int:=sumTo l s 8
set_option maxHeartbeats 1000000 in
theorem sum_any (l:List (ByteArray × Int)) (a:Option Addr) (cap:Nat) (s:ByteArray) (w:World) (hs:s.size≤1073741824) (hE:SigsIn w l a cap) :
  Calls Tryz.prog 259 #[.agg #[.slice a l.length cap],.string s] w fun e w'=>e=.returned (.int .i64 (sumS l s))∧Below w.heap.size w w':=by
 have HE:=Lib.hid hE
 clear hE
 go_enter Tryz.func259, Tryz.ntmps259
 go_wp2_with fail
 go_loopw [5,9] (fun n i wr=>∃ k:Nat,i=.int .i64 k∧k≤8∧n=.int .i64 (sumTo l s k)∧Below w.heap.size w wr∧w.heap.size < wr.heap.size∧wr.cell? ⟨w.heap.size,0,none⟩=some (.slice a l.length cap)) (fun _ i _=>8 - (intOf i).toNat)
 case atStart=>exact⟨0,rfl,by omega,rfl,bel,sz,by simp⟩
 case round =>
  obtain⟨k,rfl,hk,rfl,hBr,hz,hc⟩:=hrel
  have HBr:=Lib.hid hBr
  clear hBr
  by_cases hlt:k < 8
  ·have hA:=fr (W0:=w) (B:=w.heap.size) (at_any l a cap s k wr hs (HE.out.keep (keeps_of_below HBr.out))) HBr.out (by omega)
   have HA:=Lib.hid hA
   have HSt:Hid (sumTo l s (k+1)=addW (sumTo l s k) ((atS l s k).getD 0)):=rfl
   clear hA
   go_wp2_with (first | (go_at_call 258;refine HA.out.mono ?_;rintro e w1 ⟨rfl,hc1,hf1,hz1,hb1⟩) | (go_at_call 278;refine(WAdd_any _ _ _).mono ?_;rintro e w' ⟨rfl,rfl⟩))
   go_roundw
   case rel=>exact⟨k+1,by go_num,by omega,by rw[HSt.out],by assumption,by omega,by simp[*]⟩
   case measure=>simp[intOf];omega
  ·obtain rfl:k=8:=by omega
   go_wp2_with fail
   go_ret
   exact⟨rfl,HBr.out⟩
def AllTo (p:ByteArray→Bool) (l:List ByteArray) (k:Nat):Prop:=∀ j (hj:j < l.length),j < k→p (l[j]'hj)=true
theorem all_step {p:ByteArray→Bool} {l:List ByteArray} {k:Nat} (h:AllTo p l k) (hk:k < l.length) (hp:p (l[k]'hk)=true):AllTo p l (k+1):=by
 intro j hj hjk
 by_cases e:j=k
 ·subst e;exact hp
 ·exact h j hj (by omega)
theorem all_true {p:ByteArray→Bool} {l:List ByteArray} (h:AllTo p l l.length):l.all p=true:=by
 rw[List.all_eq_true]
 intro x hx
 obtain⟨i,hi,rfl⟩:=List.mem_iff_getElem.1 hx
 exact h i hi hi
theorem all_false {p:ByteArray→Bool} {l:List ByteArray} {k:Nat} (_h:AllTo p l k) (hk:k < l.length) (hp:p (l[k]'hk)=false):l.all p=false:=by
 rw[List.all_eq_false]
 exact⟨_,List.getElem_mem hk,by simp[hp]⟩
noncomputable def knownS (l:List (ByteArray × Int)) (e:Ex):Bool:=(namesS [2] e).all (fun s=>(findS l s).isSome) && (namesS [3,24] e).all (fun s=>(atS l s 0).isSome)
theorem names_mem (ops:List Int) (l:List Ex):∀ (st:List ByteArray) (s:ByteArray),s∈l.foldl (addName ops) st→s∈st∨∃ e∈l,e.name=s:=by
 induction l with
 | nil=>intro st s h;exact Or.inl h
 | cons e l ih =>
  intro st s h
  rcases ih _ _ h with h | ⟨e',he',rfl⟩
  ·unfold addName at h
   split at h
   ·rcases List.mem_append.1 h with h | h
    ·exact Or.inl h
    ·exact Or.inr ⟨e,List.mem_cons_self,(List.mem_singleton.1 h).symm⟩
   ·exact Or.inl h
  ·exact Or.inr ⟨e',List.mem_cons_of_mem _ he',rfl⟩
theorem node_name_size (w:World) (e:Ex):∀ (a:Option Addr) (cap:Nat),ExIn w e a cap→∀ x∈e.nodes,x.name.size≤1073741824:=by
 induction e using Ex.ind with
 | h e ih =>
  intro a cap hE x hx
  rw[Ex.nodes_eq] at hx
  rcases List.mem_cons.1 hx with rfl | hx
  ·exact hE.1
  ·obtain⟨l,hl,hxl⟩:=List.mem_flatten.1 hx
   obtain⟨e',he',rfl⟩:=List.mem_map.1 hl
   obtain⟨i,hi,rfl⟩:=List.mem_iff_getElem.1 he'
   obtain⟨b,off,ha⟩:=hE.2.addr.resolve_left (by omega)
   obtain⟨a',cap',_,_,_,_,hX⟩:=hE.2.get ha hi
   exact ih _ he' a' cap' hX x hxl
theorem names_size {w:World} {e:Ex} {a:Option Addr} {cap:Nat} (hE:ExIn w e a cap) (ops:List Int):∀ s∈namesS ops e,s.size≤1073741824:=by
 intro s hs
 rcases names_mem ops _ _ _ hs with h | ⟨x,hx,rfl⟩
 ·simp at h
 ·exact node_name_size w e a cap hE x hx
set_option maxHeartbeats 2000000 in
theorem known_any (l:List (ByteArray × Int)) (a:Option Addr) (cap:Nat) (op n:Int) (s:ByteArray) (args:List Ex) (ae:Option Addr) (ce:Nat) (w:World) (hS:SigsIn w l a cap) (hE:ExIn w (.mk op n s args) ae ce) (hn:(Ex.mk op n s args).nodes.length≤1073741824) :
  Calls Tryz.prog 220 #[.agg #[.slice a l.length cap],.agg #[.int .i64 op,.int .i64 n,.string s,.slice ae args.length ce]] w fun e w'=>e=.returned (.bool (knownS l (.mk op n s args)))∧Below w.heap.size w w':=by
 have HS:=Lib.hid hS
 have HE:=Lib.hid hE
 have hN:=fun W (hW:Below w.heap.size w W) (hz:w.heap.size≤W.heap.size)=>fr (W0:=w) (B:=w.heap.size) (Q:=fun _=>True) ((Names_any op n s args ae ce W (hE.keep (keeps_of_below hW)) hn).mono fun e w' h=>(⟨trivial,h.2⟩:True∧_)) hW hz
 have HNs:=Lib.hid (names_size hE [2])
 have HAs:=Lib.hid (names_size hE [3,24])
 have Hn:=Lib.hid hn
 have HK:Hid (knownS l (.mk op n s args)=((namesS [2] (.mk op n s args)).all (fun s=>(findS l s).isSome) && (namesS [3,24] (.mk op n s args)).all (fun s=>(atS l s 0).isSome))):=rfl
 clear hS hE hn hN
 go_enter Tryz.func220, Tryz.ntmps220
 go_wp2_with fail
 refine(Names_any op n s args ae ce _ (HE.out.keep (keeps_of_below bel)) Hn.out).mono ?_
 rintro e w1 ⟨⟨a1,k1,rfl,hs1⟩,hb1⟩
 have hbw:Below w.heap.size w w1:=Below.trans (b:=(w.alloc _).alloc _) bel (hb1.mono sz)
 have hz1:=hb1.size
 simp only[World.size_alloc] at hz1
 have hc0:w1.cell? ⟨w.heap.size,0,none⟩=some (.slice a l.length cap):=(hb1.cell (by simp;omega)).trans (by simp)
 have hbx:w1.heap[w.heap.size+1]? = some (.cells #[.int .i64 op,.int .i64 n,.string s,.slice ae args.length ce] 24):=(hb1.block _ (by simp)).trans (heap_alloc_at _ _ _ (by simp))
 generalize namesS [2] (.mk op n s args)=N at hs1 HNs HK
 have hNl:=hs1.2.1
 have hNa:=hs1.addr
 have HS1:=Lib.hid hs1
 have HNa:=Lib.hid hNa
 have HBW:=Lib.hid hbw
 have HBX:=Lib.hid hbx
 have HC0:=Lib.hid hc0
 clear hs1 hbw hb1 hbx hNa hc0
 go_wp2_with fail
 go_loopw [16] (fun i wr=>∃ k:Nat,i=.int .i64 k∧k≤N.length∧AllTo (fun s=>(findS l s).isSome) N k∧Below w1.heap.size w1 wr) (fun i _=>N.length - (intOf i).toNat)
 case atStart=>exact⟨0,rfl,Nat.zero_le _,fun _ _ h=>absurd h (by omega),Below.refl _ _⟩
 case round =>
  obtain⟨k,rfl,hk,hall,hBr⟩:=hrel
  have hzr:=hBr.size
  have hc0:wr.cell? ⟨w.heap.size,0,none⟩=some (.slice a l.length cap):=(hBr.cell (by simp;omega)).trans HC0.out
  by_cases hlt:k < N.length
  ·obtain⟨b1,o1,ha1⟩:=HNa.out.resolve_left (by omega)
   subst ha1
   have hcs:=(HS1.out.keep (keeps_of_below hBr)).get rfl hlt
   have hbr':Below w.heap.size w wr:=HBW.out.trans (hBr.mono HBW.out.size)
   have hF:=fr (W0:=w1) (B:=w1.heap.size) (find_any l a cap (N[k]'hlt) wr (HS.out.keep (keeps_of_below hbr'))) hBr hzr
   have HF:=Lib.hid hF
   have HA:=Lib.hid hall
   clear hF hBr hall hbr'
   cases hf:(findS l (N[k]'hlt)).isSome
   ·have hno:=all_false HA.out hlt hf
    have HNo:=Lib.hid hno
    clear hno
    go_wp2_with (go_at_call 257;refine HF.out.mono ?_;rintro e w2 ⟨rfl,hc2,hf2,hz2,hb2⟩;have HB2:=Lib.hid hb2;clear hb2)
    go_ret
    exact⟨by rw[HK.out,HNo.out];rfl,HBW.out.trans ((by assumption:Hid (Below w1.heap.size w1 _)).out.mono HBW.out.size)⟩
   ·have hyes:=all_step HA.out hlt hf
    have HYes:=Lib.hid hyes
    clear hyes
    go_wp2_with (go_at_call 257;refine HF.out.mono ?_;rintro e w2 ⟨rfl,hc2,hf2,hz2,hb2⟩;have HB2:=Lib.hid hb2;clear hb2)
    go_roundw
    case rel=>exact⟨k+1,by go_num,by omega,HYes.out,(by assumption:Hid (Below w1.heap.size w1 _)).out⟩
    case measure=>simp[intOf];omega
  ·obtain rfl:k=N.length:=by omega
   have hall':=all_true hall
   have HK2:Hid (knownS l (.mk op n s args)=(namesS [3,24] (.mk op n s args)).all (fun s=>(atS l s 0).isSome)):=by
    show _=_;rw[HK.out,hall'];rfl
   have hbr':Below w.heap.size w wr:=HBW.out.trans (hBr.mono HBW.out.size)
   have hbx:=(hBr.block _ (by omega)).trans HBX.out
   have b0:wr.cell? ⟨w.heap.size+1,0,none⟩=some (.int .i64 op):=by simp[World.cell?,hbx]
   have b1:wr.cell? ⟨w.heap.size+1,1,none⟩=some (.int .i64 n):=by simp[World.cell?,hbx]
   have b2:wr.cell? ⟨w.heap.size+1,2,none⟩=some (.string s):=by simp[World.cell?,hbx]
   have b3:wr.cell? ⟨w.heap.size+1,3,none⟩=some (.slice ae args.length ce):=by simp[World.cell?,hbx]
   have HBr:=Lib.hid hbr'
   clear hall hall' hBr hbx hbr'
   go_wp2_with fail
   refine(Arrays_any op n s args ae ce _ (HE.out.keep (keeps_of_below HBr.out)) Hn.out).mono ?_
   rintro e w3 ⟨⟨a3,k3,rfl,hs3⟩,hb3⟩
   have hbw3:Below w.heap.size w w3:=HBr.out.trans (hb3.mono HBr.out.size)
   have hz3:=hb3.size
   have hc3:w3.cell? ⟨w.heap.size,0,none⟩=some (.slice a l.length cap):=(hb3.cell (by simp;omega)).trans hc0
   generalize namesS [3,24] (.mk op n s args)=M at hs3 HAs HK2
   have hMl:=hs3.2.1
   have HMa:=Lib.hid hs3.addr
   have HS3:=Lib.hid hs3
   have HBW3:=Lib.hid hbw3
   have HC3:=Lib.hid hc3
   have hzw:w.heap.size < w3.heap.size:=by omega
   clear hs3 hbw3 hb3 hc3 b0 b1 b2 b3 hc0
   go_wp2_with fail
   go_loopw [32] (fun i wq=>∃ k:Nat,i=.int .i64 k∧k≤M.length∧AllTo (fun s=>(atS l s 0).isSome) M k∧Below w3.heap.size w3 wq) (fun i _=>M.length - (intOf i).toNat)
   case atStart=>exact⟨0,rfl,Nat.zero_le _,fun _ _ h=>absurd h (by omega),Below.refl _ _⟩
   case round =>
    obtain⟨k,rfl,hk,hall,hBq⟩:=hrel
    have hzq:=hBq.size
    have hc0:wr.cell? ⟨w.heap.size,0,none⟩=some (.slice a l.length cap):=(hBq.cell (by simp;omega)).trans HC3.out
    by_cases hlt:k < M.length
    ·obtain⟨b1,o1,ha1⟩:=HMa.out.resolve_left (by omega)
     subst ha1
     have hcs:=(HS3.out.keep (keeps_of_below hBq)).get rfl hlt
     have hbr':Below w.heap.size w wr:=HBW3.out.trans (hBq.mono HBW3.out.size)
     have hF:=fr (W0:=w3) (B:=w3.heap.size) (at_any l a cap (M[k]'hlt) 0 wr (HAs.out _ (List.getElem_mem hlt)) (HS.out.keep (keeps_of_below hbr'))) hBq hzq
     have HF:=Lib.hid hF
     have HA:=Lib.hid hall
     clear hF hBq hall hbr'
     cases hf:(atS l (M[k]'hlt) 0).isSome
     ·have hno:=all_false HA.out hlt hf
      have HNo:=Lib.hid hno
      clear hno
      go_wp2_with (go_at_call 258;refine HF.out.mono ?_;rintro e w4 ⟨rfl,hc2,hf2,hz2,hb2⟩;have HB2:=Lib.hid hb2;clear hb2)
      go_ret
      exact⟨by rw[HK2.out,HNo.out];rfl,HBW3.out.trans ((by assumption:Hid (Below w3.heap.size w3 _)).out.mono HBW3.out.size)⟩
     ·have hyes:=all_step HA.out hlt hf
      have HYes:=Lib.hid hyes
      clear hyes
      go_wp2_with (go_at_call 258;refine HF.out.mono ?_;rintro e w4 ⟨rfl,hc2,hf2,hz2,hb2⟩;have HB2:=Lib.hid hb2;clear hb2)
      go_roundw
      case rel=>exact⟨k+1,by go_num,by omega,HYes.out,(by assumption:Hid (Below w3.heap.size w3 _)).out⟩
      case measure=>simp[intOf];omega
    ·obtain rfl:k=M.length:=by omega
     have hall':=all_true hall
     have HA:=Lib.hid hall'
     have HBq:=Lib.hid hBq
     clear hall hall' hBq
     go_wp2_with fail
     go_ret
     exact⟨by rw[HK2.out,HA.out];rfl,HBW3.out.trans (HBq.out.mono HBW3.out.size)⟩
def insideL (x:Int):List Int→Int
 | a::b::r=>if a≤x∧x≤b then 1 else insideL x r
 | _=>0
def operateS (op:Int) (l:List Int):Int :=
 if op=22 then (if l.getD 0 0≠0 then l.getD 1 0 else l.getD 2 0)
 else if op=23 then insideL (l.getD 0 0) (l.drop 1)
 else if l.length=1 then singleS op (l.getD 0 0) else doubleS op (l.getD 0 0) (l.getD 1 0)
def IntsIn (w:World) (l:List Int) (a:Option Addr) (cap:Nat):Prop:=SliceIn 1 l.length a cap (fun i b o=>∃ n,l[i]? = some n∧w.cell? ⟨b,o,none⟩=some (.int .i64 n))
theorem IntsIn.keep {w w':World} (hk:∀ a v,w.cell? a=some v→w'.cell? a=some v) {l:List Int} {a:Option Addr} {cap:Nat} (h:IntsIn w l a cap):IntsIn w' l a cap :=
 h.mono fun _ _ _ _ ⟨s,hs,hp⟩=>⟨s,hs,hk _ _ hp⟩
theorem IntsIn.get {w:World} {l:List Int} {a:Option Addr} {cap:Nat} (h:IntsIn w l a cap) {b off:Nat} (ha:a=some ⟨b,off,none⟩) {i:Nat} (hi:i < l.length):w.cell? ⟨b,off+i,none⟩=some (.int .i64 (l.getD i 0)):=by
 rcases h.2.2 with h | ⟨b',off',ha',hq⟩
 ·omega
 ·rw[ha] at ha'
  simp only[Option.some.injEq,Addr.mk.injEq,and_true] at ha'
  obtain⟨rfl,rfl⟩:=ha'
  obtain⟨e',he',hp⟩:=hq i hi
  rw[List.getD_eq_getElem?_getD,he']
  rw[Nat.mul_one] at hp
  exact hp
theorem ints_of_own {w:World} {base:Nat} {e:TypeId} {v:Value} {l:List Int} (h:w.ownsRow base e 1 v l.length (l.map (Value.int .i64))) (hn:l.length≤1073741824):∃ a cap,v=.slice a l.length cap∧IntsIn w l a cap:=by
 obtain⟨a,cap,hv,hs⟩:=slice_of_own h hn
 refine⟨a,cap,hv,hs.mono fun i b o hi hq=>?_⟩
 have:=hq 0 (by omega)
 exact⟨l[i],List.getElem?_eq_getElem hi,by simpa [hi] using this⟩
set_option maxHeartbeats 2000000 in
theorem operate_any (op:Int) (l:List Int) (a:Option Addr) (cap:Nat) (w:World) (hE:IntsIn w l a cap) (h1:1≤l.length) (h22:op=22→3≤l.length) (hr:∀ i,0≤l.getD i 0∧l.getD i 0 < 65536) :
  Calls Tryz.prog 260 #[.int .i64 op,.slice a l.length cap] w fun e w'=>e=.returned (.int .i64 (operateS op l))∧Below w.heap.size w w':=by
 have hlen:=hE.2.1
 obtain⟨b,off,ha⟩:=hE.addr.resolve_left (by omega)
 subst ha
 have g0:=hE.get rfl (show 0 < l.length by omega)
 rw[Nat.add_zero] at g0
 by_cases e22:op=22
 ·have h3:=h22 e22
  have g1:=hE.get rfl (show 1 < l.length by omega)
  have g2:=hE.get rfl (show 2 < l.length by omega)
  have HO:Hid (operateS op l=if l.getD 0 0≠0 then l.getD 1 0 else l.getD 2 0):=if_pos e22
  clear hE hr h22
  generalize l.getD 0 0=x0 at g0 HO
  generalize l.getD 1 0=x1 at g1 HO
  generalize l.getD 2 0=x2 at g2 HO
  by_cases z:x0=0
  all_goals
   go_enter Tryz.func260, Tryz.ntmps260
   go_wp2_with fail
   go_ret
   exact⟨by rw[HO.out];first | (rw[if_neg (by simpa using z)];rfl) | (rw[if_pos (by simpa using z)];rfl),Below.refl _ _⟩
 ·by_cases e23:op=23
  ·have HO:Hid (operateS op l=insideL (l.getD 0 0) (l.drop 1)):=by
    show _=_
    unfold operateS;rw[if_neg e22,if_pos e23]
   have HE:=Lib.hid hE
   clear hE hr h22
   generalize hx0:l.getD 0 0=x0 at g0 HO
   clear hx0 e22
   subst e23
   go_enter Tryz.func260, Tryz.ntmps260
   go_wp2_with fail
   go_loopw [5] (fun i wr=>∃ k:Nat,i=.int .i64 ((2 * k+1:Nat):Int)∧2 * k+1≤l.length∧insideL x0 (l.drop 1)=insideL x0 (l.drop (2 * k+1))∧Below w.heap.size w wr) (fun i _=>l.length - (intOf i).toNat)
   case atStart=>exact⟨0,rfl,h1,rfl,Below.refl _ _⟩
   case round =>
    obtain⟨k,rfl,hk,hI,hBr⟩:=hrel
    have HI:=Lib.hid hI
    have HBr:=Lib.hid hBr
    have g0':=(hBr.cell (p:=⟨b,off,none⟩) (World.block_lt_of_cell? _ _ g0)).trans g0
    clear hI hBr
    by_cases hlt:2 * k+2 < l.length
    ·have kk:=keeps_of_below HBr.out
     have hE':=HE.out.keep kk
     have gA:=hE'.get rfl (show 2 * k+1 < l.length by omega)
     have gB:=hE'.get rfl (show 2 * k+1+1 < l.length by omega)
     have hdrop:l.drop (2 * k+1)=l.getD (2 * k+1) 0::l.getD (2 * k+1+1) 0::l.drop (2 * (k+1)+1):=by
      rw[List.drop_eq_getElem_cons (by omega),List.drop_eq_getElem_cons (i:=2 * k+1+1) (by omega)]
      rw[List.getD_eq_getElem?_getD,List.getD_eq_getElem?_getD,List.getElem?_eq_getElem (by omega),List.getElem?_eq_getElem (by omega)]
      rfl
     have HD:=Lib.hid hdrop
     clear hE' kk hdrop
     generalize l.getD (2 * k+1) 0=xa at gA HD
     generalize l.getD (2 * k+1+1) 0=xb at gB HD
     by_cases ca:xa≤x0
     ·by_cases cb:x0≤xb
      ·have hfin:insideL x0 (l.drop 1)=1:=by rw[HI.out,HD.out];unfold insideL;rw[if_pos ⟨ca,cb⟩]
       have HF:=Lib.hid hfin
       clear hfin
       go_wp2_with fail
       go_quiet (fail)
       go_wp2_with fail
       go_ret
       exact⟨by rw[HO.out,HF.out];rfl,below_drewN HBr.out _⟩
      ·have hst:insideL x0 (l.drop 1)=insideL x0 (l.drop (2 * (k+1)+1)):=by rw[HI.out,HD.out,insideL,if_neg (fun h=>cb h.2)]
       have HF:=Lib.hid hst
       clear hst
       go_wp2_with fail
       go_quiet (fail)
       go_wp2_with fail
       go_roundw
       case rel=>exact⟨k+1,by go_num,by omega,HF.out,below_drewN HBr.out _⟩
       case measure=>simp[intOf];omega
     ·have hst:insideL x0 (l.drop 1)=insideL x0 (l.drop (2 * (k+1)+1)):=by rw[HI.out,HD.out,insideL,if_neg (fun h=>ca h.1)]
      have HF:=Lib.hid hst
      have hd:decide (xa≤x0)=false:=by simpa using ca
      clear hst
      go_wp2_with fail
      go_quiet (fail)
      go_wp2_with fail
      go_roundw
      case rel=>exact⟨k+1,by go_num,by omega,HF.out,below_drewN HBr.out _⟩
      case measure=>simp[intOf];omega
    ·have hend:insideL x0 (l.drop (2 * k+1))=0:=by
      match hm:l.drop (2 * k+1) with
      | []=>rfl
      | [_]=>rfl
      | _::_::_ =>
       have:=congrArg List.length hm
       simp at this;omega
     have HD:=Lib.hid hend
     clear hend
     go_wp2_with fail
     go_ret
     exact⟨by rw[HO.out,HI.out,HD.out];rfl,HBr.out⟩
  ·by_cases h1':l.length=1
   ·have HO:Hid (operateS op l=singleS op (l.getD 0 0)):=by
     show _=_
     unfold operateS;rw[if_neg e22,if_neg e23,if_pos h1']
    clear hE hr h22
    generalize l.getD 0 0=x0 at g0 HO
    go_enter Tryz.func260, Tryz.ntmps260
    go_wp2_with (go_at_call 279;go_must (refine(fr (W0:=w) (B:=w.heap.size) (single_any _ _ _) bel sz).mono ?_;rintro e w1 ⟨rfl,hc1,hf1,hz1,hb1⟩;try simp only[World.size_alloc,World.size_setCell,World.size_drew,World.heap_drewN] at hz1;try (have hzl0:w.heap.size < w1.heap.size:=by omega);try (have hzl1:w.heap.size+1 < w1.heap.size:=by omega);try (have hzl2:w.heap.size+2 < w1.heap.size:=by omega);try (have hzl3:w.heap.size+3 < w1.heap.size:=by omega);try (have hzl4:w.heap.size+4 < w1.heap.size:=by omega);try (have hzl5:w.heap.size+5 < w1.heap.size:=by omega)))
    go_ret
    exact⟨by rw[HO.out];rfl,by assumption⟩
   ·have HO:Hid (operateS op l=doubleS op (l.getD 0 0) (l.getD 1 0)):=by
     show _=_
     unfold operateS;rw[if_neg e22,if_neg e23,if_neg h1']
    have g1:=hE.get rfl (show 1 < l.length by omega)
    obtain⟨r0,r0'⟩:=hr 0
    obtain⟨r1,r1'⟩:=hr 1
    clear hE hr h22
    generalize l.getD 0 0=x0 at g0 HO r0 r0'
    generalize l.getD 1 0=x1 at g1 HO r1 r1'
    go_enter Tryz.func260, Tryz.ntmps260
    go_wp2_with fail
    go_quiet ((go_at_call 280;exact Calls.quiet_of_same ((double_any op x0 x1 r0 r0' r1 r1' _).mono fun e w' h=>⟨h.1,h.2.symm⟩)))
    go_wp2_with fail
    go_ret
    exact⟨by rw[HO.out];rfl,below_drewN (Below.refl _ _) _⟩
end Go.Proofs.YthojpomoflhbcaaGreatDoor
namespace Go.Proofs.YthojpomoflhbcaaGreatDoor
open Go.RowKit
def OkE (e:Ex):Prop:=∀ x∈e.nodes,nodeS x=0
theorem firstE_zero (l:List Ex):firstE l=0→∀ x∈l,nodeS x=0:=by
 induction l with
 | nil=>intro _ x hx;cases hx
 | cons e l ih =>
  intro h x hx
  unfold firstE at h
  by_cases he:nodeS e=0
  ·rw[if_pos he] at h
   rcases List.mem_cons.1 hx with rfl | hx
   ·exact he
   ·exact ih h x hx
  ·rw[if_neg he] at h;exact absurd h he
theorem valid_ok {e:Ex} (h:validS e=0):OkE e:=by
 unfold validS at h
 split at h
 ·simp at h
 ·exact firstE_zero _ h
theorem OkE.self {e:Ex} (h:OkE e):nodeS e=0:=h e (by rw[Ex.nodes_eq];exact List.mem_cons_self)
theorem OkE.arg {e:Ex} (h:OkE e) {a:Ex} (ha:a∈e.args):OkE a:=fun x hx=>h x (by
 rw[Ex.nodes_eq]
 exact List.mem_cons_of_mem _ (List.mem_flatten.2 ⟨_,List.mem_map.2 ⟨a,ha,rfl⟩,hx⟩))
theorem node_ok {e:Ex} (h:nodeS e=0):1≤e.op∧e.op≤25∧(e.op=1→0≤e.n∧e.n≤65535)∧operandsB e.op e.args.length=true:=by
 unfold nodeS at h
 split at h
 ·simp at h
 ·rename_i h1
  split at h
  ·simp at h
  ·rename_i h2
   split at h
   ·simp at h
   ·rename_i h3
    refine⟨by omega,by omega,fun e1=>?_,?_⟩
    ·omega
    ·cases hb:operandsB e.op e.args.length
     ·exact absurd (Or.inr hb) h3
     ·rfl
theorem operands_ok {op:Int} {n:Nat} (h:operandsB op n=true) (h1:1≤op) (h2:op≤25):(op=3→n=1)∧(op=22→n=3)∧(op≠1→op≠2→op≠24→1≤n):=by
 unfold operandsB arityS at h
 split at h
 ·rename_i e
  have:=of_decide_eq_true h
  exact⟨by omega,by omega,by omega⟩
 ·have:=of_decide_eq_true h
  refine⟨fun e=>?_,fun e=>?_,fun a b c=>?_⟩<;>(split at this<;>first | omega | (split at this<;>first | omega | (split at this<;>first | omega | (split at this<;>first | omega | (split at this<;>omega)))))
noncomputable def valueS (env:List (ByteArray × Int)) (e:Ex):Int :=
 e.para fun e vs=>if e.op=1 then e.n else if e.op=2 then (findS env e.name).getD 0 else if e.op=3 then (atS env e.name (vs.getD 0 0)).getD 0 else if e.op=24 then sumS env e.name else operateS e.op vs
theorem valueS_eq (env:List (ByteArray × Int)) (e:Ex):valueS env e=if e.op=1 then e.n else if e.op=2 then (findS env e.name).getD 0 else if e.op=3 then (atS env e.name ((e.args.map (valueS env)).getD 0 0)).getD 0 else if e.op=24 then sumS env e.name else operateS e.op (e.args.map (valueS env)):=by
 unfold valueS;rw[Ex.para_eq]
def Rng (v:Int):Prop:=0≤v∧v < 65536
theorem rng0:Rng 0:=⟨Int.le_refl 0,by decide⟩
theorem ite_rng {c:Prop} [Decidable c] {a b:Int} (ha:Rng a) (hb:Rng b):Rng (if c then a else b):=by split<;>assumption
theorem rng_wrap (n:Int):Rng (n % 65536):=⟨by omega,by omega⟩
theorem rng_truth (b:Bool):Rng (truthS b):=by cases b<;>exact⟨by decide,by decide⟩
theorem rng_find (env:List (ByteArray × Int)) (s:ByteArray):Rng ((findS env s).getD 0):=by
 induction env with
 | nil=>exact rng0
 | cons x l ih =>
  unfold findS
  split
  ·exact rng_wrap _
  ·exact ih
theorem rng_at (env:List (ByteArray × Int)) (s:ByteArray) (i:Int):Rng ((atS env s i).getD 0):=by
 unfold atS
 split
 ·exact⟨by decide,by decide⟩
 ·exact rng_find _ _
theorem rng_single (op a:Int):Rng (singleS op a):=by
 unfold singleS
 split
 ·exact rng_truth _
 split
 ·unfold invW;exact⟨by omega,by omega⟩
 split
 ·exact rng_wrap _
 ·unfold onesW onesN bitN;exact⟨by omega,by omega⟩
theorem rng_double (op a b:Int) (ha:Rng a) (hb:Rng b):Rng (doubleS op a b):=by
 obtain⟨A,rfl⟩:=Int.eq_ofNat_of_zero_le ha.1
 obtain⟨B,rfl⟩:=Int.eq_ofNat_of_zero_le hb.1
 have hA:A < 2 ^ 16:=by have:=ha.2;omega
 have hB:B < 2 ^ 16:=by have:=hb.2;omega
 unfold doubleS
 refine ite_rng (rng_wrap _) (ite_rng (rng_wrap _) (ite_rng (rng_wrap _) (ite_rng ?_ (ite_rng ?_ (ite_rng ?_ (ite_rng ?_ (ite_rng ?_ ?_)))))))
 ·unfold andW;simp only[Int.toNat_natCast];have:A &&& B≤A:=Nat.and_le_left;exact⟨by omega,by omega⟩
 ·unfold orW;simp only[Int.toNat_natCast];have:=Nat.or_lt_two_pow hA hB;exact⟨by omega,by omega⟩
 ·unfold xorW;simp only[Int.toNat_natCast];have:=Nat.xor_lt_two_pow hA hB;exact⟨by omega,by omega⟩
 ·unfold shlW;exact ite_rng rng0 (rng_wrap _)
 ·unfold shrW
  refine ite_rng rng0 ⟨Int.ediv_nonneg (by omega) (Int.le_of_lt (Int.pow_pos (by decide))),Int.lt_of_le_of_lt (Int.ediv_le_self _ (by omega)) (by omega)⟩
 repeat (first | exact rng_truth _ | refine ite_rng (rng_truth _) ?_)
theorem rng_inside (x:Int) (l:List Int):Rng (insideL x l):=by
 match l with
 | []=>exact rng0
 | [_]=>exact rng0
 | a::b::r =>
  unfold insideL
  split
  ·exact⟨by decide,by decide⟩
  ·exact rng_inside x r
theorem rng_getD {l:List Int} (h:∀ v∈l,Rng v) (i:Nat):Rng (l.getD i 0):=by
 rw[List.getD_eq_getElem?_getD]
 rcases Nat.lt_or_ge i l.length with hi | hi
 ·rw[List.getElem?_eq_getElem hi];exact h _ (List.getElem_mem hi)
 ·rw[List.getElem?_eq_none hi];exact⟨by decide,by decide⟩
theorem rng_operate (op:Int) (l:List Int) (h:∀ v∈l,Rng v):Rng (operateS op l):=by
 unfold operateS
 split
 ·split
  ·exact rng_getD h _
  ·exact rng_getD h _
 split
 ·exact rng_inside _ _
 split
 ·exact rng_single _ _
 ·exact rng_double _ _ _ (rng_getD h _) (rng_getD h _)
theorem rng_value (env:List (ByteArray × Int)) (e:Ex):OkE e→Rng (valueS env e):=by
 induction e using Ex.ind with
 | h e ih =>
  intro hok
  rw[valueS_eq]
  split
  ·rename_i h1
   have:=(node_ok hok.self).2.2.1 h1
   exact⟨by omega,by omega⟩
  split
  ·exact rng_find _ _
  split
  ·exact rng_at _ _ _
  split
  ·show Rng (addW _ _);exact rng_wrap _
  ·refine rng_operate _ _ fun v hv=>?_
   obtain⟨a,ha,rfl⟩:=List.mem_map.1 hv
   exact ih a ha (hok.arg ha)
noncomputable def valsTo (env:List (ByteArray × Int)) (l:List Ex) (k:Nat):List Int:=(l.take k).map (valueS env)
theorem valsTo_succ (env:List (ByteArray × Int)) (l:List Ex) (k:Nat) (h:k < l.length):valsTo env l (k+1)=valsTo env l k++[valueS env (l[k]'h)]:=by
 unfold valsTo
 rw[List.take_succ_eq_append_getElem h,List.map_append]
 rfl
theorem valsTo_len (env:List (ByteArray × Int)) (l:List Ex) (k:Nat) (h:k≤l.length):(valsTo env l k).length=k:=by
 unfold valsTo;simp;omega
theorem elemI:Elem Tryz.prog 31 3 1:=Elem.of Tryz.underlying31 (by kernel_rfl) (z:=.int .i64 0) (bytes:=8) rfl (by decide) (by decide)
def ValRel (env:List (ByteArray × Int)) (w:World) (v1 v2:Array Value) (args:List Ex) (k:Nat) (v:Value) (wr:World):Prop :=
 wr.ownsRow w.heap.size 3 1 v k ((valsTo env args k).map (Value.int .i64))∧Below w.heap.size w wr∧wr.heap[w.heap.size]? = some (.cells v1 240 (0,0))∧wr.heap[w.heap.size+1]? = some (.cells v2 24 (0,0))
set_option maxRecDepth 100000 in
set_option maxHeartbeats 4000000 in
theorem value_any (env:List (ByteArray × Int)) (a:Option Addr) (cap:Nat) (e:Ex):∀ (ae:Option Addr) (ce:Nat) (w:World),OkE e→e.nodes.length≤1073741824→SigsIn w env a cap→ExIn w e ae ce →
  Calls Tryz.prog 221 #[.agg #[.slice a env.length cap],exVal e ae ce] w fun r w'=>r=.returned (.int .i64 (valueS env e))∧Below w.heap.size w w':=by
 induction e using Ex.ind with
 | h e ih =>
  intro ae ce w hok hn hS hE
  obtain⟨op,n,s,args⟩:=e
  have hlen:=hE.2.2.1
  have hadr:=hE.2.addr
  have hnl:(Ex.mk op n s args).nodes.length=(nodesTo args args.length).length+1:=by rw[nodes_cons];simp[Ex.args_mk]
  have hsz:=hE.1
  simp only[Ex.args_mk,Ex.name_mk] at hlen hadr hsz
  have HN:=Lib.hid (⟨hn,hnl⟩:_∧_)
  have HS:=Lib.hid hS
  have HE:=Lib.hid hE
  have HOK:=Lib.hid hok
  have HIH:=Lib.hid ih
  have HA:=Lib.hid hadr
  clear hn hS hE ih hadr hnl hok
  simp only[exVal,Ex.op_mk,Ex.n_mk,Ex.name_mk,Ex.args_mk]
  go_enter Tryz.func221, Tryz.ntmps221
  go_wp2_with fail
  go_loopw [5,15] (fun v i wr=>∃ k:Nat,i=.int .i64 k∧k≤args.length∧ValRel env w #[.slice a env.length cap] #[.int .i64 op,.int .i64 n,.string s,.slice ae args.length ce] args k v wr) (fun _ i _=>args.length - (intOf i).toNat)
  case atStart=>exact⟨0,rfl,Nat.zero_le _,World.ownsRow_nil _ _ _ _,bel,by rw[Below.heap_alloc _ _ _ (by simp)];exact heap_alloc_new' _ _,heap_alloc_at _ _ _ (by simp)⟩
  case round =>
   obtain⟨k,rfl,hk,hown,hBr,hb0,hb1⟩:=hrel
   have hlt0:=lt_of_block hb0
   have hlt1:=lt_of_block hb1
   by_cases hlt:k < args.length
   ·obtain⟨b,off,ha⟩:=HA.out.resolve_left (by omega)
    subst ha
    obtain⟨a',cap',g0,g1,g2,g3,hX⟩:=HE.out.2.get rfl hlt
    have kk:=keeps_of_below hBr
    have c0:=kk _ _ g0
    have c1:=kk _ _ g1
    have c2:=kk _ _ g2
    have c3:=kk _ _ g3
    simp only[Ex.args_mk] at c0 c1 c2 c3
    have cs:∀ o,(wr.alloc o).cell? ⟨w.heap.size,0,none⟩=_:=fun o=>(World.cell?_alloc_lt _ _ _ hlt0).trans (by simp[World.cell?,hb0]:wr.cell? ⟨w.heap.size,0,none⟩=some (.slice a env.length cap))
    have hrm:=nodes_room args k hlt
    have hn':=HN.out
    have hm:args[k]∈(Ex.mk op n s args).args:=List.getElem_mem hlt
    have hBA:Below wr.heap.size wr (wr.alloc (.cells #[.int .i64 (args[k]'hlt).op,.int .i64 (args[k]'hlt).n,.string (args[k]'hlt).name,.slice a' (args[k]'hlt).args.length cap'] 24)):=(Below.refl _ _).alloc (Nat.le_refl _) _
    have hBw:Below w.heap.size w (wr.alloc (.cells #[.int .i64 (args[k]'hlt).op,.int .i64 (args[k]'hlt).n,.string (args[k]'hlt).name,.slice a' (args[k]'hlt).args.length cap'] 24)):=hBr.trans (hBA.mono hBr.size)
    have hC:=HIH.out _ hm a' cap' _ (HOK.out.arg hm) (by omega) (HS.out.keep (keeps_of_below hBw)) (hX.keep (keeps_of_below hBw))
    have HC:=Lib.hid (hC.mono fun e w' h=>(⟨h.1,hBA.trans (h.2.mono hBA.size)⟩:_∧Below wr.heap.size wr w'))
    simp only[Ex.args_mk,exVal] at HC
    have Hon:=Lib.hid (valsTo_succ env args k hlt)
    have HR:=Lib.hid (⟨hown,hBr,hb0,hb1⟩:_∧_∧_∧_)
    clear g0 g1 g2 g3 kk hC hBA hBw hrm hn' hX hown hBr hb0 hb1 hm
    go_wp2_with fail
    refine HC.out.mono ?_
    rintro e w2 ⟨rfl,hb2⟩
    have HB2:=Lib.hid hb2
    have HO2:=Lib.hid (ownsRow_below HR.out.1 hb2)
    have hz2:=hb2.size
    clear hb2 c0 c1 c2 c3 cs
    go_wp2_with (at_builtin;go_must (refine own_app elemI _ rfl (.tmp 19) (.tmp 23) rfl w.heap.size _ k _ rfl HO2.out [.int .i64 (valueS env (args[k]'hlt))] rfl (by simp[Value.oneCell']) _ 1 rfl (by simp) (by omega) (by omega) ?_))
    intro v' w3 hown3 hg3
    have H3:=Lib.hid (⟨hown3,hg3⟩:_∧_)
    clear hown3 hg3
    go_wp2_with fail
    go_roundw
    case rel =>
     obtain⟨hown3,hg3⟩:=H3.out
     obtain⟨hown,hBr,hb0,hb1⟩:=HR.out
     have hold:∀ (q:Nat) (c:Array Value) (t:TypeId),wr.heap[q]? = some (.cells c t (0,0))→t≠3→w3.heap[q]? = some (.cells c t (0,0)):=by
      intro q c t hq ht
      have h1:=(HB2.out.block _ (lt_of_block hq)).trans hq
      have h2:(w2.alloc (.cells #[.int .i64 (valueS env (args[k]'hlt))] 3)).heap[q]? = some (.cells c t (0,0)):=by rw[Below.heap_alloc _ _ _ (lt_of_block h1)];exact h1
      exact(hg3.block _ (lt_of_block h2) (ownsRow_ne hown hq ht)).trans h2
     have hz:=hBr.size
     refine⟨k+1,by go_num,by omega,by rw[Hon.out,List.map_append];exact hown3,?_,hold _ _ _ hb0 (by decide),hold _ _ _ hb1 (by decide)⟩
     refine Below.grown ((hBr.trans (HB2.out.mono hz)).alloc (by omega) _) hg3 (by simp;omega) (fun q hq=>(hown.lt q hq).1)
    case measure=>simp[intOf];omega
   ·obtain rfl:k=args.length:=by omega
    have hown':wr.ownsRow w.heap.size 3 1 u5 (valsTo env args args.length).length ((valsTo env args args.length).map (Value.int .i64)):=by
     rw[valsTo_len _ _ _ (Nat.le_refl _)];exact hown
    have hV:Hid (valueS env (.mk op n s args)=if op=1 then n else if op=2 then (findS env s).getD 0 else if op=3 then (atS env s ((valsTo env args args.length).getD 0 0)).getD 0 else if op=24 then sumS env s else operateS op (valsTo env args args.length)):=by
     show _=_
     rw[valueS_eq];unfold valsTo;rw[List.take_of_length_le (Nat.le_refl _)];rfl
    have hrng:∀ v∈valsTo env args args.length,Rng v:=by
     intro v hv
     unfold valsTo at hv
     rw[List.take_of_length_le (Nat.le_refl _)] at hv
     obtain⟨x,hx,rfl⟩:=List.mem_map.1 hv
     exact rng_value env x (HOK.out.arg hx)
    have hLl:=valsTo_len env args args.length (Nat.le_refl _)
    have hopk:=operands_ok (node_ok HOK.out.self).2.2.2 (node_ok HOK.out.self).1 (node_ok HOK.out.self).2.1
    simp only[Ex.op_mk,Ex.args_mk] at hopk
    generalize valsTo env args args.length=L at hown' hV hrng hLl
    rw[← hLl] at hopk
    obtain⟨al,cl,hv,hints⟩:=ints_of_own hown' (by omega)
    subst hv
    have b0:wr.cell? ⟨w.heap.size+1,0,none⟩=some (.int .i64 op):=by simp[World.cell?,hb1]
    have b1:wr.cell? ⟨w.heap.size+1,1,none⟩=some (.int .i64 n):=by simp[World.cell?,hb1]
    have b2:wr.cell? ⟨w.heap.size+1,2,none⟩=some (.string s):=by simp[World.cell?,hb1]
    have bs:wr.cell? ⟨w.heap.size,0,none⟩=some (.slice a env.length cap):=by simp[World.cell?,hb0]
    have hz:=hBr.size
    have hSr:=HS.out.keep (keeps_of_below hBr)
    have HF:=Lib.hid (fr (W0:=w) (B:=w.heap.size) (find_any env a cap s wr hSr) hBr hz)
    have HSu:=Lib.hid (fr (W0:=w) (B:=w.heap.size) (sum_any env a cap s wr hsz hSr) hBr hz)
    have HAt:=Lib.hid (fun i W (hW:Below w.heap.size w W) (hzW:w.heap.size≤W.heap.size)=>fr (W0:=w) (B:=w.heap.size) (at_any env a cap s i W hsz (HS.out.keep (keeps_of_below hW))) hW hzW)
    have HOp:=Lib.hid (fun h=>fr (W0:=w) (B:=w.heap.size) (operate_any op L al cl wr hints h (fun h'=>by have:=hopk.2.1 h';omega) (fun i=>rng_getD hrng i)) hBr hz)
    have HI:=Lib.hid hints
    have HB:=Lib.hid hBr
    have HK:=Lib.hid hopk
    clear hown hown' hints hb0 hb1 hrng hLl hopk hBr hSr
    by_cases e1:op=1
    ·have hv:Hid (valueS env (.mk op n s args)=n):=by show _=_;rw[hV.out,if_pos e1]
     go_wp2_with fail
     go_ret
     exact⟨by rw[hv.out];rfl,HB.out⟩
    ·by_cases e2:op=2
     ·have hv:Hid (valueS env (.mk op n s args)=(findS env s).getD 0):=by show _=_;rw[hV.out,if_neg e1,if_pos e2]
      go_wp2_with (go_at_call 257;refine HF.out.mono ?_;rintro e w1 ⟨rfl,hc1,hf1,hz1,hb1⟩)
      go_ret
      exact⟨by rw[hv.out];rfl,by assumption⟩
     ·by_cases e3:op=3
      ·have hv:Hid (valueS env (.mk op n s args)=(atS env s (L.getD 0 0)).getD 0):=by show _=_;rw[hV.out,if_neg e1,if_neg e2,if_pos e3]
       have hL1:L.length=1:=HK.out.1 e3
       obtain⟨bl,ol,hal⟩:=HI.out.addr.resolve_left (by omega)
       subst hal
       have i0:=HI.out.get rfl (show 0 < L.length by omega)
       rw[Nat.add_zero] at i0
       generalize L.getD 0 0=x0 at i0 hv
       have hL0:(0:Int) < (L.length:Int):=by omega
       have hLn:0 < L.length:=by omega
       have hLm:L.length≤1073741824:=by omega
       clear hL1
       go_wp2_with fail
       have hBr:=HB.out
       have hlx:=World.block_lt_of_cell? _ _ i0
       simp only at hlx
       go_region_held3 (fun w'=>w'.cell? ⟨w.heap.size,0,none⟩=some (.slice a env.length cap)∧w'.cell? ⟨w.heap.size+1,2,none⟩=some (.string s)∧w'.cell? ⟨bl,ol,none⟩=some (.int .i64 x0)) (first | go_keep | exact⟨(hc1 _ _ sz).trans bs,(hc1 _ _ sz).trans b2,(hc1 _ _ sz).trans i0⟩) (first | (go_at_call 258;refine(HAt.out x0 _ bel sz).mono ?_;rintro e w1 ⟨rfl,hc1,hf1,hz1,hb1⟩))
       go_wp2_with fail
       go_ret
       exact⟨by rw[hv.out];rfl,by assumption⟩
      ·by_cases e24:op=24
       ·have hv:Hid (valueS env (.mk op n s args)=sumS env s):=by show _=_;rw[hV.out,if_neg e1,if_neg e2,if_neg e3,if_pos e24]
        go_wp2_with (go_at_call 259;refine HSu.out.mono ?_;rintro e w1 ⟨rfl,hc1,hf1,hz1,hb1⟩)
        go_ret
        exact⟨by rw[hv.out];rfl,by assumption⟩
       ·have hv:Hid (valueS env (.mk op n s args)=operateS op L):=by show _=_;rw[hV.out,if_neg e1,if_neg e2,if_neg e3,if_neg e24]
        have HO:=Lib.hid (HOp.out (HK.out.2.2 e1 e2 e24))
        go_wp2_with (go_at_call 260;refine HO.out.mono ?_;rintro e w1 ⟨rfl,hc1,hf1,hz1,hb1⟩)
        go_ret
        exact⟨by rw[hv.out];rfl,by assumption⟩
noncomputable def evalS (env:List (ByteArray × Int)) (e:Ex):Int × Int:=if validS e≠0 then (0,1) else if knownS env e=false then (0,7) else (valueS env e,0)
set_option maxHeartbeats 2000000 in
theorem eval_any (env:List (ByteArray × Int)) (a:Option Addr) (cap:Nat) (op n:Int) (s:ByteArray) (args:List Ex) (ae:Option Addr) (ce:Nat) (w:World) (hG:Glob w) (hS:SigsIn w env a cap) (hE:ExIn w (.mk op n s args) ae ce) (hn:(Ex.mk op n s args).nodes.length≤1073741824) :
  Calls Tryz.prog 162 #[.agg #[.int .i64 op,.int .i64 n,.string s,.slice ae args.length ce],.slice a env.length cap] w fun e w'=>e=.returned (.tuple #[.int .i64 (evalS env (.mk op n s args)).1,.int .i64 (evalS env (.mk op n s args)).2])∧Below w.heap.size w w':=by
 have HS:=Lib.hid hS
 have HE:=Lib.hid hE
 have HG:=Lib.hid hG
 have HV:=Lib.hid (fun W (hW:Below w.heap.size w W) hz=>fr (W0:=w) (B:=w.heap.size) (valid_any op n s args ae ce W (hG.below hW) (hE.keep (keeps_of_below hW)) hn) hW hz)
 have HK:=Lib.hid (fun W (hW:Below w.heap.size w W) hz=>fr (W0:=w) (B:=w.heap.size) (known_any env a cap op n s args ae ce W (hS.keep (keeps_of_below hW)) (hE.keep (keeps_of_below hW)) hn) hW hz)
 have HVa:=Lib.hid (fun hok W (hW:Below w.heap.size w W) hz=>fr (W0:=w) (B:=w.heap.size) (value_any env a cap (.mk op n s args) ae ce W hok hn (hS.keep (keeps_of_below hW)) (hE.keep (keeps_of_below hW))) hW hz)
 simp only[exVal,Ex.op_mk,Ex.n_mk,Ex.name_mk,Ex.args_mk] at HVa
 clear hS hE hG hn
 by_cases hv:validS (.mk op n s args)=0
 ·have HVa':=Lib.hid (HVa.out (valid_ok hv))
  cases hk:knownS env (.mk op n s args)
  ·have hR:Hid (evalS env (.mk op n s args)=(0,7)):=by show _=_;unfold evalS;rw[if_neg (by simpa using hv),if_pos hk]
   go_enter Tryz.func162, Tryz.ntmps162
   go_wp2_with (first | (go_at_call 121;refine(HV.out _ bel sz).mono ?_;rintro e w1 ⟨rfl,hc1,hf1,hz1,hb1⟩;simp only[World.size_alloc] at hz1;have hzl0:w.heap.size < w1.heap.size:=(by omega);have hzl1:w.heap.size+1 < w1.heap.size:=(by omega)) | (go_at_call 220;refine(HK.out _ (by assumption) sz).mono ?_;rintro e w1 ⟨rfl,hc1,hf1,hz1,hb1⟩))
   go_ret2
   exact⟨by rw[hR.out];rfl,by assumption⟩
  ·have hR:Hid (evalS env (.mk op n s args)=(valueS env (.mk op n s args),0)):=by show _=_;unfold evalS;rw[if_neg (by simpa using hv),if_neg (by rw[hk];simp)]
   go_enter Tryz.func162, Tryz.ntmps162
   go_wp2_with (first | (go_at_call 121;refine(HV.out _ bel sz).mono ?_;rintro e w1 ⟨rfl,hc1,hf1,hz1,hb1⟩;simp only[World.size_alloc] at hz1;have hzl0:w.heap.size < w1.heap.size:=(by omega);have hzl1:w.heap.size+1 < w1.heap.size:=(by omega)) | (go_at_call 220;refine(HK.out _ (by assumption) sz).mono ?_;rintro e w1 ⟨rfl,hc1,hf1,hz1,hb1⟩;have hzl2:w.heap.size < w1.heap.size:=(by omega);have hzl3:w.heap.size+1 < w1.heap.size:=(by omega)) | (go_at_call 221;refine(HVa'.out _ (by assumption) sz).mono ?_;rintro e w1 ⟨rfl,hc1,hf1,hz1,hb1⟩))
   go_ret2
   exact⟨by rw[hR.out];rfl,by assumption⟩
 ·have hR:Hid (evalS env (.mk op n s args)=(0,1)):=by show _=_;unfold evalS;rw[if_pos hv]
  have hv':(validS (.mk op n s args) != 0)=true:=by simpa using hv
  go_enter Tryz.func162, Tryz.ntmps162
  go_wp2_with (go_at_call 121;refine(HV.out _ bel sz).mono ?_;rintro e w1 ⟨rfl,hc1,hf1,hz1,hb1⟩)
  go_ret2
  exact⟨by rw[hR.out];rfl,by assumption⟩
end Go.Proofs.YthojpomoflhbcaaGreatDoor
