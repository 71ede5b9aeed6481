/- ref08: Names, Arrays: the list lies in memory that the call has made. -/
import Derived.Test.YthojpomoflhbcaaGreatDoorM06
import Derived.Test.YthojpomoflhbcaaGreatDoorM33
import Derived.Test.YthojpomoflhbcaaGreatDoorM21
import Derived.Deep.CutRange
import Derived.Test.YthojpomoflhbcaaGreatDoorM23
set_option linter.unusedSimpArgs false
set_option linter.unusedVariables false
set_option linter.unnecessarySimpa false
namespace Go.Proofs.YthojpomoflhbcaaGreatDoor
open Go.RowKit
set_option maxHeartbeats 1000000 in
theorem rNamesG_any (op n:Int) (s:ByteArray) (args:List Ex) (a:Option Addr) (cap:Nat) (w:World) (hE:ExIn w (.mk op n s args) a cap) (hn:(Ex.mk op n s args).nodes.length≤1000000000) :
  Calls Tryz.prog 148 #[.agg #[.int .i64 op,.int .i64 n,.string s,.slice a args.length cap]] w fun e w' =>
   (∃ a' cap',e=.returned (.slice a' (namesS [2] (.mk op n s args)).length cap')∧StrsIn w' (namesS [2] (.mk op n s args)) a' cap'∧∀ p:Addr,a'=some p→w.heap.size≤p.block)∧Below w.heap.size w w':=by
 have hB:Below w.heap.size w (w.alloc (.cells #[.int .i64 op,.int .i64 n,.string s,.slice a args.length cap] 24)):=bel
 have HC:=Lib.hid (over_any op n s args a cap _ (hE.keep (keeps_of_below hB)) hn)
 have HB:=Lib.hid hB
 have HN:=Lib.hid (names_len [2] (Ex.mk op n s args).nodes [])
 have Hn:=Lib.hid hn
 clear hB hE hn
 go_enter Tryz.func148, Tryz.ntmps148
 go_wp2_with fail
 refine HC.out.mono ?_
 rintro e w2 ⟨rfl,hI,hb⟩
 obtain⟨_,v1,v2,hp,o1,o2,_⟩:=hI
 simp only[World.size_alloc] at hp
 have c3:w2.cell? ⟨w.heap.size+1+1,3,none⟩=some v1:=by simp[World.cell?,hp]
 have c4:w2.cell? ⟨w.heap.size+1+1,4,none⟩=some v2:=by simp[World.cell?,hp]
 have H2:Hid (Below w.heap.size w w2):=HB.out.trans (hb.mono (by simp))
 have HL1:Hid (∀ j,v1.ownBlock=some j→w.heap.size≤j):=fun j hj=>by have:=(o1.lt j hj).1;simp at this;omega
 have HL2:Hid (∀ j,v2.ownBlock=some j→w.heap.size≤j):=fun j hj=>by have:=(o2.lt j hj).1;simp at this;omega
 have H1:=Lib.hid (⟨o1,o2⟩:_∧_)
 clear hp hb o1 o2
 go_wp2_with fail
 go_ret
 refine⟨?_,H2.out⟩
 have hl:(namesS [2] (.mk op n s args)).length≤1073741824:=by
  have:=HN.out;have:=Hn.out
  unfold namesS;simp only[List.length_nil] at *;omega
 first
  | (obtain⟨a',cap',rfl,hs⟩:=strs_of_own H1.out.1 hl;exact⟨a',cap',rfl,hs,fun p hp=>HL1.out p.block (by rw[hp];rfl)⟩)
  | (obtain⟨a',cap',rfl,hs⟩:=strs_of_own H1.out.2 hl;exact⟨a',cap',rfl,hs,fun p hp=>HL2.out p.block (by rw[hp];rfl)⟩)
set_option maxHeartbeats 1000000 in
theorem rArraysG_any (op n:Int) (s:ByteArray) (args:List Ex) (a:Option Addr) (cap:Nat) (w:World) (hE:ExIn w (.mk op n s args) a cap) (hn:(Ex.mk op n s args).nodes.length≤1000000000) :
  Calls Tryz.prog 167 #[.agg #[.int .i64 op,.int .i64 n,.string s,.slice a args.length cap]] w fun e w' =>
   (∃ a' cap',e=.returned (.slice a' (namesS [3,24] (.mk op n s args)).length cap')∧StrsIn w' (namesS [3,24] (.mk op n s args)) a' cap'∧∀ p:Addr,a'=some p→w.heap.size≤p.block)∧Below w.heap.size w w':=by
 have hB:Below w.heap.size w (w.alloc (.cells #[.int .i64 op,.int .i64 n,.string s,.slice a args.length cap] 24)):=bel
 have HC:=Lib.hid (over_any op n s args a cap _ (hE.keep (keeps_of_below hB)) hn)
 have HB:=Lib.hid hB
 have HN:=Lib.hid (names_len [3,24] (Ex.mk op n s args).nodes [])
 have Hn:=Lib.hid hn
 clear hB hE hn
 go_enter Tryz.func167, Tryz.ntmps167
 go_wp2_with fail
 refine HC.out.mono ?_
 rintro e w2 ⟨rfl,hI,hb⟩
 obtain⟨_,v1,v2,hp,o1,o2,_⟩:=hI
 simp only[World.size_alloc] at hp
 have c3:w2.cell? ⟨w.heap.size+1+1,3,none⟩=some v1:=by simp[World.cell?,hp]
 have c4:w2.cell? ⟨w.heap.size+1+1,4,none⟩=some v2:=by simp[World.cell?,hp]
 have H2:Hid (Below w.heap.size w w2):=HB.out.trans (hb.mono (by simp))
 have HL1:Hid (∀ j,v1.ownBlock=some j→w.heap.size≤j):=fun j hj=>by have:=(o1.lt j hj).1;simp at this;omega
 have HL2:Hid (∀ j,v2.ownBlock=some j→w.heap.size≤j):=fun j hj=>by have:=(o2.lt j hj).1;simp at this;omega
 have H1:=Lib.hid (⟨o1,o2⟩:_∧_)
 clear hp hb o1 o2
 go_wp2_with fail
 go_ret
 refine⟨?_,H2.out⟩
 have hl:(namesS [3,24] (.mk op n s args)).length≤1073741824:=by
  have:=HN.out;have:=Hn.out
  unfold namesS;simp only[List.length_nil] at *;omega
 first
  | (obtain⟨a',cap',rfl,hs⟩:=strs_of_own H1.out.1 hl;exact⟨a',cap',rfl,hs,fun p hp=>HL1.out p.block (by rw[hp];rfl)⟩)
  | (obtain⟨a',cap',rfl,hs⟩:=strs_of_own H1.out.2 hl;exact⟨a',cap',rfl,hs,fun p hp=>HL2.out p.block (by rw[hp];rfl)⟩)
end Go.Proofs.YthojpomoflhbcaaGreatDoor
namespace Go.Proofs.YthojpomoflhbcaaGreatDoor
open Go.RowKit
attribute [local go_sem ↓] Go.wp_at_zero Go.wp_at_succ
theorem elName_zero (s:ByteArray):elName s 0=s++(⟨#[91,48,93]⟩:ByteArray):=by
 have h:=relName_eq s 0
 simp only[Nat.add_zero] at h
 rw[show (48:UInt8)=UInt8.ofNat 48 from rfl]
 apply ByteArray.ext
 apply Array.toList_inj.1
 simp[elName]
def QRel (w:World) (bx:Obj) (L:List Sg) (ns:List ByteArray) (an:Option Addr) (cn:Nat) (v:Value) (wr:World):Prop :=
 sgE.Own 78 noneT wr (w.heap.size+1) v L∧wr.heap[w.heap.size]? = some bx∧Below w.heap.size w wr∧(0 < ns.length→StrsIn wr ns an cn∧∀ ad,an=some ad→v.ownBlock≠some ad.block)
theorem QRel.step {w:World} {bx:Obj} {L L':List Sg} {ns:List ByteArray} {an:Option Addr} {cn:Nat} {v v':Value} {wr w':World} {g:Nat} (h:QRel w bx L ns an cn v wr) (ho:sgE.Own 78 noneT w' (w.heap.size+1) v' L') (hg:wr.grownBy w' v.ownBlock) (hv:v'.ownBlock=some g) (hat:v.ownBlock=some g∨wr.heap.size < g):QRel w bx L' ns an cn v' w':=by
 obtain⟨h1,h2,h3,h4⟩:=h
 have hlt:=own_vlt h1
 refine⟨ho,?_,below_gr h3 hg h3.size fun k hk=>by have:=(hlt k hk).1;omega,fun hn=>?_⟩
 ·rw[hg.block _ (lt_of_block h2) (fun e=>by have:=(hlt _ e.symm).1;omega)];exact h2
 ·obtain⟨h5,h6⟩:=h4 hn
  obtain⟨_,_,_,q4,q5⟩:=VRel.step (bx:=bx) (L:=L) ⟨h1,h2,h3,h5,h6⟩ ho hg hv hat
  exact⟨q4,q5 hn⟩
set_option maxHeartbeats 16000000 in
set_option maxRecDepth 100000 in
theorem rvalue41_any (x:Ex) (loc env:List Sg) (ax:Option Addr) (cx:Nat) (al:Option Addr) (cl:Nat) (ae:Option Addr) (ce:Nat) (w:World) (hX:ExIn w x ax cx) (hn:x.nodes.length≤1000000) (hL:sgE.In w loc al cl) (hE:sgE.In w env ae ce) (hl:loc.length≤100000) (he:env.length≤100000) :
  Calls Tryz.prog 108 #[.agg #[.int .i64 x.op,.int .i64 x.n,.string x.name,.slice ax x.args.length cx],.slice al loc.length cl,.slice ae env.length ce] w fun e w'=>e=.returned (.int .i64 (valN x loc env))∧Below w.heap.size w w':=by
 rw[valN_eq]
 have hn2:=nameX_len [2] x
 have hn3:=nameX_len [3,24] x
 have HNm:Hid (∀ W,Below w.heap.size w W→Calls Tryz.prog 148 #[.agg #[.int .i64 x.op,.int .i64 x.n,.string x.name,.slice ax x.args.length cx]] W fun e w'=>(∃ a' c',e=.returned (.slice a' (namesS [2] x).length c')∧StrsIn w' (namesS [2] x) a' c'∧∀ p:Addr,a'=some p→W.heap.size≤p.block)∧Below W.heap.size W w'):=fun W hW=>by
  have h2:=hX.keep (keeps_of_below hW)
  have h3:=hn
  clear hX hn hn2 hn3
  obtain⟨op,n,nm,args⟩:=x
  exact rNamesG_any op n nm args ax cx W h2 (by omega)
 have HAr:Hid (∀ W,Below w.heap.size w W→Calls Tryz.prog 167 #[.agg #[.int .i64 x.op,.int .i64 x.n,.string x.name,.slice ax x.args.length cx]] W fun e w'=>(∃ a' c',e=.returned (.slice a' (namesS [3,24] x).length c')∧StrsIn w' (namesS [3,24] x) a' c'∧∀ p:Addr,a'=some p→W.heap.size≤p.block)∧Below W.heap.size W w'):=fun W hW=>by
  have h2:=hX.keep (keeps_of_below hW)
  have h3:=hn
  clear hX hn hn2 hn3
  obtain⟨op,n,nm,args⟩:=x
  exact rArraysG_any op n nm args ax cx W h2 (by omega)
 have HEv:Hid (∀ l a c W,Below w.heap.size w W→sgE.In W l a c→Calls Tryz.prog 169 #[.agg #[.int .i64 x.op,.int .i64 x.n,.string x.name,.slice ax x.args.length cx],.slice a l.length c] W fun e w'=>e=.returned (.int .i64 (evalS l x).1)∧Below W.heap.size W w'):=fun l a c W hW hl=>by
  have h2:=hX.keep (keeps_of_below hW)
  have h3:=hn
  clear hX hn hn2 hn3
  obtain⟨op,n,nm,args⟩:=x
  exact rValue_any l a c op n nm args ax cx W (sgE_in.1 hl) h2 (by omega)
 have HSz:Hid (∀ s∈namesS [3,24] x,s.size≤1073741824):=names_size hX [3,24]
 generalize namesS [2] x=A at HNm hn2⊢
 generalize namesS [3,24] x=C at HAr hn3 HSz⊢
 have HPo:Hid (∀ W,Below w.heap.size w W→(fun (e:Ending) (w':World)=>e=.returned (.int .i64 (evalS ((loc++env++A.map fun s=>(s,(0:Int)))++C.map fun s=>(s++(⟨#[91,48,93]⟩:ByteArray),(0:Int))) x).1)∧Below w.heap.size w w') (.returned (.int .i64 (evalS ((loc++env++A.map fun s=>(s,(0:Int)))++C.map fun s=>(s++(⟨#[91,48,93]⟩:ByteArray),(0:Int))) x).1)) W):=fun W hW=>⟨rfl,hW⟩
 generalize (fun (e:Ending) (w':World)=>e=.returned (.int .i64 (evalS ((loc++env++A.map fun s=>(s,(0:Int)))++C.map fun s=>(s++(⟨#[91,48,93]⟩:ByteArray),(0:Int))) x).1)∧Below w.heap.size w w')=Po at HPo⊢
 have HL:=Lib.hid hL
 have HE:=Lib.hid hE
 clear hX hL hE
 go_enter Tryz.func108, Tryz.ntmps108
 go_upto_region 1 with fail
 generalize hW2:World.alloc w _=W2
 have HB2:Hid (Below w.heap.size w W2):=by show Below _ _ _;rw[← hW2];exact(Below.refl _ _).alloc (Nat.le_refl _) _
 have HX2:Hid (W2.heap[w.heap.size]? = some (.cells #[.int .i64 x.op,.int .i64 x.n,.string x.name,.slice ax x.args.length cx] 24 (0,0))):=by show _=_;rw[← hW2];exact hx_newT rfl
 have hz2:w.heap.size+1≤W2.heap.size:=by rw[← hW2];simp
 clear hW2
 have HO0:Hid (sgE.Own 78 noneT (W2.alloc (.cells #[] 78)) (w.heap.size+1) (.slice (some ⟨W2.heap.size,0,none⟩) 0 0) []):=⟨[],World.ownsRow_made W2 #[] 0 hz2 (Nat.zero_le _) rfl,Enc.Vals.nil _⟩
 have HB3:Hid (Below w.heap.size w (W2.alloc (.cells #[] 78))):=HB2.out.alloc HB2.out.size _
 have HI1:Hid (sgE.In (World.hide (W2.alloc (.cells #[] 78)) (hid noneT (.slice (some ⟨W2.heap.size,0,none⟩) 0 0))) loc al cl):=HL.out.keep (hide_old HB3.out (hid_noneT fun j hj=>by have:=(own_vlt HO0.out j hj).1;omega))
 have HX3:Hid ((W2.alloc (.cells #[] 78)).heap[w.heap.size]? = some (.cells #[.int .i64 x.op,.int .i64 x.n,.string x.name,.slice ax x.args.length cx] 24 (0,0))):=hx_oldT HX2.out
 go_wp2_with (at_builtin;go_must (refine own_rowE (E:=sgE) elemSG _ rfl (.tmp 12) (.tmp 13) rfl noneT (w.heap.size+1) _ rfl HO0.out al cl HI1.out rfl (by simp;omega) (by simp;omega) ?_))
 intro v3 w3 ho3 hg3 hat3
 have HO3:Hid (sgE.Own 78 noneT w3 (w.heap.size+1) v3 loc):=by show sgE.Own _ _ _ _ _ _;simpa using ho3
 have HB4:Hid (Below w.heap.size w w3):=below_growF HB3.out hg3 fun j hj=>by have:=(own_vlt HO0.out j hj).1;omega
 have HX4:Hid (w3.heap[w.heap.size]? = some (.cells #[.int .i64 x.op,.int .i64 x.n,.string x.name,.slice ax x.args.length cx] 24 (0,0))):=(hg3.block _ (lt_of_block HX3.out) (fun e=>by have:=(own_vlt HO0.out _ e.symm).1;omega)).trans HX3.out
 have HI4:Hid (sgE.In (World.hide w3 (hid noneT v3)) env ae ce):=HE.out.keep (hide_old HB4.out (hid_noneT fun j hj=>by have:=(own_vlt HO3.out j hj).1;omega))
 have hz4:=lt_of_block HX4.out
 clear ho3 hg3 hat3 HO0 HB3 HI1 HX3 HX2 HB2 HL HE
 go_wp2_with (at_builtin;go_must (refine own_rowE (E:=sgE) elemSG _ rfl (.tmp 15) (.tmp 16) rfl noneT (w.heap.size+1) _ rfl HO3.out ae ce HI4.out rfl (by omega) (by omega) ?_))
 intro v5 w5 ho5 hg5 hat5
 have HO5:Hid (sgE.Own 78 noneT w5 (w.heap.size+1) v5 (loc++env)):=ho5
 have HB5:Hid (Below w.heap.size w w5):=below_growF HB4.out hg5 fun j hj=>by have:=(own_vlt HO3.out j hj).1;omega
 have HX5:Hid (w5.heap[w.heap.size]? = some (.cells #[.int .i64 x.op,.int .i64 x.n,.string x.name,.slice ax x.args.length cx] 24 (0,0))):=(hg5.block _ hz4 (fun e=>by have:=(own_vlt HO3.out _ e.symm).1;omega)).trans HX4.out
 have hz5:=lt_of_block HX5.out
 clear ho5 hg5 hat5 HO3 HB4 HI4 HX4 hz4
 have HC5:Hid (∀ W,Below w5.heap.size w5 W→W.cell? ⟨w.heap.size,0,none⟩=some (.int .i64 x.op)∧W.cell? ⟨w.heap.size,1,none⟩=some (.int .i64 x.n)∧W.cell? ⟨w.heap.size,2,none⟩=some (.string x.name)∧W.cell? ⟨w.heap.size,3,none⟩=some (.slice ax x.args.length cx)):=fun W hW=>by
  obtain⟨b0,b1,b2,b3,-⟩:=cell4B ((hW.block _ hz5).trans HX5.out)
  exact⟨b0,b1,b2,b3⟩
 have HNm5:Hid (∀ W,Below w5.heap.size w5 W→Calls Tryz.prog 148 #[.agg #[.int .i64 x.op,.int .i64 x.n,.string x.name,.slice ax x.args.length cx]] W fun e w'=>(∃ a' c',e=.returned (.slice a' A.length c')∧StrsIn w' A a' c'∧∀ p:Addr,a'=some p→w5.heap.size≤p.block)∧Below w5.heap.size w5 w'∧Below W.heap.size W w'):=fun W hW=>(HNm.out W (HB5.out.trans (hW.mono HB5.out.size))).mono fun e w' ⟨⟨a,c,h1,h2,h3⟩,h4⟩=>⟨⟨a,c,h1,h2,fun p hp=>by have:=h3 p hp;have:=hW.size;omega⟩,hW.trans (h4.mono hW.size),h4⟩
 have HAr5:Hid (∀ W,Below w5.heap.size w5 W→Calls Tryz.prog 167 #[.agg #[.int .i64 x.op,.int .i64 x.n,.string x.name,.slice ax x.args.length cx]] W fun e w'=>(∃ a' c',e=.returned (.slice a' C.length c')∧StrsIn w' C a' c'∧∀ p:Addr,a'=some p→w5.heap.size≤p.block)∧Below w5.heap.size w5 w'∧Below W.heap.size W w'):=fun W hW=>(HAr.out W (HB5.out.trans (hW.mono HB5.out.size))).mono fun e w' ⟨⟨a,c,h1,h2,h3⟩,h4⟩=>⟨⟨a,c,h1,h2,fun p hp=>by have:=h3 p hp;have:=hW.size;omega⟩,hW.trans (h4.mono hW.size),h4⟩
 obtain⟨b0,b1,b2,b3⟩:=HC5.out w5 (Below.refl _ _)
 go_upto_region 3 with fail
 go_cut [8,9] from 18 to 21 (fun s19 s21 wx=>∃ (an:Option Addr) (cn:Nat) (aq:Option Addr) (cq:Nat),s19=.slice an A.length cn∧s21=.slice aq C.length cq∧Hid (StrsIn wx A an cn)∧Hid (StrsIn wx C aq cq)∧Hid (∀ p:Addr,an=some p→w5.heap.size≤p.block)∧Hid (∀ p:Addr,aq=some p→w5.heap.size≤p.block)∧Hid (Below w5.heap.size w5 wx))
 case first =>
  go_region_held3 (fun W=>Below w5.heap.size w5 W∧(W.cell? ⟨w.heap.size,0,none⟩=some (.int .i64 x.op)∧W.cell? ⟨w.heap.size,1,none⟩=some (.int .i64 x.n)∧W.cell? ⟨w.heap.size,2,none⟩=some (.string x.name)∧W.cell? ⟨w.heap.size,3,none⟩=some (.slice ax x.args.length cx)))
   ((refine(fun h=>⟨h,HC5.out _ h⟩) ?_;first | with_reducible assumption | exact belR))
   (first
    | (go_at_call 148;(with_reducible refine(HNm5.out _ (by first | with_reducible assumption | exact belR)).mono ?_);rintro e w6 ⟨⟨an,cn,rfl,hsA,hfA⟩,hb6,hb6'⟩)
    | (go_at_call 167;(with_reducible refine(HAr5.out _ (by first | with_reducible assumption | exact belR)).mono ?_);rintro e w7 ⟨⟨aq,cq,rfl,hsC,hfC⟩,hb7,hb7'⟩))
  all_goals
   have HA1:=Lib.hid hsA
   have HA2:=Lib.hid hsC
   have HA3:=Lib.hid hfA
   have HA4:=Lib.hid hfC
   have HA5:=Lib.hid hb6
   have HA6:=Lib.hid hb7
   have HA7:=Lib.hid hb6'
   have HA8:=Lib.hid hb7'
   clear hsA hsC hfA hfC hb6 hb7 hb6' hb7'
   go_wp2_with fail
   go_meet
   case rel=>first
    | exact⟨an,cn,aq,cq,rfl,rfl,HA1.out.keep (keeps_of_below HA8.out),HA2.out,HA3.out,HA4.out,HA6.out⟩
    | exact⟨an,cn,aq,cq,rfl,rfl,HA1.out,HA2.out.keep (keeps_of_below HA7.out),HA3.out,HA4.out,HA5.out⟩
 case rest =>
  obtain⟨an,cn,aq,cq,e19,e21,HsA,HsC,HfA,HfC,HBx⟩:=hcut
  subst e19 e21
  have HVo:Hid (∀ j,v5.ownBlock=some j→j < w5.heap.size):=fun j hj=>(own_vlt HO5.out j hj).2
  have HR4:Hid (QRel w (.cells #[.int .i64 x.op,.int .i64 x.n,.string x.name,.slice ax x.args.length cx] 24 (0,0)) (loc++env++(A.take 0).map fun s=>(s,(0:Int))) A an cn v5 wc):=by
   refine⟨?_,(HBx.out.block _ hz5).trans HX5.out,HB5.out.trans (HBx.out.mono HB5.out.size),fun _=>⟨HsA.out,fun ad ha e=>?_⟩⟩
   ·simpa using HO5.out.below HBx.out
   ·have h1:=HfA.out ad ha
    have h2:=HVo.out _ e
    omega
  have HQ4:Hid (QRel w (.cells #[.int .i64 x.op,.int .i64 x.n,.string x.name,.slice ax x.args.length cx] 24 (0,0)) (loc++env++(A.take 0).map fun s=>(s,(0:Int))) C aq cq v5 wc):=by
   refine⟨?_,(HBx.out.block _ hz5).trans HX5.out,HB5.out.trans (HBx.out.mono HB5.out.size),fun _=>⟨HsC.out,fun ad ha e=>?_⟩⟩
   ·simpa using HO5.out.below HBx.out
   ·have h1:=HfC.out ad ha
    have h2:=HVo.out _ e
    omega
  have HAn:Hid (A.length=0∨∃ b off,an=some ⟨b,off,none⟩):=SliceIn.addr HsA.out
  have HCn:Hid (C.length=0∨∃ b off,aq=some ⟨b,off,none⟩):=SliceIn.addr HsC.out
  have HLn:Hid (∀ m,m≤A.length→(loc++env++(A.take m).map fun s=>(s,(0:Int))).length=loc.length+env.length+m):=fun m hm=>by simp;omega
  have HLs:Hid (∀ m (hm:m < A.length),(loc++env++(A.take (m+1)).map fun s=>(s,(0:Int)))=(loc++env++(A.take m).map fun s=>(s,(0:Int)))++[(A[m]'hm,0)]):=fun m hm=>by rw[List.take_succ_eq_append_getElem hm,List.map_append,← List.append_assoc];rfl
  have HLe:Hid ((loc++env++(A.take A.length).map fun s=>(s,(0:Int)))=loc++env++A.map fun s=>(s,(0:Int))):=by show _=_;rw[List.take_length]
  clear HNm5 HAr5 HNm HAr HC5 b0 b1 b2 b3 HX5 HB5 HO5 HsA HsC HfA HfC HBx HVo
  generalize hDL:(fun m=>loc++env++(A.take m).map fun s=>(s,(0:Int)))=DL
  have hD:∀ m,(loc++env++(A.take m).map fun s=>(s,(0:Int)))=DL m:=fun m=>by rw[← hDL]
  simp only[hD] at HR4 HQ4 HLn HLs HLe
  clear hD hDL
  go_wp2_with fail
  go_loopw [10,7] (fun i u wr=>∃ k:Nat,i=.int .i64 k∧k≤A.length∧Hid (QRel w (.cells #[.int .i64 x.op,.int .i64 x.n,.string x.name,.slice ax x.args.length cx] 24 (0,0)) (DL k) A an cn u wr)∧Hid (QRel w (.cells #[.int .i64 x.op,.int .i64 x.n,.string x.name,.slice ax x.args.length cx] 24 (0,0)) (DL k) C aq cq u wr)) (fun i _ _=>A.length - (intOf i).toNat)
  case atStart=>exact⟨0,rfl,Nat.zero_le _,HR4.out,HQ4.out⟩
  case round =>
   (try rename World=>wr)
   obtain⟨k,rfl,hk,HR,HQ⟩:=hrel
   by_cases hlt:k < A.length
   ·have hkl:(k:Int) < A.length:=by omega
    obtain⟨bn,off,han⟩:=HAn.out.resolve_left (by omega)
    subst han
    obtain⟨ho,hbx,hbr,hsn⟩:=HR.out
    have g0:=StrsIn.get (hsn (by omega)).1 rfl hlt
    have HO:=Lib.hid ho
    have HL0:=Lib.hid (HLn.out k hk)
    have HS1:=Lib.hid (HLs.out k hlt)
    have hzr:=lt_of_block hbx
    clear ho hbx hbr hsn
    generalize (A[k]'hlt)=s at g0 HS1
    go_wp2_with (at_builtin;go_must (refine own_addE (E:=sgE) elemSG _ rfl (.tmp 28) (.tmp 34) rfl noneT (w.heap.size+1) _ rfl HO.out (s,0) [.string s,.int .i64 0] rfl _ _ rfl rfl (loc.length+env.length+k) HL0.out (by omega) (by omega) ?_))
    intro g7 cap7 w7 ho7 hg7 hat7
    rw[← HS1.out] at ho7
    have HR7:=Lib.hid (HR.out.step ho7 hg7 rfl hat7)
    have HQ7:=Lib.hid (HQ.out.step ho7 hg7 rfl hat7)
    clear ho7 hg7 hat7 g0
    go_wp2_with fail
    go_roundw
    case rel=>exact⟨k+1,by go_num,by omega,HR7.out,HQ7.out⟩
    case measure=>(simp[intOf];try omega)
   ·obtain rfl:k=A.length:=by omega
    have hq:=HQ.out
    rw[HLe.out] at hq
    clear HR HLe HLs HLn HQ
    generalize hBL:(loc++env++A.map fun s=>(s,(0:Int)))=BL at hq HPo
    have HBL:Hid (BL.length=loc.length+env.length+A.length):=by show _=_;rw[← hBL];simp;omega
    clear hBL
    have HR4:Hid (QRel w (.cells #[.int .i64 x.op,.int .i64 x.n,.string x.name,.slice ax x.args.length cx] 24 (0,0)) (BL++(C.take 0).map fun s=>(s++(⟨#[91,48,93]⟩:ByteArray),(0:Int))) C aq cq u7 wr):=by show QRel _ _ _ _ _ _ _ _;simpa using hq
    have HLn:Hid (∀ m,m≤C.length→(BL++(C.take m).map fun s=>(s++(⟨#[91,48,93]⟩:ByteArray),(0:Int))).length=BL.length+m):=fun m hm=>by simp;omega
    have HLs:Hid (∀ m (hm:m < C.length),(BL++(C.take (m+1)).map fun s=>(s++(⟨#[91,48,93]⟩:ByteArray),(0:Int)))=(BL++(C.take m).map fun s=>(s++(⟨#[91,48,93]⟩:ByteArray),(0:Int)))++[(C[m]'hm++(⟨#[91,48,93]⟩:ByteArray),0)]):=fun m hm=>by rw[List.take_succ_eq_append_getElem hm,List.map_append,← List.append_assoc];rfl
    have HLe:Hid ((BL++(C.take C.length).map fun s=>(s++(⟨#[91,48,93]⟩:ByteArray),(0:Int)))=BL++C.map fun s=>(s++(⟨#[91,48,93]⟩:ByteArray),(0:Int))):=by show _=_;rw[List.take_length]
    clear hq
    generalize hDM:(fun m=>BL++(C.take m).map fun s=>(s++(⟨#[91,48,93]⟩:ByteArray),(0:Int)))=DM
    have hD:∀ m,(BL++(C.take m).map fun s=>(s++(⟨#[91,48,93]⟩:ByteArray),(0:Int)))=DM m:=fun m=>by rw[← hDM]
    simp only[hD] at HR4 HLn HLs HLe
    clear hD hDM
    go_wp2_with fail
    go_loopw [11,7] (fun i u wr=>∃ k:Nat,i=.int .i64 k∧k≤C.length∧Hid (QRel w (.cells #[.int .i64 x.op,.int .i64 x.n,.string x.name,.slice ax x.args.length cx] 24 (0,0)) (DM k) C aq cq u wr)) (fun i _ _=>C.length - (intOf i).toNat)
    case atStart=>exact⟨0,rfl,Nat.zero_le _,HR4.out⟩
    case round =>
     (try rename World=>wv)
     obtain⟨k,rfl,hk,HR⟩:=hrel
     by_cases hlt:k < C.length
     ·have hkl:(k:Int) < C.length:=by omega
      obtain⟨bn,off,han⟩:=HCn.out.resolve_left (by omega)
      subst han
      obtain⟨ho,hbx,hbr,hsn⟩:=HR.out
      have g0:=StrsIn.get (hsn (by omega)).1 rfl hlt
      have HO:=Lib.hid ho
      have HL0:=Lib.hid (HLn.out k hk)
      have HS1:=Lib.hid (HLs.out k hlt)
      have hzr:=lt_of_block hbx
      have hss:=HSz.out _ (List.getElem_mem hlt)
      clear ho hbx hbr hsn
      generalize (C[k]'hlt)=s at g0 HS1 hss
      have HEl:Hid (∀ W,Calls Tryz.prog 168 #[.string s,.int .i64 0] W fun e w'=>e=.returned (.string (s++(⟨#[91,48,93]⟩:ByteArray)))∧w'=W):=fun W=>(rElement_any s 0 (by omega) W hss).mono fun e w' h=>⟨by rw[h.1];exact congrArg _ (congrArg _ (elName_zero s)),h.2.symm⟩
      go_upto_region 11 with fail
      go_wp2_with (first
       | (go_at_call 168;go_must (refine(HEl.out _).mono ?_;rintro e w6 ⟨rfl,h6⟩;have h7:=h6.symm;clear h6;subst h7))
       | (at_builtin;go_must (refine own_addE (E:=sgE) elemSG _ rfl (.tmp 42) (.tmp 49) rfl noneT (w.heap.size+1) _ rfl HO.out (s++(⟨#[91,48,93]⟩:ByteArray),0) [.string (s++(⟨#[91,48,93]⟩:ByteArray)),.int .i64 0] rfl _ _ rfl rfl (BL.length+k) HL0.out (by have:=HBL.out;omega) (by omega) ?_)))
      intro g7 cap7 w7 ho7 hg7 hat7
      rw[← HS1.out] at ho7
      have HR7:=Lib.hid (HR.out.step ho7 hg7 rfl hat7)
      clear ho7 hg7 hat7 g0
      go_wp2_with fail
      go_roundw
      case rel=>exact⟨k+1,by go_num,by omega,HR7.out⟩
      case measure=>(simp[intOf];try omega)
     ·obtain rfl:k=C.length:=by omega
      obtain⟨ho,hbx,hbr,-⟩:=HR.out
      rw[HLe.out] at ho
      have HPo2:Hid (∀ W,Below w.heap.size w W→Po (.returned (.int .i64 (evalS (BL++C.map fun s=>(s++(⟨#[91,48,93]⟩:ByteArray),(0:Int))) x).1)) W):=HPo.out
      have hel:(BL++C.map fun s=>(s++(⟨#[91,48,93]⟩:ByteArray),(0:Int))).length≤1073741824:=by have:=HBL.out;simp;omega
      clear HPo HLs HLn HLe
      generalize (BL++C.map fun s=>(s++(⟨#[91,48,93]⟩:ByteArray),(0:Int)))=EL at ho HPo2 hel
      obtain⟨av,cv,rfl,hin⟩:=ho.slice hel
      have HEv3:=Lib.hid (HEv.out EL av cv wv hbr hin)
      have HB3:=Lib.hid hbr
      obtain⟨b0,b1,b2,b3,-⟩:=cell4B hbx
      clear ho hbx hbr HR hin
      go_wp2_with (go_at_call 169;go_must (refine HEv3.out.mono ?_;rintro e w5 ⟨rfl,hb5⟩))
      have HF:=Lib.hid (HPo2.out _ (HB3.out.trans (hb5.mono HB3.out.size)))
      first | exact HF.out | (go_ret2;exact HF.out)
end Go.Proofs.YthojpomoflhbcaaGreatDoor
namespace Go.Proofs.YthojpomoflhbcaaGreatDoor
open Go.RowKit
attribute [local go_sem ↓] Go.wp_at_zero Go.wp_at_succ
def TkM:Option (List Sg)→World→Ending→Prop
 | none,_,e=>e=.returned (.tuple #[.slice none 0 0,.bool false])
 | some l,w',e=>∃ a c,e=.returned (.tuple #[.slice a l.length c,.bool true])∧sgE.In w' l a c
def RTkRet (r:Option (List Sg)) (w:World) (e:Ending) (w':World):Prop:=TkM r w' e∧Below w.heap.size w w'
set_option maxHeartbeats 16000000 in
set_option maxRecDepth 100000 in
theorem rtake_any (loc:List Sg) (al:Option Addr) (cl:Nat) (x:EdgeD) (ag:Option Addr) (cg:Nat) (aS:Option Addr) (cs:Nat) (env:List Sg) (ae:Option Addr) (ce:Nat) (w:World)
  (hL:sgE.In w loc al cl) (hg:exE.In w x.guards ag cg) (hs:bdE.In w x.sets aS cs) (hE:sgE.In w env ae ce) (ha:ascS loc) (hl:loc.length≤50000) (he:env.length≤50000) (hx:StepEd x) :
  Calls Tryz.prog 53 #[edVal x ag cg aS cs,.slice al loc.length cl,.slice ae env.length ce] w (RTkRet (takeS x loc env) w):=by
 have HVg:Hid (∀ k (hk:k < x.guards.length) W ax cx,Below w.heap.size w W→ExIn W (x.guards[k]'hk) ax cx→Calls Tryz.prog 108 #[.agg #[.int .i64 (x.guards[k]'hk).op,.int .i64 (x.guards[k]'hk).n,.string (x.guards[k]'hk).name,.slice ax (x.guards[k]'hk).args.length cx],.slice al loc.length cl,.slice ae env.length ce] W fun e w'=>e=.returned (.int .i64 (valN (x.guards[k]'hk) loc env))∧Below W.heap.size W w'):=fun k hk W ax cx hW hX =>
  rvalue41_any _ loc env ax cx al cl ae ce W hX (hx.gs _ (List.getElem_mem hk)) (hL.keep (keeps_of_below hW)) (hE.keep (keeps_of_below hW)) (by omega) (by omega)
 have HVs:Hid (∀ k (hk:k < x.sets.length) W ax cx al cl,Below w.heap.size w W→ExIn W (x.sets[k]'hk).expr ax cx→sgE.In W (setsTo x.sets env loc k) al cl→Calls Tryz.prog 108 #[.agg #[.int .i64 (x.sets[k]'hk).expr.op,.int .i64 (x.sets[k]'hk).expr.n,.string (x.sets[k]'hk).expr.name,.slice ax (x.sets[k]'hk).expr.args.length cx],.slice al (setsTo x.sets env loc k).length cl,.slice ae env.length ce] W fun e w'=>e=.returned (.int .i64 (valN (x.sets[k]'hk).expr (setsTo x.sets env loc k) env))∧Below W.heap.size W w'):=fun k hk W ax cx al cl hW hX hL =>
  rvalue41_any _ _ env ax cx al cl ae ce W hX (hx.ss _ (List.getElem_mem hk)) hL (hE.keep (keeps_of_below hW)) (by have:=setsTo_lenT (l:=x.sets) (env:=env) (loc:=loc) k;have:=hx.sl;omega) (by omega)
 have HLn:Hid (∀ k,k≤x.sets.length→(setsTo x.sets env loc k).length≤100000):=fun k hk=>by have:=setsTo_lenT (l:=x.sets) (env:=env) (loc:=loc) k;have:=hx.sl;omega
 have HPu:Hid (∀ k (hk:k < x.sets.length) W al cl v,sgE.In W (setsTo x.sets env loc k) al cl→v=valN (x.sets[k]'hk).expr (setsTo x.sets env loc k) env→Calls Tryz.prog 58 #[.slice al (setsTo x.sets env loc k).length cl,.string (x.sets[k]'hk).name,.int .i64 v] W fun e w'=>(∃ a c,e=.returned (.slice a (setsTo x.sets env loc (k+1)).length c)∧sgE.In w' (setsTo x.sets env loc (k+1)) a c)∧Below W.heap.size W w'):=fun k hk W al cl v h1 h3=>by
  subst h3
  refine(rput_any noneT _ al cl _ _ W h1 (setsTo_ascT ha k) (HLn.out k (by omega))).mono ?_
  rw[← setsTo_atT hk]
  rintro e w' ⟨⟨v',h4,h5⟩,h6⟩
  obtain⟨a,c,rfl,h7⟩:=h5.slice (by have:=HLn.out (k+1) hk;omega)
  exact⟨⟨a,c,h4,h7⟩,h6⟩
 have H0:Hid (setsTo x.sets env loc 0=loc):=by show _=_;unfold setsTo;simp
 have HNo:Hid (∀ k (hk:k < x.guards.length),valN (x.guards[k]'hk) loc env=0→∀ W,Below w.heap.size w W→RTkRet (takeS x loc env) w (.returned (.tuple #[.slice none 0 0,.bool false])) W):=fun k hk h W hW=>by
  have:takeS x loc env=none:=by
   unfold takeS
   rw[if_neg]
   rw[List.all_eq_true]
   intro h2
   have:=h2 _ (List.getElem_mem hk)
   rw[h] at this
   simp at this
  rw[this]
  exact⟨rfl,hW⟩
 have HYes:Hid ((∀ k (hk:k < x.guards.length),valN (x.guards[k]'hk) loc env≠0)→∀ W a c,Below w.heap.size w W→sgE.In W (setsTo x.sets env loc x.sets.length) a c→RTkRet (takeS x loc env) w (.returned (.tuple #[.slice a (setsTo x.sets env loc x.sets.length).length c,.bool true])) W):=fun h W a c hW hin=>by
  have:takeS x loc env=some (setsTo x.sets env loc x.sets.length):=by
   unfold takeS
   rw[if_pos]
   rw[List.all_eq_true]
   intro g hg
   obtain⟨k,hk,rfl⟩:=List.getElem_of_mem hg
   have:=h k hk
   simpa using this
  rw[this]
  exact⟨⟨a,c,rfl,hin⟩,hW⟩
 have HI0:Hid (sgE.In w (setsTo x.sets env loc 0) al cl):=by show sgE.In _ _ _ _;rw[H0.out];exact hL
 have HGs:=Lib.hid hg
 have HSs:=Lib.hid hs
 have HGa:Hid (x.guards.length=0∨∃ b off,ag=some ⟨b,off,none⟩):=hg.addr
 have HSa:Hid (x.sets.length=0∨∃ b off,aS=some ⟨b,off,none⟩):=hs.addr
 have hgl:=hg.len
 have hsl:=hx.sl
 unfold edVal
 generalize RTkRet (takeS x loc env) w=Po at HNo HYes⊢
 have HLl:Hid ((setsTo x.sets env loc 0).length=loc.length):=by show _=_;rw[H0.out]
 generalize setsTo x.sets env loc=CU at *
 clear hL hg hs hE ha hx H0
 go_enter Tryz.func53, Tryz.ntmps53
 go_upto_region 1 with fail
 generalize hW2:World.alloc w _=W2
 have HB2:Hid (Below w.heap.size w W2):=by show Below _ _ _;rw[← hW2];exact(Below.refl _ _).alloc (Nat.le_refl _) _
 have HX2:Hid (W2.heap[w.heap.size]? = some (.cells #[.int .i64 x.fr,.int .i64 x.to,.slice ag x.guards.length cg,.slice aS x.sets.length cs] 69 (0,0))):=by show _=_;rw[← hW2];exact hx_newT rfl
 have hz2:w.heap.size+1≤W2.heap.size:=by rw[← hW2];simp
 have HXw:Hid (∀ W,Below W2.heap.size W2 W→W.cell? ⟨w.heap.size,2,none⟩=some (.slice ag x.guards.length cg)∧W.cell? ⟨w.heap.size,3,none⟩=some (.slice aS x.sets.length cs)):=fun W hW=>by
  obtain⟨-,-,x2,x3,-⟩:=cell4B ((hW.block _ (by omega)).trans HX2.out)
  exact⟨x2,x3⟩
 clear hW2 HX2
 go_wp2_with fail
 go_loopw [8] (fun i wr=>∃ k:Nat,i=.int .i64 k∧k≤x.guards.length∧Hid (∀ j (hj:j < x.guards.length),j < k→valN (x.guards[j]'hj) loc env≠0)∧Hid (Below W2.heap.size W2 wr)) (fun i _=>x.guards.length - (intOf i).toNat)
 case atStart=>exact⟨0,rfl,Nat.zero_le _,fun j _ h=>absurd h (Nat.not_lt_zero _),Below.refl _ _⟩
 case round =>
  (try rename World=>wr)
  obtain⟨k,rfl,hk,HN,HBr⟩:=hrel
  have hzr:=HBr.out.size
  have HBw:Hid (Below w.heap.size w wr):=HB2.out.trans (HBr.out.mono HB2.out.size)
  obtain⟨x2,x3⟩:=HXw.out wr HBr.out
  by_cases hlt:k < x.guards.length
  ·have hkl:(k:Int) < x.guards.length:=by omega
   obtain⟨b,off,hb⟩:=HGa.out.resolve_left (by omega)
   subst hb
   obtain⟨a',c',g0,g1,g2,g3,hX⟩:=exE_get (HGs.out.keep (keeps_of_below HBw.out)) rfl hlt
   have HV:=Lib.hid (HVg.out k hlt wr a' c' HBw.out hX)
   have HNn:=Lib.hid (HNo.out k hlt)
   have HNx:Hid (valN (x.guards[k]'hlt) loc env≠0→∀ j (hj:j < x.guards.length),j < k+1→valN (x.guards[j]'hj) loc env≠0):=fun h j hj hjk=>by
    by_cases e:j=k
    ·subst e;exact h
    ·exact HN.out j hj (by omega)
   generalize valN (x.guards[k]'hlt) loc env=gv at HV HNn HNx
   generalize (x.guards[k]'hlt)=y at g0 g1 g2 g3 HV
   clear hX
   by_cases hv:gv=0
   ·have HF:=Lib.hid (HNn.out hv)
    subst hv
    clear HNx HNn
    go_wp2_with (go_at_call 108;go_must (refine HV.out.mono ?_;rintro e w5 ⟨rfl,hb5⟩))
    have HF2:=Lib.hid (HF.out w5 (HBw.out.trans (hb5.mono HBw.out.size)))
    clear hb5
    first | exact HF2.out | (go_ret2;exact HF2.out)
   ·have HN2:=Lib.hid (HNx.out hv)
    have hv2:(gv == 0)=false:=by simpa using hv
    clear HNx HNn hv
    go_wp2_with (go_at_call 108;go_must (refine HV.out.mono ?_;rintro e w5 ⟨rfl,hb5⟩))
    have HB5:Hid (Below W2.heap.size W2 w5):=HBr.out.trans (hb5.mono hzr)
    clear hb5
    go_roundw
    case rel=>exact⟨k+1,by go_num,by omega,HN2.out,HB5.out⟩
    case measure=>(simp[intOf];try omega)
  ·obtain rfl:k=x.guards.length:=by omega
   have HYs:=Lib.hid (HYes.out fun j hj=>HN.out j hj hj)
   clear HN HNo HYes HVg HGs HGa
   rw[← HLl.out]
   go_wp2_with fail
   go_loopw [9,1] (fun i u wd=>∃ (k:Nat) (a:Option Addr) (c:Nat),i=.int .i64 k∧u=.slice a (CU k).length c∧k≤x.sets.length∧Hid (sgE.In wd (CU k) a c)∧Hid (Below W2.heap.size W2 wd)) (fun i _ _=>x.sets.length - (intOf i).toNat)
   case atStart=>exact⟨0,al,cl,rfl,rfl,Nat.zero_le _,HI0.out.keep (keeps_of_below HBw.out),HBr.out⟩
   case round =>
    (try rename World=>wd)
    obtain⟨k,a,c,rfl,rfl,hkk,HId,HBd⟩:=hrel
    have hzd:=HBd.out.size
    have HBwd:Hid (Below w.heap.size w wd):=HB2.out.trans (HBd.out.mono HB2.out.size)
    obtain⟨y2,y3⟩:=HXw.out wd HBd.out
    have hlc:=HLn.out k hkk
    by_cases hltk:k < x.sets.length
    ·have hkl:(k:Int) < x.sets.length:=by omega
     obtain⟨b,off,hb⟩:=HSa.out.resolve_left (by omega)
     subst hb
     obtain⟨a',c',g0,g1,g2,g3,g4,hns,hX⟩:=bdE_get (HSs.out.keep (keeps_of_below HBwd.out)) rfl hltk
     have HV:Hid (∀ W,Below wd.heap.size wd W→Calls Tryz.prog 108 #[.agg #[.int .i64 (x.sets[k]'hltk).expr.op,.int .i64 (x.sets[k]'hltk).expr.n,.string (x.sets[k]'hltk).expr.name,.slice a' (x.sets[k]'hltk).expr.args.length c'],.slice a (CU k).length c,.slice ae env.length ce] W fun e w'=>e=.returned (.int .i64 (valN (x.sets[k]'hltk).expr (CU k) env))∧Below wd.heap.size wd w'):=fun W hW=>(HVs.out k hltk W a' c' a c (HBwd.out.trans (hW.mono HBwd.out.size)) (hX.keep (keeps_of_below hW)) (HId.out.keep (keeps_of_below hW))).mono fun e w' h=>⟨h.1,hW.trans (h.2.mono hW.size)⟩
     have HP:Hid (∀ W,Below wd.heap.size wd W→Calls Tryz.prog 58 #[.slice a (CU k).length c,.string (x.sets[k]'hltk).name,.int .i64 (valN (x.sets[k]'hltk).expr (CU k) env)] W fun e w'=>(∃ a c,e=.returned (.slice a (CU (k+1)).length c)∧sgE.In w' (CU (k+1)) a c)∧Below wd.heap.size wd w'):=fun W hW=>(HPu.out k hltk W a c _ (HId.out.keep (keeps_of_below hW)) rfl).mono fun e w' h=>⟨h.1,hW.trans (h.2.mono hW.size)⟩
     generalize valN (x.sets[k]'hltk).expr (CU k) env=sv at HV HP
     generalize (x.sets[k]'hltk)=y at g0 g1 g2 g3 g4 HV HP
     obtain⟨nm,z⟩:=y
     simp only at g0 g1 g2 g3 g4 HV HP
     have HC:Hid (∀ W,Below wd.heap.size wd W→W.cell? ⟨w.heap.size,3,none⟩=some (.slice (some ⟨b,off,none⟩) x.sets.length cs)∧W.cell? ⟨b,off+k * 5,none⟩=some (.string nm)∧W.cell? ⟨b,off+k * 5+1,none⟩=some (.int .i64 z.op)∧W.cell? ⟨b,off+k * 5+2,none⟩=some (.int .i64 z.n)∧W.cell? ⟨b,off+k * 5+3,none⟩=some (.string z.name)∧W.cell? ⟨b,off+k * 5+4,none⟩=some (.slice a' z.args.length c')):=fun W hW=>⟨keeps_of_below hW _ _ y3,keeps_of_below hW _ _ g0,keeps_of_below hW _ _ g1,keeps_of_below hW _ _ g2,keeps_of_below hW _ _ g3,keeps_of_below hW _ _ g4⟩
     clear hX hns
     go_wp2_with fail
     go_region_held3 (fun W=>Below wd.heap.size wd W∧(W.cell? ⟨w.heap.size,3,none⟩=some (.slice (some ⟨b,off,none⟩) x.sets.length cs)∧W.cell? ⟨b,off+k * 5,none⟩=some (.string nm)∧W.cell? ⟨b,off+k * 5+1,none⟩=some (.int .i64 z.op)∧W.cell? ⟨b,off+k * 5+2,none⟩=some (.int .i64 z.n)∧W.cell? ⟨b,off+k * 5+3,none⟩=some (.string z.name)∧W.cell? ⟨b,off+k * 5+4,none⟩=some (.slice a' z.args.length c')))
      ((refine(fun h=>⟨h,HC.out _ h⟩) ?_;first | with_reducible assumption | exact belR))
      (first
       | (go_at_call 108;(with_reducible refine(HV.out _ (by first | with_reducible assumption | exact belR)).mono ?_);rintro e w4 ⟨rfl,hb4⟩)
       | (go_at_call 58;(with_reducible refine(HP.out _ (by first | with_reducible assumption | exact belR)).mono ?_);rintro e w5 ⟨⟨a5,c5,rfl,hin5⟩,hb5⟩))
     all_goals
      have HB5:Hid (Below W2.heap.size W2 w5):=HBd.out.trans (Below.mono hb5 hzd)
      have HI5:=Lib.hid hin5
      clear hb5 hin5
      go_wp2_with fail
      go_roundw
      case rel=>exact⟨k+1,a5,c5,by go_num,rfl,by omega,HI5.out,HB5.out⟩
      case measure=>(simp[intOf];try omega)
    ·obtain rfl:k=x.sets.length:=by omega
     have HF:=Lib.hid (HYs.out wd a c HBwd.out HId.out)
     go_wp2_with fail
     first | exact HF.out | (go_ret2;exact HF.out)
end Go.Proofs.YthojpomoflhbcaaGreatDoor
