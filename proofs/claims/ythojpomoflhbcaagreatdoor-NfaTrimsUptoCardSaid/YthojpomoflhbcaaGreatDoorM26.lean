/- nfa.Trim. -/
import Derived.Test.YthojpomoflhbcaaGreatDoorM25
import Derived.Test.YthojpomoflhbcaaGreatDoorM23
import Derived.Test.YthojpomoflhbcaaGreatDoorM19
import Derived.Test.YthojpomoflhbcaaGreatDoorM09
import Derived.Deep.CutRange
set_option linter.unusedSimpArgs false
set_option linter.unusedVariables false
set_option linter.unnecessarySimpa false
namespace Go.Proofs.YthojpomoflhbcaaGreatDoor
open Go.RowKit
attribute [local go_sem ↓] Go.wp_at_zero Go.wp_at_succ
def TrimR (p:Nat→Bool) (m:NfaD) (w:World) (e:Ending) (w':World):Prop:=(∃ y:NfaA,e=.returned (.agg #[.int .i64 m.states,.slice y.ae m.edges.length y.ce,.slice y.aa m.accept.length y.ca])∧NfaIn (World.hide w' p) m y)∧Below w.heap.size w w'
theorem nf_res1 (fn:Func) (hr:fn.results=#[.cell 2 33]) (W:World) (tm:Array Value) (b:Nat) (m0 m1 m2:Value) (hW:W.heap[b]? = some (.cells #[m0,m1,m2] 33 (0,0))) (h0:tm.getD 2 undef=.pointer (some ⟨b,0,none⟩)) :
  (results fn tm).run Tryz.prog W=.ok (.agg #[m0,m1,m2]) W:=by
 have c0:=cell_of_blkT hW 0
 have c1:=cell_of_blkT hW 1
 have c2:=cell_of_blkT hW 2
 simp at c0 c1 c2
 rw[results_cellC hr,h0]
 simp[asAddr]
 go_simp
def allT:Nat→Bool:=fun _=>true
theorem own_ne {τ:Type} {E:Enc τ} {t:TypeId} {p:Nat→Bool} {w:World} {B:Nat} {v4:Value} {l:List τ} {g:Nat} {v3:Value} (h4:E.Own t p w B v4 l) (hne:∀ j,v3.ownBlock=some j→v4.ownBlock≠some j) (hat:v3.ownBlock=some g∨w.heap.size < g):v4.ownBlock≠some g:=by
 rcases hat with h | h
 ·exact hne g h
 ·intro e
  have:=(own_vlt h4 g e).2
  omega
set_option maxHeartbeats 16000000 in
set_option maxRecDepth 100000 in
theorem trim_any (p:Nat→Bool) (n:NfaD) (x:NfaA) (w:World) (hx:NfaIn (World.hide w p) n x) (hp:∀ j,p j=true→j < w.heap.size) (hG:Glob w) (hs:SmallN n) :
  Calls Tryz.prog 33 #[nfaVal n x] w (TrimR p (trimS n) w):=by
 have HV:=Lib.hid fun W (hW:Below w.heap.size w W)=>nvalid_any n x W (hG.below hW) ((hx.keep hide_cell).keep (keeps_of_below hW)) hs
 have HXE:=Lib.hid hx.es
 have HXC:=Lib.hid hx.ac
 have hel:=hx.es.len
 have hal:=hx.ac.2.1
 have HEA:Hid (n.edges.length=0∨∃ b off,x.ae=some ⟨b,off,none⟩):=hx.es.addr
 have HCA:Hid (n.accept.length=0∨∃ b off,x.aa=some ⟨b,off,none⟩):=SliceIn.addr hx.ac
 have Hp:=Lib.hid hp
 have HNo:Hid (nfaOk n=false→∀ W,Below w.heap.size w W→TrimR p (trimS n) w (.returned (.agg #[.int .i64 0,.slice none 0 0,.slice none 0 0])) W):=fun h W hb=>by
  unfold trimS;rw[h]
  exact⟨⟨⟨none,0,none,0⟩,rfl,⟨Enc.In.nil _,⟨Nat.le_refl _,by simp,Or.inl rfl⟩⟩⟩,hb⟩
 have HYes:Hid (nfaOk n=true→∀ W (y:NfaA),NfaIn (World.hide W p) (trimAB n (aheadS n) (behindS n)) y→Below w.heap.size w W→TrimR p (trimS n) w (.returned (.agg #[.int .i64 (trimAB n (aheadS n) (behindS n)).states,.slice y.ae (trimAB n (aheadS n) (behindS n)).edges.length y.ce,.slice y.aa (trimAB n (aheadS n) (behindS n)).accept.length y.ca])) W):=fun h W y h1 hb=>by
  unfold trimS;rw[if_pos h]
  exact⟨⟨y,rfl,h1⟩,hb⟩
 generalize TrimR p (trimS n) w=Po at HNo HYes⊢
 clear hx hp hG hs
 simp only[nfaVal_eq] at HV⊢
 obtain⟨xae,xce,xaa,xca⟩:=x
 simp only at HXE HXC hel hal HEA HCA HV⊢
 go_enter Tryz.func33, Tryz.ntmps33
 go_upto_region 1 with fail
 generalize hW2:World.alloc (World.alloc w _) _=W2
 have HB2:Hid (Below w.heap.size w W2):=by show Below _ _ _;rw[← hW2];exact((Below.refl _ _).alloc (Nat.le_refl _) _).alloc (by simp) _
 have HX2:Hid (W2.heap[w.heap.size]? = some (NfBox n ⟨xae,xce,xaa,xca⟩)):=by show _=_;rw[← hW2];exact hx_oldT (hx_newT rfl)
 have HY2:Hid (W2.heap[w.heap.size+1]? = some NfBox0):=by show _=_;rw[← hW2];exact hx_newT (by simp)
 have hz2:w.heap.size+2≤W2.heap.size:=by rw[← hW2];simp
 clear hW2
 obtain⟨b0,b1,b2⟩:=cell3T HX2.out
 go_wp2_with fail
 refine(HV.out _ HB2.out).mono ?_
 rintro e w3 ⟨rfl,hb3⟩
 have HB3:Hid (Below w.heap.size w w3):=HB2.out.trans (hb3.mono HB2.out.size)
 have HX3:Hid (w3.heap[w.heap.size]? = some (NfBox n ⟨xae,xce,xaa,xca⟩)):=(hb3.block _ (by omega)).trans HX2.out
 have HY3:Hid (w3.heap[w.heap.size+1]? = some NfBox0):=(hb3.block _ (by omega)).trans HY2.out
 have hz3:w.heap.size+2≤w3.heap.size:=by have:=hb3.size;omega
 clear hb3 HX2 HY2 HB2 HV b0 b1 b2 hz2
 cases hok:nfaOk n with
 | false =>
  have HN:=Lib.hid (HNo.out hok)
  have hy:w3.heap[w.heap.size+1]? = some (.cells #[.int .i64 0,.slice none 0 0,.slice none 0 0] 33 (0,0)):=HY3.out
  obtain⟨r0,r1,r2⟩:=cell3T hy
  have r0f:w3.frozen? ⟨w.heap.size+1,0,none⟩=false:=by simp[World.frozen?,hy]
  have r1f:w3.frozen? ⟨w.heap.size+1,1,none⟩=false:=by simp[World.frozen?,hy]
  have r2f:w3.frozen? ⟨w.heap.size+1,2,none⟩=false:=by simp[World.frozen?,hy]
  have HY:=Lib.hid hy
  clear hy HYes HNo hok
  go_wp2_with fail
  refine bodyPost_ret (v:=.agg #[.int .i64 0,.slice none 0 0,.slice none 0 0]) (nf_res1 _ rfl _ _ (w.heap.size+1) _ _ _ (set3 HY.out) rfl) rfl ?_
  exact HN.out _ (((HB3.out.setCell (by simp) _).setCell (by simp) _).setCell (by simp) _)
 | true =>
  have HY:=Lib.hid (HYes.out hok)
  have HOk:=Lib.hid hok
  have hst:=(nfaOk_iff.1 hok).1
  obtain⟨st,hste⟩:=Int.eq_ofNat_of_zero_le (show 0≤n.states by omega)
  have hst1:1≤st:=by omega
  have hst2:st≤256:=by omega
  have HSt:=Lib.hid hste
  have HEd:Hid (∀ e∈n.edges,(0≤e.fr∧e.fr < (st:Int))∧0≤e.to∧e.to < (st:Int)):=fun e he=>by
   have:=(edgeOk_iff.1 ((nfaOk_iff.1 hok).2.1 e he)).1
   omega
  have HAc:Hid (∀ a∈n.accept,0≤a∧a < (st:Int)):=fun a ha=>by
   have:=((accB_iff.1 (nfaOk_iff.1 hok).2.2).1 a ha)
   omega
  have hx3:=HX3.out
  unfold NfBox at hx3
  rw[hste] at hx3
  have HX3':=Lib.hid hx3
  clear HYes HNo hok hst hste hx3
  obtain⟨b0,b1,b2⟩:=cell3T HX3'.out
  simp only at b1 b2
  obtain⟨TH,hTH⟩:∃ TH,n.edges.map (fun e=>(e.fr,e.to))=TH:=⟨_,rfl⟩
  obtain⟨BK,hBK⟩:∃ BK,n.edges.map (fun e=>(e.to,e.fr))=BK:=⟨_,rfl⟩
  have HTHs:Hid (∀ k (h:k < n.edges.length),TH.take (k+1)=TH.take k++[((n.edges[k]'h).fr,(n.edges[k]'h).to)]):=fun k h=>by rw[← hTH,← List.map_take,← List.map_take,List.take_succ_eq_append_getElem h,List.map_append];rfl
  have HBKs:Hid (∀ k (h:k < n.edges.length),BK.take (k+1)=BK.take k++[((n.edges[k]'h).to,(n.edges[k]'h).fr)]):=fun k h=>by rw[← hBK,← List.map_take,← List.map_take,List.take_succ_eq_append_getElem h,List.map_append];rfl
  have HTl:Hid (TH.length=n.edges.length∧BK.length=n.edges.length):=by rw[← hTH,← hBK];exact⟨List.length_map _,List.length_map _⟩
  have HTH:=Lib.hid hTH
  have HBK:=Lib.hid hBK
  clear hTH hBK
  go_wp2_with fail
  clear b0 b1 b2
  go_loopw [29,3,4,6] (fun i v3 v4 _ wr=>∃ k:Nat,i=.int .i64 k∧k≤n.edges.length∧Hid (prE.Own 109 allT wr (w.heap.size+2) v3 (TH.take k))∧Hid (prE.Own 109 allT wr (w.heap.size+2) v4 (BK.take k))∧Hid (∀ j,v3.ownBlock=some j→v4.ownBlock≠some j)∧Hid (Below (w.heap.size+2) w3 wr)) (fun i _ _ _ _=>n.edges.length - (intOf i).toNat)
  case atStart=>exact⟨0,rfl,Nat.zero_le _,Enc.Own.nil _ _ _ _ _,Enc.Own.nil _ _ _ _ _,fun j h=>by simp[Value.ownBlock] at h,Below.refl _ _⟩
  case round =>
   (try rename World=>wr)
   obtain⟨k,rfl,hk,HO3,HO4,HNe,HBr⟩:=hrel
   have hzr:=HBr.out.size
   have HBw:Hid (Below w.heap.size w wr):=HB3.out.trans (HBr.out.mono (by omega))
   have HL3:Hid ((TH.take k).length=k):=List.length_take_of_le (by rw[HTl.out.1];exact hk)
   have HL4:Hid ((BK.take k).length=k):=List.length_take_of_le (by rw[HTl.out.2];exact hk)
   obtain⟨a3,c3,hv3,hs3'⟩:=HO3.out.slice (by rw[HL3.out];omega)
   obtain⟨a4,c4,hv4,hs4'⟩:=HO4.out.slice (by rw[HL4.out];omega)
   rw[HL3.out] at hv3
   rw[HL4.out] at hv4
   subst hv3 hv4
   by_cases hlt:k < n.edges.length
   ·obtain⟨bf,of,hfa⟩:=HEA.out.resolve_left (by omega)
    subst hfa
    obtain⟨ag,cg,aS,cs,g0,g1,g2,g3,h1,h2⟩:=edE_get (HXE.out.keep (hide_below (q:=p) HBw.out fun _ _ h=>h)) rfl hlt
    have e0:=hide_cell _ _ g0
    have e1:=hide_cell _ _ g1
    have e2:=hide_cell _ _ g2
    have e3:=hide_cell _ _ g3
    have HT1:=Lib.hid (HTHs.out k hlt)
    have HT2:=Lib.hid (HBKs.out k hlt)
    clear g0 g1 g2 g3 h1 h2 hs3' hs4'
    generalize (n.edges[k]'hlt)=y at e0 e1 e2 e3 HT1 HT2
    go_upto_region 7 with fail
    generalize hW5:World.alloc wr _=W5
    have hB5:Below wr.heap.size wr W5:=by rw[← hW5];exact(Below.refl _ _).alloc (Nat.le_refl _) _
    have hy5:W5.heap[wr.heap.size]? = some (.cells #[.int .i64 y.fr,.int .i64 y.to,.slice ag y.guards.length cg,.slice aS y.sets.length cs] 69 (0,0)):=by rw[← hW5];exact hx_newT rfl
    have hz5:wr.heap.size < W5.heap.size:=lt_of_block hy5
    obtain⟨y0,y1,-,-,-⟩:=cell4B hy5
    have HY5:=Lib.hid hy5
    have HO35:=Lib.hid (HO3.out.below hB5)
    have HO45:=Lib.hid (HO4.out.below hB5)
    have HB5:=Lib.hid hB5
    clear hW5 hB5 hy5 e0 e1 e2 e3
    go_wp2_with (at_builtin;go_must (refine own_addE (E:=prE) elemPR _ rfl (.tmp 33) (.tmp 39) rfl allT (w.heap.size+2) _ rfl HO35.out (y.fr,y.to) [.int .i64 y.fr,.int .i64 y.to] rfl _ _ rfl rfl k HL3.out (by omega) (by omega) ?_))
    intro g7 cap7 w7 ho7 hg7 hat7
    have hne7:=own_ne HO45.out HNe.out hat7
    have HO47:Hid (prE.Own 109 allT w7 (w.heap.size+2) (.slice a4 k c4) (BK.take k)):=HO45.out.grown hg7 fun j hj=>⟨rfl,HNe.out j hj⟩
    have hy7:w7.heap[wr.heap.size]? = some (.cells #[.int .i64 y.fr,.int .i64 y.to,.slice ag y.guards.length cg,.slice aS y.sets.length cs] 69 (0,0)):=(hg7.block _ hz5 fun e=>by have:=(own_vlt HO3.out _ e.symm).2;omega).trans HY5.out
    obtain⟨y0,y1,-,-,-⟩:=cell4B hy7
    have HO37:Hid (prE.Own 109 allT w7 (w.heap.size+2) (.slice (some ⟨g7,0,none⟩) (k+1) cap7) (TH.take (k+1))):=by show prE.Own _ _ _ _ _ _;rw[HT1.out];exact ho7
    have HB7:Hid (Below (w.heap.size+2) w3 w7):=(HBr.out.trans (HB5.out.mono (by omega))).grown hg7 (by omega) fun j hj=>(own_vlt HO3.out j hj).1
    have hz7:w.heap.size+2≤w7.heap.size:=by have:=HB7.out.size;omega
    clear ho7 hg7 hat7 hy7
    go_wp2_with (at_builtin;go_must (refine own_addE (E:=prE) elemPR _ rfl (.tmp 41) (.tmp 47) rfl allT (w.heap.size+2) _ rfl HO47.out (y.to,y.fr) [.int .i64 y.to,.int .i64 y.fr] rfl _ _ rfl rfl k HL4.out (by omega) (by omega) ?_))
    intro g8 cap8 w8 ho8 hg8 hat8
    have HO38:Hid (prE.Own 109 allT w8 (w.heap.size+2) (.slice (some ⟨g7,0,none⟩) (k+1) cap7) (TH.take (k+1))):=HO37.out.grown hg8 fun j hj=>⟨rfl,fun e=>hne7 (by rw[hj,← e];rfl)⟩
    have HO48:Hid (prE.Own 109 allT w8 (w.heap.size+2) (.slice (some ⟨g8,0,none⟩) (k+1) cap8) (BK.take (k+1))):=by show prE.Own _ _ _ _ _ _;rw[HT2.out];exact ho8
    have HNe8:Hid (∀ j,(Value.slice (some ⟨g7,0,none⟩) (k+1) cap7).ownBlock=some j→(Value.slice (some ⟨g8,0,none⟩) (k+1) cap8).ownBlock≠some j):=fun j hj e=>by
     have e1:=Option.some.inj hj
     have e2:=Option.some.inj e
     simp only at e1 e2
     rcases hat8 with h | h
     ·exact hne7 (by rw[h,e2,← e1])
     ·have:=(own_vlt HO37.out g7 rfl).2
      omega
    have HB8:Hid (Below (w.heap.size+2) w3 w8):=HB7.out.grown hg8 (by omega) fun j hj=>(own_vlt HO47.out j hj).1
    clear ho8 hg8 hat8 hne7 y0 y1
    go_wp2_with fail
    go_roundw
    case rel=>exact⟨k+1,by go_num,by omega,HO38.out,HO48.out,HNe8.out,HB8.out⟩
    case measure=>(simp[intOf];try omega)
   ·obtain rfl:k=n.edges.length:=by omega
    have HI3:Hid (prE.In wr TH a3 c3):=by
     show prE.In _ _ _ _
     rwa [← HTl.out.1,List.take_length] at hs3'
    have HI4:Hid (prE.In wr BK a4 c4):=by
     show prE.In _ _ _ _
     rwa [← HTl.out.2,List.take_length] at hs4'
    have hbx:=(HBr.out.block w.heap.size (by omega)).trans HX3'.out
    obtain⟨b0,b1,b2⟩:=cell3T hbx
    (try simp only at b1 b2)
    have HX:=Lib.hid hbx
    have HYr:Hid (wr.heap[w.heap.size+1]? = some NfBox0):=(HBr.out.block _ (by omega)).trans HY3.out
    obtain⟨A,hA⟩:∃ A,aheadS n=A:=⟨_,rfl⟩
    obtain⟨Z,hZ⟩:∃ Z,behindS n=Z:=⟨_,rfl⟩
    have HAl:Hid (A.length=st∧Z.length=st):=by rw[← hA,← hZ,ahead_len,behind_len,HSt.out,Int.toNat_natCast];exact⟨rfl,rfl⟩
    have HRe1:Hid (∀ W kb,Below wr.heap.size wr W→W.cell? ⟨kb,0,none⟩=some (.int .i64 0)→Calls Tryz.prog 70 #[.int .i64 st,.slice (some ⟨kb,0,none⟩) 1 1,.slice a3 n.edges.length c3] W fun e w'=>∃ bA,e=.returned (.slice (some ⟨bA,0,none⟩) st st)∧wr.heap.size≤bA∧BRow w' bA A∧Below W.heap.size W w'∧Below wr.heap.size wr w'):=fun W kb hW hc=>by
     have h:=reached_any st (by omega) [0] (some ⟨kb,0,none⟩) 1 TH a3 c3 W ⟨Nat.le_refl _,by simp,Or.inr ⟨kb,0,rfl,fun i hi=>by
      have hi0:i=0:=by simpa using hi
      subst hi0
      exact⟨0,rfl,hc⟩⟩⟩ (fun x hx=>by obtain rfl:=List.mem_singleton.1 hx;omega) (HI3.out.keep (keeps_of_below hW)) (fun pr hpr=>by
       rw[← HTH.out] at hpr
       obtain⟨e,he,rfl⟩:=List.mem_map.1 hpr
       exact HEd.out e he)
     rw[HTl.out.1] at h
     refine h.mono ?_
     rintro e w' ⟨rfl,h1,h2⟩
     refine⟨_,rfl,hW.size,?_,h2,hW.trans (h2.mono hW.size)⟩
     rw[← hA]
     unfold aheadS
     rw[← nnP_there,HTH.out,HSt.out,Int.toNat_natCast]
     exact h1
    have HRe2:Hid (∀ W,Below wr.heap.size wr W→Calls Tryz.prog 70 #[.int .i64 st,.slice xaa n.accept.length xca,.slice a4 n.edges.length c4] W fun e w'=>∃ bA,e=.returned (.slice (some ⟨bA,0,none⟩) st st)∧wr.heap.size≤bA∧BRow w' bA Z∧Below W.heap.size W w'∧Below wr.heap.size wr w'):=fun W hW=>by
     have h:=reached_any st (by omega) n.accept xaa xca BK a4 c4 W ((HXC.out.keep hide_cell).keep (keeps_of_below (HBw.out.trans (hW.mono HBw.out.size)))) (fun x hx=>HAc.out x hx) (HI4.out.keep (keeps_of_below hW)) (fun pr hpr=>by
       rw[← HBK.out] at hpr
       obtain⟨e,he,rfl⟩:=List.mem_map.1 hpr
       exact⟨(HEd.out e he).2,(HEd.out e he).1⟩)
     rw[HTl.out.2] at h
     refine h.mono ?_
     rintro e w' ⟨rfl,h1,h2⟩
     refine⟨_,rfl,hW.size,?_,h2,hW.trans (h2.mono hW.size)⟩
     rw[← hZ]
     unfold behindS
     rw[← nnP_back,HBK.out,HSt.out,Int.toNat_natCast]
     exact h1
    have HCs:Hid (∀ W,Below wr.heap.size wr W→W.cell? ⟨w.heap.size,0,none⟩=some (.int .i64 st)∧W.cell? ⟨w.heap.size,2,none⟩=some (.slice xaa n.accept.length xca)):=fun W hW=>⟨keeps_of_below hW _ _ b0,keeps_of_below hW _ _ b2⟩
    have B0:∀ o,(wr.alloc o).cell? ⟨w.heap.size,0,none⟩=some (.int .i64 st):=fun o=>Lib.cell?_alloc_some _ b0
    have B2:∀ o,(wr.alloc o).cell? ⟨w.heap.size,2,none⟩=some (.slice xaa n.accept.length xca):=fun o=>Lib.cell?_alloc_some _ b2
    have HA:=Lib.hid hA
    have HZ:=Lib.hid hZ
    clear hs3' hs4' hbx hA hZ HO3 HO4 HNe HL3 HL4 b1
    go_upto_region 10 with fail
    go_cut [7,8] from 50 to 60 (fun s7 s8 wx=>∃ bA bB:Nat,s7=.slice (some ⟨bA,0,none⟩) st st∧s8=.slice (some ⟨bB,0,none⟩) st st∧Hid (BRow wx bA A)∧Hid (BRow wx bB Z)∧Hid (wr.heap.size≤bA∧wr.heap.size≤bB)∧Hid (Below wr.heap.size wr wx))
    case first =>
     go_region_law (first
      | (go_simp;(fail_if_success (have q9:=hb1));go_at_call 70;(with_reducible refine(HRe1.out _ _ (by first | with_reducible assumption | exact belR) (by first | (simp;done) | (simp[World.cell?];done))).mono ?_);rintro e v1 ⟨bA,rfl,hbA,hrA,hb1,hB1⟩;obtain⟨j0,j2⟩:=HCs.out _ hB1;have J0:=fun o=>Lib.cell?_alloc_some o j0;have J2:=fun o=>Lib.cell?_alloc_some o j2;have HRA:=Lib.hid hrA;clear hrA)
      | (go_simp;(have q9:=hb1);go_at_call 70;(with_reducible refine(HRe2.out _ (by first | with_reducible assumption | exact belR)).mono ?_);rintro e v2 ⟨bB,rfl,hbB,hrB,hb2,hB2⟩;have HRB:=Lib.hid hrB;clear hrB q9))
     all_goals
      have HRA2:Hid (BRow v2 bA A):=HRA.out.below (by first | with_reducible assumption | (refine Below.trans ?_ (Below.mono hb2 ?_);· exact belR;· first | omega | (simp;omega) | simp))
      have HB2f:=Lib.hid hB2
      go_wp2_with fail
      go_meet
      case rel=>exact⟨bA,bB,rfl,rfl,HRA2,HRB,⟨hbA,hbB⟩,HB2f⟩
    case rest =>
     obtain⟨bA,bB,e7,e8,HRA,HRB,HbA,HBc⟩:=hcut
     subst e7 e8
     clear HRe1 HRe2 HCs B0 B2 b0 b2 HI3 HI4 HTH HBK HTHs HBKs HTl
     have hmm:=@run_makeMap Tryz.prog
     have hxc:=(HBc.out.block _ (lt_of_block HX.out)).trans HX.out
     obtain⟨b0,b1,b2⟩:=cell3T hxc
     (try simp only at b1 b2)
     have B0:∀ o,(wc.alloc o).cell? ⟨w.heap.size,0,none⟩=some (.int .i64 st):=fun o=>Lib.cell?_alloc_some _ b0
     clear hxc
     go_wp2_with fail
     have HM0:Hid (MapV (wc.alloc (.map #[] 0)) Tryz.prog 3 wc.heap.size (numK A Z 0) (numF A Z 0)):=by
      show MapV _ _ _ _ _ _
      rw[show numK A Z 0=0 from numK_zero]
      exact(MapV.made wc _ _).congr (numF_zero A Z)
     have HBm:Hid (Below wc.heap.size wc (wc.alloc (.map #[] 0))):=(Below.refl _ _).alloc (Nat.le_refl _) _
     clear b0 b1 b2 B0 hmm
     go_loopw [64,10] (fun i _ wr=>∃ k:Nat,i=.int .i64 k∧k≤st∧Hid (MapV wr Tryz.prog 3 wc.heap.size (numK A Z k) (numF A Z k))∧Hid (Below wc.heap.size wc wr)) (fun i _ _=>st - (intOf i).toNat)
     case atStart=>exact⟨0,rfl,Nat.zero_le _,HM0,HBm⟩
     case round =>
      clear HM0 HBm
      obtain⟨k,rfl,hk,HM,HBk⟩:=hrel
      by_cases hlt:k < st
      ·have HKs:=Lib.hid (numK_succ A Z k)
       have c0:=(HRA.out.below HBk.out).cell (i:=k) (by rw[HAl.out.1];exact hlt)
       have c1:=(HRB.out.below HBk.out).cell (i:=k) (by rw[HAl.out.2];exact hlt)
       have HKd:Hid (keptS A Z k=(k == 0 || (A.getD k false && Z.getD k false))):=rfl
       generalize A.getD k false=va at c0 HKd
       generalize Z.getD k false=vz at c1 HKd
       have hgo:((k=0∨(¬ k=0∧va=true∧vz=true))∧keptS A Z k=true)∨(((¬ k=0∧va=true∧vz=false)∨(¬ k=0∧va=false))∧keptS A Z k=false):=by
        rw[HKd.out]
        by_cases h0:k=0
        ·subst h0;left;exact⟨Or.inl rfl,by simp⟩
        ·cases va<;>cases vz<;>simp[h0]
       clear HKd
       rcases hgo with ⟨hc,hkp⟩ | ⟨hc,hkp⟩
       ·have HP:=Lib.hid (numF_put hkp)
        have HNk:Hid (numK A Z (k+1)=numK A Z k+1):=by show _=_;rw[HKs.out,if_pos hkp]
        have hnl:=numK_le A Z k
        rcases hc with h0 | ⟨h0,h1,h2⟩
        ·subst h0
         go_wp2_with (first | (at_len;refine wp_mapV_len _ rfl _ 112 3 3 rfl (by kernel_rfl) rfl HM.out ?_) | (at_mapUpdate;go_must (refine wp_mapV_put _ rfl _ _ _ 112 3 rfl keyed_intT (by kernel_rfl) rfl HM.out (by omega) _ _ _ rfl rfl (key_intT (i:=0) (by omega)) trivial ?_);intro w7 hM7 hg7))
         have hM8:MapV w7 Tryz.prog 3 wc.heap.size (numK A Z 0+if (numF A Z 0 (.int .i64 ((0:Nat):Int))).isSome then 0 else 1) (putL (numF A Z 0) (.int .i64 ((0:Nat):Int)) (some (.int .i64 (numK A Z 0:Nat)))):=hM7
         rw[numF_new] at hM8
         have HM7:Hid (MapV w7 Tryz.prog 3 wc.heap.size (numK A Z 1) (numF A Z 1)):=by
          show MapV _ _ _ _ _ _
          rw[show numK A Z 1=numK A Z 0+1 from HNk.out]
          exact hM8.congr HP.out
         have HB7:Hid (Below wc.heap.size wc w7):=HBk.out.grown hg7 HBk.out.size fun j hj=>by have:=Option.some.inj hj;omega
         clear hM7 hM8 hg7
         go_wp2_with fail
         go_roundw
         case rel=>exact⟨1,by go_num,by omega,HM7.out,HB7.out⟩
         case measure=>(simp[intOf];try omega)
        ·subst h1 h2
         have h0b:((k:Int) == 0)=false:=by simp;omega
         have h0c:¬ ((k:Int)=0):=by omega
         go_wp2_with (first | (at_len;refine wp_mapV_len _ rfl _ 112 3 3 rfl (by kernel_rfl) rfl HM.out ?_) | (at_mapUpdate;go_must (refine wp_mapV_put _ rfl _ _ _ 112 3 rfl keyed_intT (by kernel_rfl) rfl HM.out (by omega) _ _ _ rfl rfl (key_intT (i:=k) (by omega)) trivial ?_);intro w7 hM7 hg7))
         rw[numF_new] at hM7
         have HM7:Hid (MapV w7 Tryz.prog 3 wc.heap.size (numK A Z (k+1)) (numF A Z (k+1))):=by
          show MapV _ _ _ _ _ _
          rw[HNk.out]
          exact hM7.congr HP.out
         have HB7:Hid (Below wc.heap.size wc w7):=HBk.out.grown hg7 HBk.out.size fun j hj=>by have:=Option.some.inj hj;omega
         clear hM7 hg7
         go_wp2_with fail
         go_roundw
         case rel=>exact⟨k+1,by go_num,by omega,HM7.out,HB7.out⟩
         case measure=>(simp[intOf];try omega)
       ·have HNk:Hid (numK A Z (k+1)=numK A Z k):=by show _=_;rw[HKs.out,if_neg (by rw[hkp];simp)];rfl
        have HMn:Hid (MapV wr Tryz.prog 3 wc.heap.size (numK A Z (k+1)) (numF A Z (k+1))):=by
         show MapV _ _ _ _ _ _
         rw[HNk.out]
         exact HM.out.congr (numF_skip hkp)
        have h0:¬ k=0:=by rcases hc with h | h<;>exact h.1
        have h0b:((k:Int) == 0)=false:=by simp;omega
        have h0c:¬ ((k:Int)=0):=by omega
        rcases hc with ⟨-,h1,h2⟩ | ⟨-,h1⟩
        ·subst h1 h2
         go_wp2_with fail
         go_roundw
         case rel=>exact⟨k+1,by go_num,by omega,HMn.out,HBk.out⟩
         case measure=>(simp[intOf];try omega)
        ·subst h1
         go_wp2_with fail
         go_roundw
         case rel=>exact⟨k+1,by go_num,by omega,HMn.out,HBk.out⟩
         case measure=>(simp[intOf];try omega)
      ·obtain rfl:st=k:=by omega
       have hbx:=(HBk.out.block _ (lt_of_block ((HBc.out.block _ (lt_of_block HX.out)).trans HX.out))).trans ((HBc.out.block _ (lt_of_block HX.out)).trans HX.out)
       obtain⟨-,b1,b2⟩:=cell3T hbx
       (try simp only at b1 b2)
       have B1:∀ o,(wr.alloc o).cell? ⟨w.heap.size,1,none⟩=some (.slice xae n.edges.length xce):=fun o=>Lib.cell?_alloc_some _ b1
       have HXk:=Lib.hid hbx
       clear hbx
       go_wp2_with (at_len;refine wp_mapV_len _ rfl _ 112 3 3 rfl (by kernel_rfl) rfl HM.out ?_)
       generalize hW8:World.alloc wr _=W8
       have HB8:Hid (Below wr.heap.size wr W8):=by show Below _ _ _;rw[← hW8];exact(Below.refl _ _).alloc (Nat.le_refl _) _
       have HO8:Hid (W8.heap[wr.heap.size]? = some (.cells #[.int .i64 (numK A Z st:Nat),.slice none 0 0,.slice none 0 0] 33 (0,0))):=by show _=_;rw[← hW8];exact hx_newT rfl
       have HM8:Hid (MapV W8 Tryz.prog 3 wc.heap.size (numK A Z st) (numF A Z st)):=HM.out.below HB8.out
       have HBc8:Hid (Below wc.heap.size wc W8):=HBk.out.trans (HB8.out.mono HBk.out.size)
       have HRA8:Hid (BRow W8 bA A):=HRA.out.below HBc8.out
       have HRB8:Hid (BRow W8 bB Z):=HRB.out.below HBc8.out
       have HX8:Hid (W8.heap[w.heap.size]? = some (.cells #[.int .i64 st,.slice xae n.edges.length xce,.slice xaa n.accept.length xca] 33 (0,0))):=(HB8.out.block _ (lt_of_block HXk.out)).trans HXk.out
       have HBw8:Hid (Below w.heap.size w W8):=HBw.out.trans ((HBc.out.trans (HBc8.out.mono HBc.out.size)).mono HBw.out.size)
       have hz8:w.heap.size+2≤wr.heap.size:=by
        have h1:=HBk.out.size
        have h2:=HBc.out.size
        omega
       have HY8:Hid (W8.heap[w.heap.size+1]? = some NfBox0):=(HBc8.out.block _ (by have:=HBc.out.size;omega)).trans ((HBc.out.block _ (by omega)).trans HYr.out)
       have hmlt:wc.heap.size < wr.heap.size:=HM.out.lt
       have hAlt:bA < wr.heap.size:=by have:=lt_of_block HRA.out;have:=HBk.out.size;omega
       have hBlt:bB < wr.heap.size:=by have:=lt_of_block HRB.out;have:=HBk.out.size;omega
       obtain⟨Bo,hBo⟩:∃ Bo,wr.heap.size=Bo:=⟨_,rfl⟩
       rw[hBo] at HO8 hz8 hmlt hAlt hBlt⊢
       have hzo:Bo < W8.heap.size:=lt_of_block HO8.out
       clear hW8 HM HBk HRA HRB HXk HYr HBc8 HB8 b1 b2 B1
       obtain⟨q,hq⟩:∃ q:Nat→Bool,(fun j=>p j || (j == w.heap.size+1) || (j == Bo))=q:=⟨_,rfl⟩
       have Q:Hid (∀ j,q j=true↔p j=true∨j=w.heap.size+1∨j=Bo):=fun j=>by rw[← hq];simp[or_assoc]
       have HQl:Hid (∀ j,q j=true→j < Bo+1):=fun j hj=>by
        rcases (Q.out j).1 hj with h | h | h
        ·have:=Hp.out j h;omega
        ·omega
        ·omega
       have HKq:Hid (∀ W v,Below w.heap.size w W→(∀ j,Value.ownBlock v=some j→w.heap.size≤j)→Kp (World.hide w p) (World.hide W (hid q v))):=fun W v hb hv=>hide_below hb fun j hj h=>(hid_true.1 h).elim (fun h=>((Q.out j).1 h).elim id fun e=>by omega) fun e=>by have:=hv j e;omega
       clear hq
       obtain⟨EL,HEL⟩:∃ EL:Nat→List EdgeD,Hid (∀ m,EL m=((n.edges.take m).filter (goodE A Z)).map (trimE A Z)):=⟨_,fun _=>rfl⟩
       have HEL0:Hid (EL 0=[]):=by show _=_;rw[HEL.out];simp
       have HELs:Hid (∀ m (h:m < n.edges.length),EL (m+1)=EL m++(if goodE A Z (n.edges[m]'h)=true then [mvE (n.edges[m]'h) (numK A Z (n.edges[m]'h).fr.toNat:Nat) (numK A Z (n.edges[m]'h).to.toNat:Nat)] else [])):=fun m h=>by
        rw[HEL.out,HEL.out,List.take_succ_eq_append_getElem h,List.filter_append,List.map_append]
        congr 1
        by_cases hg:goodE A Z (n.edges[m]'h)=true
        ·rw[List.filter_cons,if_pos hg,if_pos hg];rfl
        ·rw[List.filter_cons,if_neg hg,if_neg hg];rfl
       have HELl:Hid (∀ m,(EL m).length≤m):=fun m=>by
        rw[HEL.out,List.length_map]
        exact Nat.le_trans (List.length_filter_le _ _) (by rw[List.length_take];omega)
       have HELe:Hid (EL n.edges.length=(trimAB n A Z).edges):=by show _=_;rw[HEL.out,List.take_length];rfl
       have HGd:Hid (∀ e∈n.edges,goodE A Z e=(keptS A Z e.fr.toNat && keptS A Z e.to.toNat && A.getD e.fr.toNat false && Z.getD e.fr.toNat false && Z.getD e.to.toNat false)):=fun e he=>by rw[← HA.out,← HZ.out];exact trim_cond HOk.out he
       clear HEL
       go_loopw [92,13,14,15,16,17] (fun i _ _ _ _ _ wr=>∃ (m:Nat) (ve:Value),i=.int .i64 m∧m≤n.edges.length∧Hid (wr.heap[Bo]? = some (.cells #[.int .i64 (numK A Z st:Nat),ve,.slice none 0 0] 33 (0,0)))∧Hid (edE.Own 69 q wr (Bo+1) ve (EL m))∧Hid (Below Bo W8 wr)) (fun i _ _ _ _ _ _=>n.edges.length - (intOf i).toNat)
       case atStart=>exact⟨0,.slice none 0 0,rfl,Nat.zero_le _,HO8,by show edE.Own _ _ _ _ _ _;rw[HEL0.out];exact Enc.Own.nil _ _ _ _ _,Below.refl _ _⟩
       case round =>
        (try rename World=>wr)
        obtain⟨m,ve,rfl,hm,HB,HO,HBr⟩:=hrel
        have hzr:=lt_of_block HB.out
        have HBwr:Hid (Below w.heap.size w wr):=HBw8.out.trans (HBr.out.mono (by omega))
        have hell:=HELl.out m
        obtain⟨va,vc,hv,hsl⟩:=HO.out.slice (by omega)
        obtain⟨L,HL⟩:∃ L,Hid ((EL m).length=L):=⟨_,rfl⟩
        rw[HL.out] at hv hell
        subst hv
        have HVo:Hid (∀ j,(Value.slice va L vc).ownBlock=some j→Bo+1≤j∧j < wr.heap.size):=own_vlt HO.out
        have HQw:Hid (∀ j,hid q (.slice va L vc) j=true→j < wr.heap.size):=fun j hj=>(hid_true.1 hj).elim (fun h=>by have:=HQl.out j h;omega) fun e=>(HVo.out j e).2
        have HMr:Hid (MapV wr Tryz.prog 3 wc.heap.size (numK A Z st) (numF A Z st)):=HM8.out.belowB HBr.out hmlt
        have HRAr:Hid (BRow wr bA A):=(HBr.out.block _ hAlt).trans HRA8.out
        have HRBr:Hid (BRow wr bB Z):=(HBr.out.block _ hBlt).trans HRB8.out
        by_cases hlt:m < n.edges.length
        ·obtain⟨bf,of,hfa⟩:=HEA.out.resolve_left (by omega)
         subst hfa
         obtain⟨ag,cg,aS,cs,g0,g1,g2,g3,h1,h2⟩:=edE_get (HXE.out.keep (HKq.out wr (.slice va L vc) HBwr.out fun j hj=>by have:=(HVo.out j hj).1;omega)) rfl hlt
         have e0:=hide_cell _ _ g0
         have e1:=hide_cell _ _ g1
         have e2:=hide_cell _ _ g2
         have e3:=hide_cell _ _ g3
         have HS:=Lib.hid (HELs.out m hlt)
         have HGm:=Lib.hid (HGd.out _ (List.getElem_mem hlt))
         obtain⟨⟨x0,x1⟩,y0,y1⟩:=HEd.out _ (List.getElem_mem hlt)
         have H1:=Lib.hid h1
         have H2:=Lib.hid h2
         clear g0 g1 g2 g3 h1 h2 hsl
         generalize (n.edges[m]'hlt)=y at e0 e1 e2 e3 HS HGm x0 x1 y0 y1 H1 H2
         obtain⟨yf,yt,yg,ys⟩:=y
         simp only at e0 e1 e2 e3 x0 x1 y0 y1 H1 H2
         obtain⟨fn,rfl⟩:=Int.eq_ofNat_of_zero_le x0
         obtain⟨tn,rfl⟩:=Int.eq_ofNat_of_zero_le y0
         simp only[Int.toNat_natCast] at HS HGm
         have hfn:fn < st:=by omega
         have htn:tn < st:=by omega
         go_upto_region 22 with fail
         generalize hW5:World.alloc wr _=W5
         have hB5:Below wr.heap.size wr W5:=by rw[← hW5];exact(Below.refl _ _).alloc (Nat.le_refl _) _
         have hy5:W5.heap[wr.heap.size]? = some (.cells #[.int .i64 fn,.int .i64 tn,.slice ag yg.length cg,.slice aS ys.length cs] 69 (0,0)):=by rw[← hW5];exact hx_newT rfl
         have HB5:=Lib.hid hB5
         have HY5:=Lib.hid hy5
         have hs5:=lt_of_block hy5
         obtain⟨q0,q1,q2,q3,-⟩:=cell4B hy5
         have HM5:Hid (MapV W5 Tryz.prog 3 wc.heap.size (numK A Z st) (numF A Z st)):=HMr.out.below hB5
         have cA:=(HRAr.out.below hB5).cell (i:=fn) (by rw[HAl.out.1];exact hfn)
         have cB:=(HRBr.out.below hB5).cell (i:=fn) (by rw[HAl.out.2];exact hfn)
         have cC:=(HRBr.out.below hB5).cell (i:=tn) (by rw[HAl.out.2];exact htn)
         have HF1:=Lib.hid (numF_at A Z hfn)
         have HF2:=Lib.hid (numF_at A Z htn)
         clear hW5 hB5 hy5 e0 e1 e2 e3
         have HNg:Hid (goodE A Z ⟨fn,tn,yg,ys⟩=false→EL (m+1)=EL m):=fun h=>by rw[HS.out,h];simp
         have HNw:Hid (goodE A Z ⟨fn,tn,yg,ys⟩=false→edE.Own 69 q W5 (Bo+1) (.slice va L vc) (EL (m+1))∧Below Bo W8 W5∧W5.heap[Bo]? = some (.cells #[.int .i64 (numK A Z st:Nat),.slice va L vc,.slice none 0 0] 33 (0,0))):=fun h=>by
          rw[HNg.out h]
          exact⟨HO.out.below HB5.out,HBr.out.trans (HB5.out.mono (by omega)),(HB5.out.block _ hzr).trans HB.out⟩
         clear HNg
         have hbb:goodE A Z ⟨fn,tn,yg,ys⟩=(keptS A Z fn && keptS A Z tn && A.getD fn false && Z.getD fn false && Z.getD tn false):=HGm.out
         clear HGm
         rw[hbb] at HNw
         rw[hbb] at HS
         clear hbb
         generalize hk1:keptS A Z fn=k1 at HF1 HNw HS
         generalize hk2:keptS A Z tn=k2 at HF2 HNw HS
         generalize hA1:A.getD fn false=a1 at cA HNw HS
         generalize hZ1:Z.getD fn false=z1 at cB HNw HS
         generalize hZ2:Z.getD tn false=z2 at cC HNw HS
         clear hk1 hk2 hA1 hZ1 hZ2
         have hgo:(k1=true∧k2=true∧a1=true∧z1=true∧z2=true)∨((k1 && k2 && a1 && z1 && z2)=false∧((k1=false∧k2=false)∨(k1=false∧k2=true)∨(k1=true∧k2=false)∨(k1=true∧k2=true∧a1=false)∨(k1=true∧k2=true∧a1=true∧z1=false)∨(k1=true∧k2=true∧a1=true∧z1=true∧z2=false))):=by
          cases k1<;>cases k2<;>cases a1<;>cases z1<;>cases z2<;>simp
         rcases hgo with ⟨rfl,rfl,rfl,rfl,rfl⟩ | ⟨hg,hgo⟩
         ·rw[if_pos rfl] at HF1 HF2
          have HS':Hid (EL (m+1)=EL m++[(⟨(numK A Z fn:Nat),(numK A Z tn:Nat),yg,ys⟩:EdgeD)]):=by show _=_;rw[HS.out];simp[mvE]
          have hbo5:W5.heap[Bo]? = some (.cells #[.int .i64 (numK A Z st:Nat),.slice va L vc,.slice none 0 0] 33 (0,0)):=(HB5.out.block _ hzr).trans HB.out
          clear HNw HS
          go_upto_region 25 with (first
          | (at_lookup;refine wp_mapV_some _ rfl _ _ 112 3 rfl keyed_intT (by kernel_rfl) (zero_intT _) rfl HM5.out _ _ rfl (key_intT (i:=fn) (by omega)) _ HF1.out ?_)
          | (at_lookup;refine wp_mapV_some _ rfl _ _ 112 3 rfl keyed_intT (by kernel_rfl) (zero_intT _) rfl HM5.out _ _ rfl (key_intT (i:=tn) (by omega)) _ HF2.out ?_)
          | (at_lookup;refine wp_mapV_none _ rfl _ _ 112 3 rfl keyed_intT (by kernel_rfl) (zero_intT _) rfl HM5.out _ _ rfl (key_intT (i:=fn) (by omega)) HF1.out ?_)
          | (at_lookup;refine wp_mapV_none _ rfl _ _ 112 3 rfl keyed_intT (by kernel_rfl) (zero_intT _) rfl HM5.out _ _ rfl (key_intT (i:=tn) (by omega)) HF2.out ?_))
          generalize numK A Z fn=nf at HF1 HS'⊢
          generalize numK A Z tn=nt at HF2 HS'⊢
          obtain⟨-,i1,-⟩:=cell3T hbo5
          have f1:W5.frozen? ⟨Bo,1,none⟩=false:=by simp[World.frozen?,hbo5]
          have HBo5:=Lib.hid hbo5
          have HO5:=Lib.hid (HO.out.below HB5.out)
          have HCp:Hid (∀ W,Below W5.heap.size W5 W→Calls Tryz.prog 71 #[.agg #[.int .i64 fn,.int .i64 tn,.slice ag yg.length cg,.slice aS ys.length cs],.int .i64 nf,.int .i64 nt] W fun e w'=>(∃ ag' cg' aS' cs',e=.returned (.agg #[.int .i64 nf,.int .i64 nt,.slice ag' yg.length cg',.slice aS' ys.length cs'])∧exE.In (World.hide w' (hid q (.slice va L vc))) yg ag' cg'∧bdE.In (World.hide w' (hid q (.slice va L vc))) ys aS' cs')∧Below W.heap.size W w'∧Below W5.heap.size W5 w'):=fun W hW=>by
           have hWr:=HB5.out.trans (hW.mono HB5.out.size)
           refine(ncopied_any (hid q (.slice va L vc)) ⟨fn,tn,yg,ys⟩ ag cg aS cs nf nt W (fun j hj=>Nat.lt_of_lt_of_le (HQw.out j hj) hWr.size) (H1.out.keep (hide_below hWr fun _ _ h=>h)) (H2.out.keep (hide_below hWr fun _ _ h=>h))).mono ?_
           rintro e w' ⟨⟨ag',cg',aS',cs',rfl,k1,k2⟩,k3⟩
           exact⟨⟨ag',cg',aS',cs',rfl,k1,k2⟩,k3,hW.trans (k3.mono hW.size)⟩
          have HRx:Hid (∀ v1 W ag' cg' aS' cs',exE.In (World.hide v1 (hid q (.slice va L vc))) yg ag' cg'→bdE.In (World.hide v1 (hid q (.slice va L vc))) ys aS' cs'→Below v1.heap.size v1 W→edE.R (World.hide W (hid q (.slice va L vc))) ⟨nf,nt,yg,ys⟩ [.int .i64 nf,.int .i64 nt,.slice ag' yg.length cg',.slice aS' ys.length cs']):=fun v1 W ag' cg' aS' cs' k1 k2 hW=>⟨ag',cg',aS',cs',rfl,k1.keep (hide_below hW fun _ _ h=>h),k2.keep (hide_below hW fun _ _ h=>h)⟩
          have HZ2:Hid (∀ W,Below W5.heap.size W5 W→W.cell? ⟨Bo,1,none⟩=some (.slice va L vc)∧W.cell? ⟨wr.heap.size,0,none⟩=some (.int .i64 fn)∧W.cell? ⟨wr.heap.size,1,none⟩=some (.int .i64 tn)∧W.cell? ⟨wr.heap.size,2,none⟩=some (.slice ag yg.length cg)∧W.cell? ⟨wr.heap.size,3,none⟩=some (.slice aS ys.length cs)):=fun W hW=>⟨keeps_of_below hW _ _ i1,keeps_of_below hW _ _ q0,keeps_of_below hW _ _ q1,keeps_of_below hW _ _ q2,keeps_of_below hW _ _ q3⟩
          clear hbo5 cA cB cC HF1 HF2 HM5 HMr HRAr HRBr
          go_region_law (first
           | (go_simp;go_at_call 71;(with_reducible refine(HCp.out _ (by first | with_reducible assumption | exact belR)).mono ?_);rintro e v1 ⟨⟨ag',cg',aS',cs',rfl,hg1,hs1⟩,hb1,hB1⟩;have hz1:=hB1.size;have HG1:=Lib.hid hg1;have HS1:=Lib.hid hs1;obtain⟨j5,j0,j1,j2,j3⟩:=HZ2.out _ hB1;have J5:=fun o=>Lib.cell?_alloc_some o j5;clear hg1 hs1)
           | (refine step_addE (E:=edE) elemED (by rfl) _ _ (by rfl) q (Bo+1) (.slice va L vc) (by rfl) (HO5.out.below (by first | exact Below.refl _ _ | exact belR)) ⟨nf,nt,yg,ys⟩ [.int .i64 nf,.int .i64 nt,.slice ag' yg.length cg',.slice aS' ys.length cs'] (HRx.out _ _ _ _ _ _ HG1.out HS1.out (by first | with_reducible assumption | exact belR)) _ 1 (by rfl) (by first | exact heap_alloc_new' _ _ | exact hbT hb1 (hx_newT rfl)) L HL.out (by omega) (by first | omega | (simp;omega)) _ rfl ?_;intro gg gcap wg hownG hgrow hatG hltG;have hbg:wg.heap[Bo]? = some (.cells #[.int .i64 (numK A Z st:Nat),.slice va L vc,.slice none 0 0] 33 (0,0)):=((hgrow.block Bo (by first | omega | (simp;omega)) (fun e=>by have:=(HVo.out _ e.symm).1;omega)).trans ((Below.block (B:=W5.heap.size) (by first | with_reducible assumption | exact belR) _ (by omega)).trans HBo5.out));obtain⟨i0,i1,i2⟩:=cell3T hbg;have iF1:wg.frozen? ⟨Bo,1,none⟩=false:=(by simp[World.frozen?,hbg])))
          all_goals
           have hNew:=cp_step HBr.out HB5.out (by first | with_reducible assumption | exact belR) hgrow (by omega) (fun j hj=>by have:=(HVo.out j hj).1;omega)
           have hgg:=(own_vlt hownG gg rfl).1
           have hq2:q Bo=true:=(Q.out _).2 (Or.inr (Or.inr rfl))
           have HO9:Hid (edE.Own 69 q (wg.setCell ⟨Bo,1,none⟩ (.slice (some ⟨gg,0,none⟩) (L+1) gcap)) (Bo+1) (.slice (some ⟨gg,0,none⟩) (L+1) gcap) (EL (m+1))):=by
            show edE.Own _ _ _ _ _ _
            rw[HS'.out]
            exact own_storeB hq2 (fun e=>by have:=Option.some.inj e;simp only at this;omega) hownG
           have HZ9:Hid ((wg.setCell ⟨Bo,1,none⟩ (.slice (some ⟨gg,0,none⟩) (L+1) gcap)).heap[Bo]? = some (.cells #[.int .i64 (numK A Z st:Nat),.slice (some ⟨gg,0,none⟩) (L+1) gcap,.slice none 0 0] 33 (0,0))):=by show _=_;rw[heap_setCell_same _ Bo 1 _ _ _ hbg];rfl
           have HB9:Hid (Below Bo W8 (wg.setCell ⟨Bo,1,none⟩ (.slice (some ⟨gg,0,none⟩) (L+1) gcap))):=hNew.setCell (Nat.le_refl _) _
           clear hNew hownG hgrow hatG hltG hbg hgg
           go_wp2_with fail
           go_roundw
           case rel=>exact⟨m+1,_,by go_num,by omega,HZ9.out,HO9.out,HB9.out⟩
           case measure=>(simp[intOf];try omega)
         ·obtain⟨hO,hBl,hBx⟩:=HNw.out hg
          have HO':=Lib.hid hO
          have HBl:=Lib.hid hBl
          have HBx:=Lib.hid hBx
          clear hO hBl hBx HNw HS hg
          rcases hgo with ⟨rfl,rfl⟩ | ⟨rfl,rfl⟩ | ⟨rfl,rfl⟩ | ⟨rfl,rfl,rfl⟩ | ⟨rfl,rfl,rfl,rfl⟩ | ⟨rfl,rfl,rfl,rfl,rfl⟩
          all_goals
           (try rw[if_pos rfl] at HF1)
           (try rw[if_neg (by decide)] at HF1)
           (try rw[if_pos rfl] at HF2)
           (try rw[if_neg (by decide)] at HF2)
           go_wp2_with (first
         | (at_lookup;refine wp_mapV_some _ rfl _ _ 112 3 rfl keyed_intT (by kernel_rfl) (zero_intT _) rfl HM5.out _ _ rfl (key_intT (i:=fn) (by omega)) _ HF1.out ?_)
         | (at_lookup;refine wp_mapV_some _ rfl _ _ 112 3 rfl keyed_intT (by kernel_rfl) (zero_intT _) rfl HM5.out _ _ rfl (key_intT (i:=tn) (by omega)) _ HF2.out ?_)
         | (at_lookup;refine wp_mapV_none _ rfl _ _ 112 3 rfl keyed_intT (by kernel_rfl) (zero_intT _) rfl HM5.out _ _ rfl (key_intT (i:=fn) (by omega)) HF1.out ?_)
         | (at_lookup;refine wp_mapV_none _ rfl _ _ 112 3 rfl keyed_intT (by kernel_rfl) (zero_intT _) rfl HM5.out _ _ rfl (key_intT (i:=tn) (by omega)) HF2.out ?_))
           go_roundw
           case rel=>exact⟨m+1,_,by go_num,by omega,HBx.out,HO'.out,HBl.out⟩
           case measure=>(simp[intOf];try omega)
        ·obtain rfl:m=n.edges.length:=by omega
         obtain⟨a',c',hv',hin⟩:=HO.out.sliceR (by rw[HL.out];omega) (fun _ h=>h) HQl.out
         rw[HL.out] at hv'
         injection hv' with e1 e2 e3
         subst e1 e3
         have HE0:=Lib.hid hin
         have hbx:=(HBr.out.block w.heap.size (by omega)).trans HX8.out
         obtain⟨-,-,b2⟩:=cell3T hbx
         (try simp only at b2)
         have HXr:=Lib.hid hbx
         clear hbx hin HO HVo HQw hsl
         go_wp2_with fail
         clear b2
         obtain⟨AL,HAL⟩:∃ AL:Nat→List Int,Hid (∀ m,AL m=((n.accept.take m).filter fun s=>keptS A Z s.toNat).map fun s=>(numK A Z s.toNat:Int)):=⟨_,fun _=>rfl⟩
         have HAL0:Hid (AL 0=[]):=by show _=_;rw[HAL.out];simp
         have HALs:Hid (∀ m (h:m < n.accept.length),AL (m+1)=AL m++(if keptS A Z (n.accept[m]'h).toNat=true then [(numK A Z (n.accept[m]'h).toNat:Int)] else [])):=fun m h=>by
          rw[HAL.out,HAL.out,List.take_succ_eq_append_getElem h,List.filter_append,List.map_append]
          congr 1
          by_cases hg:keptS A Z (n.accept[m]'h).toNat=true
          ·rw[List.filter_cons,if_pos hg,if_pos hg];rfl
          ·rw[List.filter_cons,if_neg hg,if_neg hg];rfl
         have HALl:Hid (∀ m,(AL m).length≤m):=fun m=>by
          rw[HAL.out,List.length_map]
          exact Nat.le_trans (List.length_filter_le _ _) (by rw[List.length_take];omega)
         have HALe:Hid (AL n.accept.length=(trimAB n A Z).accept):=by show _=_;rw[HAL.out,List.take_length];rfl
         have HAk:Hid (∀ s,keptS A Z s=(keptS A Z s && A.getD s false)):=fun s=>by
          have:=trim_acc HOk.out s
          rw[HA.out,HZ.out] at this
          exact this
         clear HAL
         have HS0:Hid (Below Bo W8 wr):=HBr
         go_loopw [148,19,20,21] (fun i _ _ _ wr=>∃ (m:Nat) (va2:Value),i=.int .i64 m∧m≤n.accept.length∧Hid (wr.heap[Bo]? = some (.cells #[.int .i64 (numK A Z st:Nat),.slice va L vc,va2] 33 (0,0)))∧Hid (edE.In (World.hide wr (hid q va2)) (EL n.edges.length) va vc)∧Hid (inE.Own 3 q wr (Bo+1) va2 (AL m))∧Hid (Below Bo W8 wr)) (fun i _ _ _ _=>n.accept.length - (intOf i).toNat)
         case atStart=>exact⟨0,.slice none 0 0,rfl,Nat.zero_le _,HB,HE0.out.keep (hide_mono fun k hk=>(hid_true.1 hk).elim id fun e=>by simp[Value.ownBlock] at e),by show inE.Own _ _ _ _ _ _;rw[HAL0.out];exact Enc.Own.nil _ _ _ _ _,HS0⟩
         case round =>
          clear HE0 HS0 HB HBr HMr HRAr HRBr HXr
          (try rename World=>wr)
          obtain⟨m,va2,rfl,hm2,HB,HE,HO,HBr⟩:=hrel
          have hzr:=lt_of_block HB.out
          have HBwr:Hid (Below w.heap.size w wr):=HBw8.out.trans (HBr.out.mono (by omega))
          have hell:=HALl.out m
          obtain⟨vb,vd,hv,hsl⟩:=HO.out.slice (by omega)
          obtain⟨L2,HL2⟩:∃ L2,Hid ((AL m).length=L2):=⟨_,rfl⟩
          rw[HL2.out] at hv hell
          subst hv
          have HVo:Hid (∀ j,(Value.slice vb L2 vd).ownBlock=some j→Bo+1≤j∧j < wr.heap.size):=own_vlt HO.out
          have HMr:Hid (MapV wr Tryz.prog 3 wc.heap.size (numK A Z st) (numF A Z st)):=HM8.out.belowB HBr.out hmlt
          have HRAr:Hid (BRow wr bA A):=(HBr.out.block _ hAlt).trans HRA8.out
          clear hsl
          by_cases hlt:m < n.accept.length
          ·obtain⟨bf,of,hfa⟩:=HCA.out.resolve_left (by omega)
           subst hfa
           have g0:=keeps_of_below HBwr.out _ _ (hide_cell _ _ (HXC.out.get rfl hlt))
           rw[List.getD_eq_getElem?_getD,List.getElem?_eq_getElem hlt,Option.getD_some] at g0
           have HS:=Lib.hid (HALs.out m hlt)
           obtain⟨x0,x1⟩:=HAc.out _ (List.getElem_mem hlt)
           generalize (n.accept[m]'hlt)=y at g0 HS x0 x1
           obtain⟨s,rfl⟩:=Int.eq_ofNat_of_zero_le x0
           simp only[Int.toNat_natCast] at HS
           have hs:s < st:=by omega
           have cA:=HRAr.out.cell (i:=s) (by rw[HAl.out.1];exact hs)
           have HF1:=Lib.hid (numF_at A Z hs)
           have HK1:=HAk.out s
           generalize hk1:keptS A Z s=k1 at HF1 HS HK1
           generalize hA1:A.getD s false=a1 at cA HK1
           clear hk1 hA1
           have hgo:(k1=true∧a1=true)∨k1=false:=by cases k1<;>cases a1<;>simp at HK1⊢
           clear HK1
           rcases hgo with ⟨rfl,rfl⟩ | rfl
           ·rw[if_pos rfl] at HF1
            have HS':Hid (AL (m+1)=AL m++[(numK A Z s:Int)]):=by show _=_;rw[HS.out];rfl
            obtain⟨-,-,i2⟩:=cell3T HB.out
            have f2:wr.frozen? ⟨Bo,2,none⟩=false:=by have:=HB.out;simp[World.frozen?,this]
            have I2:∀ o,(wr.alloc o).cell? ⟨Bo,2,none⟩=some (.slice vb L2 vd):=fun o=>Lib.cell?_alloc_some _ i2
            clear HS
            go_wp2_with (first
           | (at_lookup;refine wp_mapV_some _ rfl _ _ 112 3 rfl keyed_intT (by kernel_rfl) (zero_intT _) rfl HMr.out _ _ rfl (key_intT (i:=s) (by omega)) _ HF1.out ?_)
           | (at_lookup;refine wp_mapV_none _ rfl _ _ 112 3 rfl keyed_intT (by kernel_rfl) (zero_intT _) rfl HMr.out _ _ rfl (key_intT (i:=s) (by omega)) HF1.out ?_)
           | (at_builtin;go_must (refine own_addE (E:=inE) elemIN _ rfl (.tmp 166) (.tmp 168) rfl q (Bo+1) _ rfl HO.out (numK A Z s:Int) [.int .i64 (numK A Z s:Int)] rfl _ _ rfl rfl L2 HL2.out (by omega) (by omega) ?_)))
            intro g9 cap9 w7 ho hg hat
            have hbg:w7.heap[Bo]? = some (.cells #[.int .i64 (numK A Z st:Nat),.slice va L vc,.slice vb L2 vd] 33 (0,0)):=(hg.block _ hzr fun e=>by have:=(HVo.out _ e.symm).1;omega).trans HB.out
            obtain⟨-,-,i3⟩:=cell3T hbg
            have f3:w7.frozen? ⟨Bo,2,none⟩=false:=by simp[World.frozen?,hbg]
            have hgg:=(own_vlt ho g9 rfl).1
            have hq2:q Bo=true:=(Q.out _).2 (Or.inr (Or.inr rfl))
            have HO9:Hid (inE.Own 3 q (w7.setCell ⟨Bo,2,none⟩ (.slice (some ⟨g9,0,none⟩) (L2+1) cap9)) (Bo+1) (.slice (some ⟨g9,0,none⟩) (L2+1) cap9) (AL (m+1))):=by
             show inE.Own _ _ _ _ _ _
             rw[HS'.out]
             exact own_storeB hq2 (fun e=>by have:=Option.some.inj e;simp only at this;omega) ho
            have HZ9:Hid ((w7.setCell ⟨Bo,2,none⟩ (.slice (some ⟨g9,0,none⟩) (L2+1) cap9)).heap[Bo]? = some (.cells #[.int .i64 (numK A Z st:Nat),.slice va L vc,.slice (some ⟨g9,0,none⟩) (L2+1) cap9] 33 (0,0))):=by show _=_;rw[heap_setCell_same _ Bo 2 _ _ _ hbg];rfl
            have HB9:Hid (Below Bo W8 (w7.setCell ⟨Bo,2,none⟩ (.slice (some ⟨g9,0,none⟩) (L2+1) cap9))):=(HBr.out.grown hg (by omega) fun j hj=>by have:=(HVo.out j hj).1;omega).setCell (Nat.le_refl _) _
            have HE9:Hid (edE.In (World.hide (w7.setCell ⟨Bo,2,none⟩ (.slice (some ⟨g9,0,none⟩) (L2+1) cap9)) (hid q (.slice (some ⟨g9,0,none⟩) (L2+1) cap9))) (EL n.edges.length) va vc):=(HE.out.keep (hide_grown hg (fun j hj=>hid_true.2 (Or.inr hj)) fun j hj h=>by
             rcases hid_true.1 h with h | h
             ·exact hid_true.2 (Or.inl h)
             ·have e:=Option.some.inj h
              simp only at e
              subst e
              rcases hat with h2 | h2
              ·exact hid_true.2 (Or.inr h2)
              ·omega)).keep (hide_store (hid_true.2 (Or.inl hq2)))
            clear ho hg hat hbg hgg
            go_wp2_with fail
            go_roundw
            case rel=>exact⟨m+1,_,by go_num,by omega,HZ9.out,HE9.out,HO9.out,HB9.out⟩
            case measure=>(simp[intOf];try omega)
           ·rw[if_neg (by decide)] at HF1
            have HS':Hid (AL (m+1)=AL m):=by show _=_;rw[HS.out];simp
            have HOn:Hid (inE.Own 3 q wr (Bo+1) (.slice vb L2 vd) (AL (m+1))):=by show inE.Own _ _ _ _ _ _;rw[HS'.out];exact HO.out
            clear HS HS'
            go_wp2_with (first
           | (at_lookup;refine wp_mapV_some _ rfl _ _ 112 3 rfl keyed_intT (by kernel_rfl) (zero_intT _) rfl HMr.out _ _ rfl (key_intT (i:=s) (by omega)) _ HF1.out ?_)
           | (at_lookup;refine wp_mapV_none _ rfl _ _ 112 3 rfl keyed_intT (by kernel_rfl) (zero_intT _) rfl HMr.out _ _ rfl (key_intT (i:=s) (by omega)) HF1.out ?_))
            go_roundw
            case rel=>exact⟨m+1,_,by go_num,by omega,HB.out,HE.out,HOn.out,HBr.out⟩
            case measure=>(simp[intOf];try omega)
          ·obtain rfl:m=n.accept.length:=by omega
           obtain⟨a'',c'',hv',hin⟩:=HO.out.sliceR (by rw[HL2.out];omega) (fun _ h=>h) HQl.out
           rw[HL2.out] at hv'
           injection hv' with e1 e2 e3
           subst e1 e3
           have HC9:=Lib.hid (inE_in.1 hin)
           have hy:wr.heap[w.heap.size+1]? = some (.cells #[.int .i64 0,.slice none 0 0,.slice none 0 0] 33 (0,0)):=(HBr.out.block _ (by omega)).trans HY8.out
           obtain⟨z0,z1,z2⟩:=cell3T HB.out
           obtain⟨r0,r1,r2⟩:=cell3T hy
           have r0f:wr.frozen? ⟨w.heap.size+1,0,none⟩=false:=by simp[World.frozen?,hy]
           have r1f:wr.frozen? ⟨w.heap.size+1,1,none⟩=false:=by simp[World.frozen?,hy]
           have r2f:wr.frozen? ⟨w.heap.size+1,2,none⟩=false:=by simp[World.frozen?,hy]
           have HYe:=Lib.hid hy
           clear hy hin
           go_wp2_with fail
           refine bodyPost_ret (v:=.agg #[.int .i64 (numK A Z st:Nat),.slice va L vc,.slice vb L2 vd]) (nf_res1 _ rfl _ _ (w.heap.size+1) _ _ _ (set3 HYe.out) rfl) rfl ?_
           have hq1:q (w.heap.size+1)=true:=(Q.out _).2 (Or.inr (Or.inl rfl))
           have hkp:∀ (s:Nat→Bool) (u0 u1 u2:Value),(∀ j,q j=true→s j=true)→Kp (World.hide wr s) (World.hide (((wr.setCell ⟨w.heap.size+1,0,none⟩ u0).setCell ⟨w.heap.size+1,1,none⟩ u1).setCell ⟨w.heap.size+1,2,none⟩ u2) p):=fun s u0 u1 u2 hs =>
            Kp.trans (hide_store (hs _ hq1)) (Kp.trans (hide_store (hs _ hq1)) (Kp.trans (hide_store (hs _ hq1)) (hide_mono fun j hj=>hs _ ((Q.out j).2 (Or.inl hj)))))
           have hE1:=HE.out.keep (hkp _ (.int .i64 (numK A Z st:Nat)) (.slice va L vc) (.slice vb L2 vd) fun j hj=>hid_true.2 (Or.inl hj))
           have hC1:=IntsIn.keep (hkp _ (.int .i64 (numK A Z st:Nat)) (.slice va L vc) (.slice vb L2 vd) fun _ h=>h) HC9.out
           have hF:=HY.out (((wr.setCell ⟨w.heap.size+1,0,none⟩ (.int .i64 (numK A Z st:Nat))).setCell ⟨w.heap.size+1,1,none⟩ (.slice va L vc)).setCell ⟨w.heap.size+1,2,none⟩ (.slice vb L2 vd)) ⟨va,vc,vb,vd⟩ (by
            rw[HA.out,HZ.out]
            exact⟨by rw[← HELe.out];exact hE1,by rw[← HALe.out];exact hC1⟩) (((HBwr.out.setCell (by simp) _).setCell (by simp) _).setCell (by simp) _)
           rw[HA.out,HZ.out,← HELe.out,← HALe.out,HL.out,HL2.out] at hF
           simp only[trimAB,HSt.out,Int.toNat_natCast] at hF
           exact hF
end Go.Proofs.YthojpomoflhbcaaGreatDoor
